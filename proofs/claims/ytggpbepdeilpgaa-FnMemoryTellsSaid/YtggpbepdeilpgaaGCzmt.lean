/- Contracts of functions that get a pointer to a box, which they may write: what it holds then. -/
import Derived.Test.YtggpbepdeilpgaaGBzmt
namespace Go.Proofs.Ytggpbepdeilpgaa
open Go.RowKit
set_option linter.unusedVariables false
set_option linter.unusedSimpArgs false
mutual
def AV.nm :AV→List Nat
 | .int _ _=> []
 | .bool _=> []
 | .sl d _ _ _ _=> [2*d]
 | .nil=> []
 | .ep d _ _=> [2*d]
 | .bp t _=> [2*t+1]
 | .agg vs=>AV.nmL vs
 | .tup vs=>AV.nmL vs
 | .fn _ vs=>AV.nmL vs
 | .dead=> []
 | .raw u=> []
def AV.nmL :List AV→List Nat
 | []=> []
 |v::vs=>v.nm++AV.nmL vs
end
theorem yG {n:Nat}: ∀{vs:List AV},n∈AV.nmL vs↔∃v∈vs,n∈v.nm
 | []=>by simp [AV.nmL]
 |v::vs=>by simp [AV.nmL,yG (vs:=vs)]
def gm (own:List Nat)(id:Nat):Md:=if own.contains id then .ex id []else .sh
def Wv (x:VT)(v:Value)(cs:List Value):Prop:=
 (∃d c,x= .c d∧cs= [c]∧v=c)∨(∃ds,x= .agg ds∧v= .agg cs.toArray)∨(∃f ds,x= .fn f ds∧v= .func (.func f) #[] cs.toArray)
def Kb (S:TypeId→Nat)(lo:Nat)(w:World)(ow:Nat→Option Pl)(own:List Nat)(args:List VT)(cargs:List Value):Prop:=
 cargs.length=args.length∧∀(m:Nat) (x:VT) (v:Value),args[m]? =some x→cargs[m]? =some v→∃cs:List Value,cs.length=x.cells.length∧
  (∀(j:Nat) (d:D) (c:Value),x.cells[j]? =some d→cs[j]? =some c→Rp S lo w ow (gm own (zb m j)) d c)∧Wv x v cs
def owG (g:Nat):Nat→Option Pl:=fun b=>if b=g then some .ext else none
structure zES (w w1:World)(g:Nat)(o:Obj):Prop where
 os:w1.os=w.os
 tape:w1.tape=w.tape
 output:w1.output=w.output
 size:w1.heap.size=w.heap.size
 other: ∀k,k≠g→w1.heap[k]? =w.heap[k]?
 it:w1.heap[g]? =some o
def UP (τ:Ty)(w:World)(g:Nat)(cs:List Value)(ds':List D)(ress:List VT)(e:Ending)(w':World):Prop:=
 ∃(cs':List Value) (ty':TypeId) (w1:World),cs'.length=cs.length∧(∀(i:Nat) (d:D) (c:Value),ds'[i]? =some d→cs'[i]? =some c→match d with| .int k n=>c= .int k n| .bool b=>c= .bool b|_=>cs[i]? =some c)∧
  zES w w1 g (.cells cs'.toArray ty' (0,0))∧jr τ w1 ress e w'
def FnB (P:Program)(τ:Ty)(f:FuncId)(ds:List D)(args:List VT)(ds':List D)(ress:List VT):Prop:=
 qz P f∧ds'.length=ds.length∧∀(w:World) (g:Nat) (cs cargs:List Value) (ty:TypeId),w.heap[g]? =some (.cells cs.toArray ty (0,0))→cs.length=ds.length→
  (∀(i:Nat) (d:D) (c:Value),ds[i]? =some d→cs[i]? =some c→Rp (sz τ) 0 w (owG g) .sh d c)→Kb (sz τ) 0 w (owG g) [] args cargs→
  Calls P f (Value.pointer (some ⟨g,0,none⟩)::cargs).toArray w (UP τ w g cs ds' ress)
def xn :List AV→List D→List AV
 |v::vs,d::ds=>(match d with| .int k n=> .int k n| .bool b=> .bool b|_=>v)::xn vs ds
 |vs,[]=>vs
 | [],_=> []
theorem VX {v:AV}: ∀{vs:List AV} {ds:List D},v∈xn vs ds→v∈vs∨(∃k n,v= .int k n)∨∃b,v= .bool b
 | [],[],h=>by simp [xn]at h
 | [],_::_,h=>by simp [xn]at h
 |_::_,[],h=> .inl h
 |x::vs,d::ds,h=>by
  simp only [xn,List.mem_cons]at h
  rcases h with h|h
  ·cases d with
   |int k n=>exact .inr (.inl ⟨k,n,h⟩)
   |bool b=>exact .inr (.inr ⟨b,h⟩)
   |hole=>simp only at h;exact .inl (by simp [h])
   |lst e xs=>simp only at h;exact .inl (by simp [h])
  ·rcases VX h with h|h
   ·exact .inl (by simp [h])
   ·exact .inr h
def xp :AV→List AV
 | .agg us=>us
 | .fn _ us=>us
 |v=> [v]
section
variable {P:Program} {τ:Ty} {lo:Nat} {w0:Fz} {ow:Nat→Option Pl} {hd:Nat→Value} {bk:Nat→Nat} {st:St} {a:Act} {w:World}
theorem zCL (h:ze τ lo w0 ow hd bk st a w){ow':Nat→Option Pl}{d:Nat}{p:List Nat}{off len:Nat}{e:TypeId}{R:zr}(hR:lk st.r d=some R)(hs: ∀b,b<w.heap.size→rel (md R.o d) (ow b)→ow' b=none)(hp:zk R.xs p){v hv:Value}(hin:yC w (hd d) p=some hv)(hsub:Sub (sz τ e) hv off len v)(he:vF R.e R.xs p=e):
  ∀lo',Rp (sz τ) lo' w ow' .sh (.lst e (((yI R.xs p).drop (off*sz τ e)).take (len*sz τ e))) v:=by
 intro lo'
 obtain⟨m',e',u,i1,i2,irel,i3,-⟩:=YP p _ _ _ _ (h.root d R hR) hp
 have hse:sz τ e'=sz τ e:=by rw [i3,he]
 rw [hin]at i1;cases i1
 obtain⟨vs,k1,k5⟩:=(zw _ _).1 (zHy (lo':=lo') (Qz _ _ (ow':=ow') _ _ _ (fun b hb hr=>hs b hb (irel _ hr)) i2))
 obtain⟨A,n,c,A',c',hnw,rfl,rfl,hle,hlc,hmx,hf,hA⟩:=hsub
 obtain⟨k2,N,k3,A2,c2,hv,hN,hc2,k4⟩:=k1
 cases hv
 rw [hse]at k3
 have hdrop:(off+len)*sz τ e≤(yI R.xs p).length:=by rw [k3];exact Nat.mul_le_mul_right _ hle
 have hlen:(((yI R.xs p).drop (off*sz τ e)).take (len*sz τ e)).length=len*sz τ e:=by rw [List.length_take,List.length_drop];rw [Nat.add_mul]at hdrop;omega
 have hvlen:((vs.drop (off*sz τ e)).take (len*sz τ e)).length=len*sz τ e:=by rw [List.length_take,List.length_drop,k2];rw [Nat.add_mul]at hdrop;omega
 refine(zw _ _).2 ⟨(vs.drop (off*sz τ e)).take (len*sz τ e),⟨by rw [hvlen,hlen],len,hlen,A',c',rfl,hlc,hmx,fun h0=> ?_⟩,fun i x u hx hu=> ?_⟩
 ·obtain⟨b,o,hA1,hA2⟩:=hA h0
  have hn0:n≠0:=by omega
  obtain⟨b',o',e1,hb,hob,hcell⟩:=k4 hn0
  rw [hA1]at e1;cases e1
  refine⟨b,_,hA2,hb,hob,fun i u hu=> ?_⟩
  rw [List.getElem?_take]at hu
  split at hu
  ·rw [List.getElem?_drop]at hu
   have :=hcell _ u hu
   rwa [←Nat.add_assoc]at this
  ·cases hu
 ·rw [List.getElem?_take]at hx hu
  split at hx
  ·rename_i hh
   rw [if_pos hh,List.getElem?_drop]at hu
   rw [List.getElem?_drop]at hx
   have :=k5 _ _ _ hx hu
   exact this
  ·cases hx
theorem Zq (h:ze τ lo w0 ow hd bk st a w){ow':Nat→Option Pl}{v:AV}(hs: ∀d R,2*d∈v.nm→lk st.r d=some R→∀b,b<w.heap.size→rel (md R.o d) (ow b)→ow' b=none){x:Value}(hv:AvR τ w st.r st.b hd bk v x){d:D}{ob:Prop}(he:cellsOf τ st v=some (d,ob))(hob:ob)(lo':Nat):Rp (sz τ) lo' w ow' .sh d x:=by
 cases v<;>simp only [cellsOf]at he<;>try(cases he;done)
 case int k n=>simp only [Option.some.injEq,Prod.mk.injEq]at he;obtain⟨rfl,rfl⟩:=he;simpa only [AvR,Rp]using hv
 case bool b=>simp only [Option.some.injEq,Prod.mk.injEq]at he;obtain⟨rfl,rfl⟩:=he;simpa only [AvR,Rp]using hv
 case sl d p off len e=>
  cases hR:lk st.r d with
  |none=>rw [hR]at he;cases he
  |some R=>
   rw [hR]at he
   simp only [Option.some.injEq,Prod.mk.injEq]at he
   obtain⟨rfl,rfl⟩:=he
   simp only [AvR]at hv
   obtain⟨hv',hin,hsub⟩:=hv.2 R hR hob.1
   exact zCL h hR (hs d R (by simp [AV.nm]) hR) hob.1 hin hsub hob.2 lo'
theorem YD : ∀{vs:List AV} {ds:List D} {ob:Prop},xC τ st vs=some (ds,ob)→ob→vs.length=ds.length∧∀(j:Nat) (v:AV) (d:D),vs[j]? =some v→ds[j]? =some d→∃ob',cellsOf τ st v=some (d,ob')∧ob'
 | [],ds,ob,he,hob=>by
  simp only [xC,Option.some.injEq,Prod.mk.injEq]at he
  obtain⟨rfl,rfl⟩:=he
  exact⟨rfl,fun j v d h=>by simp at h⟩
 |v::vs,ds,ob,he,hob=>by
  simp only [xC]at he
  split at he
  ·rename_i d p ds' q e1 e2
   simp only [Option.some.injEq,Prod.mk.injEq]at he
   obtain⟨rfl,rfl⟩:=he
   obtain⟨h1,h2⟩:=YD e2 hob.2
   refine⟨by simp [h1],fun j v' d' hv hd=> ?_⟩
   cases j with
   |zero=>simp at hv hd;subst hv;subst hd;exact⟨p,e1,hob.1⟩
   |succ j=>exact h2 j v' d' (by simpa using hv) (by simpa using hd)
  ·cases he
theorem Vy : ∀{vs:List AV} {ts:List TypeId} {ds:List VT} {ob:Prop},ye τ st ts vs=some (ds,ob)→ob→vs.length=ds.length∧∀(j:Nat) (v:AV) (d:VT),vs[j]? =some v→ds[j]? =some d→∃t ob',vp τ st t v=some (d,ob')∧ob'
 | [],ts,ds,ob,he,hob=>by
  simp only [ye,Option.some.injEq,Prod.mk.injEq]at he
  obtain⟨rfl,rfl⟩:=he
  exact⟨rfl,fun j v d h=>by simp at h⟩
 |v::vs,ts,ds,ob,he,hob=>by
  simp only [ye]at he
  split at he
  ·rename_i d p ds' q e1 e2
   simp only [Option.some.injEq,Prod.mk.injEq]at he
   obtain⟨rfl,rfl⟩:=he
   obtain⟨h1,h2⟩:=Vy e2 hob.2
   refine⟨by simp [h1],fun j v' d' hv hd=> ?_⟩
   cases j with
   |zero=>simp at hv hd;subst hv;subst hd;exact⟨_,p,e1,hob.1⟩
   |succ j=>exact h2 j v' d' (by simpa using hv) (by simpa using hd)
  ·cases he
theorem uN : ∀{ks:List CK} {vs:List AV} {ds:List D} {ob:Prop},qI τ st ks vs=some (ds,ob)→ob→vs.length=ds.length∧∀(j:Nat) (v:AV) (d:D),vs[j]? =some v→ds[j]? =some d→(∃ob',cellsOf τ st v=some (d,ob')∧ob')∨(v= .nil∧∃e,d= .lst e [])
 |ks,[],ds,ob,he,hob=>by
  simp only [qI,Option.some.injEq,Prod.mk.injEq]at he
  obtain⟨rfl,rfl⟩:=he
  exact⟨rfl,fun j v d hv=>by simp at hv⟩
 | [],v::vs,ds,ob,he,hob=>by simp only [qI]at he;cases he
 |k::ks,v::vs,ds,ob,he,hob=>by
  simp only [qI]at he
  split at he
  ·rename_i d p ds' q e1 e2
   simp only [Option.some.injEq,Prod.mk.injEq]at he
   obtain⟨rfl,rfl⟩:=he
   obtain⟨h1,h2⟩:=uN e2 hob.2
   refine⟨by simp [h1],fun j v' d' hv hd=> ?_⟩
   cases j with
   |succ j=>exact h2 j v' d' (by simpa using hv) (by simpa using hd)
   |zero=>
    simp at hv hd;subst hv;subst hd
    unfold XX at e1
    split at e1
    ·split at e1
     ·cases e1;exact .inr ⟨rfl,_,rfl⟩
     ·cases e1
    ·exact .inl ⟨p,e1,hob.1⟩
  ·cases he
theorem zGW {t:TypeId}{vs:List AV}{ds:List D}{ob:Prop}(he:ZT τ st t vs=some (ds,ob))(hob:ob):vs.length=ds.length∧∀(j:Nat) (v:AV) (d:D),vs[j]? =some v→ds[j]? =some d→(∃ob',cellsOf τ st v=some (d,ob')∧ob')∨(v= .nil∧∃e,d= .lst e []):=by
 unfold ZT at he
 split at he
 ·rename_i x hx
  cases he
  obtain⟨h1,h2⟩:=YD hx hob
  exact⟨h1,fun j v d hv hd=> .inl (h2 j v d hv hd)⟩
 ·exact uN he hob
theorem zAC {t:TypeId}{v:AV}{x:VT}{ob:Prop}(he:vp τ st t v=some (x,ob))(hob:ob){c:Value}(hv:AvR τ w st.r st.b hd bk v c):
  ∃cs:List Value,(xp v).length=x.cells.length∧Wv x c cs∧zY τ w st.r st.b hd bk (xp v) cs∧
   ∀(j:Nat) (u:AV) (d:D),(xp v)[j]? =some u→x.cells[j]? =some d→(∃ob',cellsOf τ st u=some (d,ob')∧ob')∨(u= .nil∧∃e,d= .lst e []):=by
 have plain:xp v= [v]→((cellsOf τ st v).map fun x=>(VT.c x.1,x.2))=some (x,ob)→∃cs:List Value,(xp v).length=x.cells.length∧Wv x c cs∧zY τ w st.r st.b hd bk (xp v) cs∧
   ∀(j:Nat) (u:AV) (d:D),(xp v)[j]? =some u→x.cells[j]? =some d→(∃ob',cellsOf τ st u=some (d,ob')∧ob')∨(u= .nil∧∃e,d= .lst e []):=fun hcv he=>by
  cases hc:cellsOf τ st v with
  |none=>rw [hc]at he;cases he
  |some y=>
   rw [hc]at he
   simp only [Option.map_some,Option.some.injEq,Prod.mk.injEq]at he
   obtain⟨rfl,rfl⟩:=he
   rw [hcv]
   refine⟨[c],rfl, .inl ⟨_,_,rfl,rfl,rfl⟩,by simp only [zY];exact⟨c,[],rfl,hv,rfl⟩,fun j u d hu hd=> ?_⟩
   simp only [VT.cells]at hd
   cases j with
   |succ j=>simp at hu
   |zero=>simp at hu hd;subst hu;subst hd;exact .inl ⟨y.2,hc,hob⟩
 cases v with
 |agg us=>
  simp only [vp]at he
  cases hc:ZT τ st t us with
  |none=>rw [hc]at he;cases he
  |some y=>
   rw [hc]at he
   simp only [Option.map_some,Option.some.injEq,Prod.mk.injEq]at he
   obtain⟨rfl,rfl⟩:=he
   simp only [AvR]at hv
   obtain⟨cs,rfl,hr⟩:=hv
   obtain⟨g1,g2⟩:=zGW (ob:=y.2) (ds:=y.1) hc hob
   exact⟨cs,g1, .inr (.inl ⟨_,rfl,rfl⟩),hr,fun j u d hu hd=>g2 j u d hu hd⟩
 |fn f us=>
  simp only [vp]at he
  cases hc:xC τ st us with
  |none=>rw [hc]at he;cases he
  |some y=>
   rw [hc]at he
   simp only [Option.map_some,Option.some.injEq,Prod.mk.injEq]at he
   obtain⟨rfl,rfl⟩:=he
   simp only [AvR]at hv
   obtain⟨cs,rfl,hr⟩:=hv
   obtain⟨g1,g2⟩:=YD (ob:=y.2) (ds:=y.1) hc hob
   exact⟨cs,g1, .inr (.inr ⟨_,_,rfl,rfl⟩),hr,fun j u d hu hd=> .inl (g2 j u d hu hd)⟩
 |nil=>
  simp only [vp,Option.some.injEq,Prod.mk.injEq]at he
  obtain⟨rfl,rfl⟩:=he
  refine⟨[c],rfl, .inl ⟨_,_,rfl,rfl,rfl⟩,by simp only [xp,zY];exact⟨c,[],rfl,hv,rfl⟩,fun j u d hu hd=> ?_⟩
  cases j with
  |succ j=>simp [xp]at hu
  |zero=>
   simp [xp]at hu;subst hu
   simp only [VT.cells]at hd
   right
   refine⟨rfl,?_⟩
   unfold UY at hd
   split at hd
   ·simp at hd;exact⟨_,hd.symm⟩
   ·simp at hd;exact⟨_,hd.symm⟩
 |int k n=>exact plain rfl he
 |bool b=>exact plain rfl he
 |sl d p off len e=>exact plain rfl he
 |ep d p i=>exact plain rfl he
 |bp t i=>exact plain rfl he
 |tup vs=>exact plain rfl he
 |dead=>exact plain rfl he
 |raw u=>exact plain rfl he
theorem WV {rr:List (Nat×zr)}{bb:List (Nat×List AV)}: ∀{us:List AV} {ds':List D} {cs cs':List Value},zY τ w rr bb hd bk us cs→ds'.length=us.length→cs'.length=cs.length→
  (∀(i:Nat) (d:D) (c:Value),ds'[i]? =some d→cs'[i]? =some c→match d with| .int k n=>c= .int k n| .bool b=>c= .bool b|_=>cs[i]? =some c)→zY τ w rr bb hd bk (xn us ds') cs'
 | [],[],cs,cs',h,_,hl,_=>by
  simp only [zY]at h;subst h
  have :cs'= []:=List.eq_nil_of_length_eq_zero (by simpa using hl)
  subst this
  simp [xn,zY]
 | [],_::_,cs,cs',h,hl,_,_=>by simp at hl
 |_::_,[],cs,cs',h,hl,_,_=>by simp at hl
 |u::us,d::ds',cs,cs',h,hl,hl2,hc=>by
  simp only [zY]at h
  obtain⟨c,cs0,rfl,h1,h2⟩:=h
  cases cs' with
  |nil=>simp at hl2
  |cons c' cs1=>
   simp only [xn,zY]
   refine⟨c',cs1,rfl,?_,WV h2 (by simpa using hl) (by simpa using hl2) fun i d' x hd hx=>by
    have :=hc (i+1) d' x (by simpa using hd) (by simpa using hx)
    cases d'<;>simpa using this⟩
   have h0:=hc 0 d c' rfl rfl
   cases d with
   |int k n=>simp only at h0⊢;subst h0;simp only [AvR]
   |bool b=>simp only at h0⊢;subst h0;simp only [AvR]
   |hole=>simp at h0;subst h0;exact h1
   |lst e xs=>simp at h0;subst h0;exact h1
theorem zGQ (h:ze τ lo w0 ow hd bk st a w){T:Nat}{us us':List AV}(hT:lk st.b T=some us){w1:World}{cs':List Value}{ty':TypeId}(hw:zES w w1 (bk T) (.cells cs'.toArray ty' (0,0)))
  (hv:zY τ w st.r st.b hd bk us' cs'):ze τ lo w0 ow hd bk (st.setB T us') a w1:=by
 obtain⟨cs0,ty0,g1,g2,-⟩:=h.box T us hT
 have hlt:bk T<w.heap.size:=(Array.getElem?_eq_some_iff.1 g1).1
 have hoth:=hw.other
 have hsz:=hw.size
 have hlow:=h.ge (bk T) _ hlt g2 (by simp)
 have hrel: ∀d R,lk st.r d=some R→∀b',rel (md R.o d) (ow b')→b'≠bk T:=fun d R hR b' hr e=>by
  subst e
  rw [g2]at hr
  cases ho:R.o<;>rw [ho]at hr<;>simp only [md,rel]at hr
  ·cases hr
  ·obtain⟨q,hq⟩:=hr;cases hq
  ·rcases hr with hr|hr<;>cases hr
 have hD: ∀d,noB d=false→yq w w1 st.r (st.setB T us').r hd hd d:=fun d _ R hR=>⟨R,hR,rfl,fun p hp=>⟨hp,xE p _ _ _ _ (h.root d R hR) hp (fun b' o A n c hb hr hc=>by
  rw [xe (hoth b' (hrel d R hR b' hr))];exact hc)⟩⟩
 have hKB: ∀t,noB t=false→yp st.b (st.setB T us').b bk bk t:=fun t _ hl=>by
  simp only [St.setB,zd]at hl
  by_cases e:T=t
  ·subst e;exact⟨⟨_,hT⟩,rfl⟩
  ·rw [if_neg e]at hl;exact⟨hl,rfl⟩
 refine⟨h.big,h.defers,h.size,by rw [hsz];exact h.low,?_,fun b' p hb hp hne=>h.ge b' p (by rw [hsz]at hb;exact hb) hp hne,fun b' hb=>h.new b' (by rw [hsz]at hb;exact hb),fun k v hk=> ?_,fun d R hR=> ?_,fun t ws hv'=> ?_,fun d R i hR hp=>h.pin d R i hR hp⟩
 ·exact h.below.step hw.os hw.tape hw.output (by rw [hsz];exact Nat.le_refl _) (fun k _ hk=>hoth k (fun e=>hk (by rw [e];exact hlow.2)))
 ·have :=yl hD hKB v _ (h.slot k v hk)
  rwa [qX]at this
 ·exact yE _ _ (by rw [hsz];exact Nat.le_refl _) _ _ _ (fun b' hb hr=>⟨hoth b' (hrel d R hR b' hr),rfl⟩) (h.root d R hR)
 ·simp only [St.setB,zd]at hv'
  split at hv'
  ·rename_i e;subst e;cases hv'
   have :=yA hD hKB us' cs' hv
   rw [xF]at this
   exact⟨cs',ty',hw.it,g2,this⟩
  ·rename_i hne
   obtain⟨cs,ty,k1,k2,k3⟩:=h.box t ws hv'
   have :=yA hD hKB ws cs k3
   rw [xF]at this
   refine⟨cs,ty,?_,k2,this⟩
   rw [hoth _ (fun e=>by rw [e,g2]at k2;cases k2;exact hne rfl)]
   exact k1
theorem zBu (h:ze τ lo w0 ow hd bk st a w){T:Nat}{us:List AV}(hT:lk st.b T=some us){vs:List AV}{cv:List Value}(hv:zY τ w st.r st.b hd bk vs cv){ts:List TypeId}{as:List VT}{ob:Prop}(he:ye τ st ts vs=some (as,ob))(hob:ob):Kb (sz τ) 0 w (owG (bk T)) [] as cv:=by
 obtain⟨a1,a2⟩:=Vy he hob
 obtain⟨v1,v2⟩:=zp.1 hv
 obtain⟨cs0,ty0,g1,g2,-⟩:=h.box T us hT
 have hown: ∀(o:O3) (d b:Nat),rel (md o d) (ow b)→owG (bk T) b=none:=fun o d b hr=>by
  unfold owG
  rw [if_neg]
  intro e;subst e
  rw [g2]at hr
  cases o<;>simp only [md,rel]at hr
  ·cases hr
  ·obtain⟨q,hq⟩:=hr;cases hq
  ·rcases hr with hr|hr<;>cases hr
 refine⟨by omega,fun m x c hx hc=> ?_⟩
 have hm:m<vs.length:=by rw [a1];exact(List.getElem?_eq_some_iff.1 hx).1
 have hvm:=List.getElem?_eq_getElem hm
 obtain⟨t,ob',e1,e2⟩:=a2 m _ x hvm hx
 obtain⟨cs,c1,c2,c3,c4⟩:=zAC e1 e2 (v2 m _ c hvm hc)
 obtain⟨r1,r2⟩:=zp.1 c3
 refine⟨cs,by omega,fun j d cj hd hcj=> ?_,c2⟩
 have hj:j<x.cells.length:=(List.getElem?_eq_some_iff.1 hd).1
 have hju:j<(xp vs[m]).length:=by omega
 have hu:=List.getElem?_eq_getElem hju
 have hav:=r2 j _ cj hu hcj
 unfold gm
 rw [if_neg (by simp)]
 rcases c4 j _ d hu hd with⟨ob',k1,k2⟩|⟨k1,e,rfl⟩
 ·exact Zq h (fun d' R hd' hR b hb hr=>hown R.o d' b hr) hav k1 k2 0
 ·rw [k1]at hav
  simp only [AvR]at hav
  subst hav
  exact(zw _ _).2 ⟨[],⟨rfl,0,by simp,none,0,rfl,Nat.le_refl _,by unfold maxLen;omega,fun h=>absurd rfl h⟩,fun i x u hx=>by simp at hx⟩
theorem zDk (h:ze τ lo w0 ow hd bk st a w){T:Nat}{us:List AV}(hT:lk st.b T=some us){ds:List D}{ob:Prop}(he:xC τ st us=some (ds,ob))(hob:ob):
  ∃cs ty,w.heap[bk T]? =some (.cells (List.toArray cs) ty (0,0))∧cs.length=ds.length∧zY τ w st.r st.b hd bk us cs∧us.length=ds.length∧∀(i:Nat) (d:D) (c:Value),ds[i]? =some d→cs[i]? =some c→Rp (sz τ) 0 w (owG (bk T)) .sh d c:=by
 obtain⟨cs,ty,g1,g2,g3⟩:=h.box T us hT
 obtain⟨l1,l2⟩:=YD he hob
 obtain⟨r1,r2⟩:=zp.1 g3
 refine⟨cs,ty,g1,by omega,g3,l1,fun i d c hd hc=> ?_⟩
 have hi:i<us.length:=by rw [l1];exact(List.getElem?_eq_some_iff.1 hd).1
 have hu:=List.getElem?_eq_getElem hi
 obtain⟨ob',k1,k2⟩:=l2 i _ d hu hd
 refine Zq h (fun d' R hd' hR b hb hr=> ?_) (r2 i _ c hu hc) k1 k2 0
 unfold owG
 rw [if_neg]
 intro e;subst e
 rw [g2]at hr
 cases ho:R.o<;>rw [ho]at hr<;>simp only [md,rel]at hr
 ·cases hr
 ·obtain⟨q,hq⟩:=hr;cases hq
 ·rcases hr with hr|hr<;>cases hr
theorem zCD (h:ze τ lo w0 ow hd bk st a w){T:Nat}{us:List AV}(hT:lk st.b T=some us){cs:List Value}(hcs:zY τ w st.r st.b hd bk us cs){ds':List D}(hl:ds'.length=us.length){ress:List VT}{t:Nat}(hs:szL τ (zv ress)){e:Ending}{w':World}(hp:UP τ w (bk T) cs ds' ress e w'):
  ∃z ow' hd',e= .returned z∧ze τ lo w0 ow' hd' bk (yi t 0 (zv ress) (st.setB T (xn us ds'))) a w'∧AvR τ w' (yi t 0 (zv ress) (st.setB T (xn us ds'))).r (yi t 0 (zv ress) (st.setB T (xn us ds'))).b hd' bk (qk (xT τ t 0 ress)) z:=by
 obtain⟨cs',ty',w1,p1,p2,p3,p4⟩:=hp
 exact Ve (zGQ h hT p3 (WV hcs hl p1 p2)) hs p4
end
def XM {α:Type}(pm:List Nat)(d:α)(xs:List α):List α:=pm.map fun i=>xs.getD i d
def zHx (τ:Ty)(w:World)(pm:List Nat)(ress:List D)(cargs:List Value)(e:Ending)(w':World):Prop:=
 ∃cs0 cs ow',cargs[0]? =some (.agg (List.toArray cs0))∧e= .returned (.agg (List.toArray (XM pm undef cs0++cs)))∧Below w.heap.size w w'∧(∀b,b<w.heap.size→ow' b=none)∧(∀b p,ow' b=some p→b<w'.heap.size∧p≠ .ext)∧RpF (sz τ) w.heap.size w' ow' 0 ress cs
def FnT (P:Program)(τ:Ty)(f:FuncId)(args:List VT)(pm:List Nat)(ress:List D):Prop:=
 qz P f∧∀(w:World) (cargs:List Value),vo (sz τ) w.heap.size w (fun _=>none) args cargs→Calls P f cargs.toArray w (zHx τ w pm ress cargs)
section
variable {P:Program} {τ:Ty} {lo:Nat} {w0:Fz} {ow:Nat→Option Pl} {hd:Nat→Value} {bk:Nat→Nat} {st:St} {a:Act} {w:World}
theorem zCF (h:ze τ lo w0 ow hd bk st a w){pm:List Nat}{ress:List D}{cargs:List Value}{t:Nat}(hs:szL τ ress){e:Ending}{w':World}(hp:zHx τ w pm ress cargs e w'):
  ∃cs0 cs ow' hd',cargs[0]? =some (.agg (List.toArray cs0))∧e= .returned (.agg (List.toArray (XM pm undef cs0++cs)))∧ze τ lo w0 ow' hd' bk (yi t 0 ress st) a w'∧zY τ w' (yi t 0 ress st).r (yi t 0 ress st).b hd' bk (yR τ t 0 ress) cs:=by
 obtain⟨cs0,cs,ow',he0,he,hb,hlow,hnew,hres⟩:=hp
 have hpost:jr τ w [.agg ress] (.returned (.agg cs.toArray)) w':=⟨[.agg cs.toArray],ow',rfl,hb,hlow,hnew,by simp only [vH];exact⟨cs,[],rfl,hres,rfl⟩⟩
 obtain⟨z,ow2,hd2,e1,r1,r2⟩:=Ve h (t:=t) (ress:= [.agg ress]) (by simpa only [zv,VT.cells,List.append_nil]using hs) hpost
 simp only [zv,VT.cells,List.append_nil]at r1 r2
 cases e1
 simp only [xT,qk,AvR]at r2
 obtain⟨cs',e2,r3⟩:=r2
 have :cs'=cs:=by simpa using e2.symm
 subst this
 exact⟨cs0,cs',ow2,hd2,he0,he,r1,r3⟩
theorem Uh {rr:List (Nat×zr)}{bb:List (Nat×List AV)}{us:List AV}{cs:List Value}(h:zY τ w rr bb hd bk us cs): ∀(pm:List Nat),(∀i∈pm,i<us.length)→zY τ w rr bb hd bk (XM pm .dead us) (XM pm undef cs)
 | [],_=>by simp [XM,zY]
 |i::pm,hp=>by
  have ih:=Uh h pm fun j hj=>hp j (List.mem_cons_of_mem _ hj)
  have hi:=hp i List.mem_cons_self
  obtain⟨hl,hat⟩:=zp.1 h
  show zY τ w rr bb hd bk (us.getD i .dead::XM pm .dead us) (cs.getD i undef::XM pm undef cs)
  simp only [zY]
  refine⟨_,_,rfl,?_,ih⟩
  have h1:us[i]? =some (us.getD i .dead):=by rw [List.getD_eq_getElem?_getD,List.getElem?_eq_getElem hi];rfl
  have hi2:i<cs.length:=by omega
  have h2:cs[i]? =some (cs.getD i undef):=by rw [List.getD_eq_getElem?_getD,List.getElem?_eq_getElem hi2];rfl
  exact hat i _ _ h1 h2
theorem zDm {o:Oper}{f:FuncId}{args:Array Operand}{ts:Array TypeId}(hc:yD o=some (f,args,ts))(hcl:qz P f):(execOp a.eval o).run P w= .ok (.enter f (args.toList.map a.eval).toArray) w:=by
 obtain⟨fn,hfn,hname,hbody⟩:=hcl
 obtain⟨dst,op,oty,pos,after,guard⟩:=o
 unfold yD at hc
 simp only at hc
 split at hc
 ·rename_i c
  split at hc
  ·rename_i f' hcal
   cases hc
   obtain⟨callee,args',ats⟩:=c
   simp only at hcal
   subst hcal
   rw [execOp_call_go]
   unfold callFunc
   have h1: ¬fn.name= "runtime.NumGoroutine" :=by simpa using hname
   have h2: ¬fn.body=none:=by cases hb:fn.body with
    |none=>rw [hb]at hbody;simp at hbody
    |some c=>simp
   have h3:Array.map a.eval args'=(args'.toList.map a.eval).toArray:=by cases args';simp
   simp [hfn,h1,h2,h3]
  ·cases hc
 ·cases hc
end
mutual
def AV.pm :AV→List Nat
 | .int _ _=> []
 | .bool _=> []
 | .sl d p _ _ _=>match p with| []=> []|_::_=> [d]
 | .nil=> []
 | .ep d p _=>match p with| []=> []|_::_=> [d]
 | .bp _ _=> []
 | .agg vs=>AV.pmL vs
 | .tup vs=>AV.pmL vs
 | .fn _ vs=>AV.pmL vs
 | .dead=> []
 | .raw u=> []
def AV.pmL :List AV→List Nat
 | []=> []
 |v::vs=>v.pm++AV.pmL vs
end
theorem qY {n:Nat}: ∀{vs:List AV},n∈AV.pmL vs↔∃v∈vs,n∈v.pm
 | []=>by simp [AV.pmL]
 |v::vs=>by simp [AV.pmL,qY (vs:=vs)]
structure Qy (d:Nat)(st:St):Prop where
 s: ∀k v,lk st.s k=some v→d∉v.pm
 b: ∀k cs,lk st.b k=some cs→d∉AV.pmL cs
def PF (st:St):Prop:= ∀d R,lk st.r d=some R→R.o= .ex→Qy d st
def vt :Op→List Operand
 | .move _=> []
 |op=>op.operands.toList
theorem WZ {op:Op}{x:Operand}(h:x∈vt op):x∈op.operands:=by
 unfold vt at h
 split at h
 ·cases h
 ·simpa using h
def fpA (o:Oper)(st:St):List Nat:=AV.nmL ((vt o.op).map (ev st))
def fpB (st:St):List AV→List Nat
 | .bp T _::_=>match lk st.b T with|some cs=>AV.nmL cs|none=> []
 |_=> []
def QE (st:St):List AV→List Nat
 | []=> []
 | .bp T _::vs=>(match lk st.b T with|some cs=>AV.nmL cs|none=> [])++QE st vs
 |_::vs=>QE st vs
def wO (o:Oper)(st:St):List AV:=match o.op with
 | .call c=>match c.callee with
  | .value x=>match ev st x with
   | .fn _ vs=>vs
   |_=> []
  |_=> []
 |_=> []
def fpC (o:Oper)(st:St):List Nat:=match yD o with|some (_,args,_)=>fpB st (args.toList.map (ev st))|none=>QE st (wO o st)
def fp (o:Oper)(st:St):List Nat:=fpA o st++fpC o st
structure Dl where
 v:AV
 add:List (Nat×zr)
 del:List Nat
 bx:List (Nat×List AV)
def St.app (st:St)(dst:Option Tmp)(δ:Dl):St:=(St.mk st.n st.s (δ.bx++st.b) (δ.add++rm (fun k=>δ.del.contains k) st.r)).put dst δ.v
def Dl.wr (δ:Dl):List Nat:=δ.add.map (fun x=>2*x.1)++(δ.del.map (fun k=>2*k)++δ.bx.map (fun x=>2*x.1+1))
def VW (τ:Ty)(t:Nat)(ty:TypeId)(l c:AV):Option (Dl×Prop):=
 match tk τ ty with
 |some (.sc (.sl e),_)=>
  match tk τ e,l,c with
  |some (.sc ck,b), .int _ n, .int _ m=>if b≤64 then some (⟨.sl (zb t 0) [] 0 n.toNat e,[(zb t 0,⟨.ex,e,List.replicate n.toNat ck.zeroD,none⟩)],[],[]⟩,0≤n∧n≤1048576∧m=n)else none
  |_,_,_=>none
 |_=>none
def KK (τ:Ty)(t:Nat)(ty:TypeId)(len:Nat)(parts:List (Nat×AV)):Option (Dl×Prop):=
 match tk τ ty with
 |some (.sc (.sl e),_)=>
  if scE τ e=true∧parts.map (·.1)=List.range len∧len≤65536 then
   match KV (parts.map (·.2))with
   |some ds=>some (⟨.sl (zb t 0) [] 0 len e,[(zb t 0,⟨.ex,e,ds,none⟩)],[],[]⟩,True)
   |none=>none
  else none
 |_=>none
def vT (τ:Ty)(st:St)(ty:TypeId)(p v:AV):Option (Dl×Prop):=
 match p with
 | .bp b i=>
  match fieldsOf v,lk st.b b with
  |some vs,some cells=>if sz τ ty=vs.length∧vs.length≠0∧i+vs.length≤cells.length∧vs.all Kv=true then some (⟨.tup [],[],[],[(b,lay cells i vs)]⟩,True)else none
  |_,_=>none
 | .ep d q i=>
  match lk st.r d,scD v,tk τ ty with
  |some R,some x,some (.sc c,_)=>
   if scE τ ty=true then
    match R.o,q with
    | .ex,q=>some (⟨.tup [],[(d,{R with xs:=qP R.xs q i x})],[],[]⟩,zk R.xs q∧xK c (yI R.xs q) i)
    | .top,[]=>some (⟨.tup [],[(d,{R with xs:=qP R.xs [] i x})],[],[]⟩,xK c R.xs i)
    |_,_=>none
   else none
  |_,_,_=>none
 |_=>none
def QS (st:St)(e:TypeId)(y:AV):Option (List D×Nat×Prop):=
 match y with
 | .nil=>some ([],0,True)
 | .sl d2 p2 off len2 e2=>
  match lk st.r d2 with
  |some R2=>if e2=e then some (((yI R2.xs p2).drop off).take len2,len2,zk R2.xs p2∧vF R2.e R2.xs p2=e∧(((yI R2.xs p2).drop off).take len2).all xS=true)else none
  |none=>none
 |_=>none
def Zk (st:St)(t:Nat)(e:TypeId)(ds:List D)(m:Nat)(ob:Prop):AV→Option (Dl×Prop)
 | .nil=>some (⟨.sl (zb t 0) [] 0 (0+m) e,[(zb t 0,⟨.ex,e,[]++ds,none⟩)],[zb t 1],[]⟩,ob∧0+m≤1073741824)
 | .sl d [] 0 len e1=>
  match lk st.r d with
  |some R=>if R.o.isSh=false∧R.e=e∧e1=e then some (⟨.sl (zb t 0) [] 0 (len+m) e,[(zb t 0,⟨R.o,R.e,R.xs.take len++ds,none⟩)],[d],[]⟩,ob∧len+m≤1073741824)else none
  |none=>none
 |_=>none
def QA (τ:Ty)(st:St)(t:Nat)(ty:TypeId)(x y:AV):Option (Dl×Prop):=
 match tk τ ty with
 |some (.sc (.sl e),_)=>
  match tk τ e with
  |some (_,by_)=>
   if by_≤64∧scE τ e=true then
    match QS st e y with
    |some (ds,m,ob)=>Zk st t e ds m ob x
    |none=>none
   else none
  |none=>none
 |_=>none
def wR (m:Nat):List AV→Option (List AV)
 | []=>some []
 |v::vs=>match fieldsOf v,wR m vs with
  |some us,some ws=>if us.length=m then some (us++ws)else none
  |_,_=>none
def repC (cs:List CK):Nat→List CK
 |0=> []
 |n+1=>cs++repC cs n
def QK (τ:Ty)(st:St)(t:Nat)(ty:TypeId)(len:Nat)(parts:List (Nat×AV)):Option (Dl×Prop):=
 match tk τ ty with
 |some (.sc (.sl e),_)=>
  match wR (sz τ e) (parts.map (·.2))with
  |some vs=>
   match qx τ st (repC (cks τ e) len) vs with
   |some (ds,ids)=>if parts.map (·.1)=List.range len∧len*sz τ e≤65536∧sz τ e≠0∧XI ids=true then some (⟨.sl (zb t 0) [] 0 len e,[(zb t 0,⟨.ex,e,ds,none⟩)],ids,[]⟩,True)else none
   |none=>none
  |none=>none
 |_=>none
def QL (τ:Ty)(st:St)(t:Nat)(ty:TypeId)(len:Nat)(parts:List (Nat×AV)):Option (Dl×Prop):=
 match tk τ ty with
 |some (.sc (.sl e),_)=>
  match parts with
  | [(0, .sl d [i] 0 len1 e1)]=>
   match lk st.r d,tk τ e with
   |some R,some (.sc (.sl e2),_)=>if len=1∧R.o.own=true∧e2=e1 then some (⟨.sl (zb t 0) [] 0 1 e,[(zb t 0,⟨.ex,e,[.lst e1 ((xD R.xs i).take (len1*sz τ e1))],none⟩),(d,{R with xs:=R.xs.set i .hole})],[],[]⟩,zk R.xs [i]∧qi R.xs i=e1)else none
   |_,_=>none
  |_=>none
 |_=>none
def YX (τ:Ty)(st:St)(e:TypeId)(y:AV):Option (List D×Nat×List Nat×Prop):=
 match y with
 | .nil=>some ([],0,[],True)
 | .sl d2 p2 off len2 e2=>
  match lk st.r d2 with
  |some R2=>if e2=e then
    if p2= []∧off=0∧R2.o.own=true∧R2.e=e then some (R2.xs.take (len2*sz τ e),len2,[d2],True)
    else some (((yI R2.xs p2).drop (off*sz τ e)).take (len2*sz τ e),len2,[],zk R2.xs p2∧vF R2.e R2.xs p2=e∧(((yI R2.xs p2).drop (off*sz τ e)).take (len2*sz τ e)).all xS=true)
   else none
  |none=>none
 |_=>none
def Zl (τ:Ty)(st:St)(t:Nat)(e:TypeId)(ds:List D)(m:Nat)(ids:List Nat)(ob:Prop):AV→Option (Dl×Prop)
 | .nil=>some (⟨.sl (zb t 0) [] 0 (0+m) e,[(zb t 0,⟨.ex,e,[]++ds,none⟩)],zb t 1::ids,[]⟩,ob∧0+m≤1048576)
 | .sl d [] 0 len e1=>
  match lk st.r d with
  |some R=>if R.o.own=true∧R.e=e∧e1=e∧ids.contains d=false then some (⟨.sl (zb t 0) [] 0 (len+m) e,[(zb t 0,⟨.ex,R.e,R.xs.take (len*sz τ e)++ds,none⟩)],d::ids,[]⟩,ob∧len+m≤1048576)else none
  |none=>none
 |_=>none
def QB (τ:Ty)(st:St)(t:Nat)(ty:TypeId)(x y:AV):Option (Dl×Prop):=
 match tk τ ty with
 |some (.sc (.sl e),_)=>
  match tk τ e with
  |some (_,by_)=>
   if by_≤1024∧sz τ e≠0 then
    match YX τ st e y with
    |some (ds,m,ids,ob)=>Zl τ st t e ds m ids ob x
    |none=>none
   else none
  |none=>none
 |_=>none
def wn (τ:Ty)(st:St)(ty:TypeId)(p v:AV):Option (Dl×Prop):=
 match p with
 | .ep d [] i=>
  match lk st.r d,fieldsOf v with
  |some R,some vs=>
   match qx τ st (cks τ ty) vs with
   |some (ds,ids)=>if R.o.own=true∧ids.contains d=false∧XI ids=true∧vs.length=sz τ ty∧vs.length≠0 then some (⟨.tup [],[(d,{R with xs:=lay R.xs i ds})],ids,[]⟩,i+ds.length≤R.xs.length)else none
   |none=>none
  |_,_=>none
 |_=>none
def vr (np:Bool)(st:St)(v u:AV):AV:=
 match v with
 | .ep d _ _=>match lk st.r d with|some R=>if np=true∧R.o.own=true then u.kill (is1 d) noB else u|none=>u
 |_=>u
def Yg (np:Bool)(τ:Ty)(st:St)(t:TypeId)(v:AV):Option (Dl×Prop):=(qu τ st t v).map fun y=>(⟨vr np st v y.1,[],[],[]⟩,y.2)
def ww (np:Bool)(τ:Ty)(st:St)(dst:Option Nat)(ty:TypeId)(v:AV):Option (Dl×Prop):=
 match dst,v with
 |some t, .ep d [] i=>
  match lk st.r d,tk τ ty with
  |some R,some (.sc (.sl e),_)=>
   if np=true∧R.o.own=true∧scE τ e=true then some (⟨.sl (zb t 0) [] 0 ((xD R.xs i).length / sz τ e) e,[(zb t 0,⟨.ex,e,xD R.xs i,none⟩),(d,{R with xs:=R.xs.set i .hole})],[],[]⟩,zk R.xs [i]∧qi R.xs i=e)else none
  |_,_=>none
 |_,_=>none
def orE (x y:Option (Dl×Prop)):Option (Dl×Prop):=match x with|some z=>some z|none=>y
def vz (np:Bool)(τ:Ty)(o:Oper)(st:St):Option (Dl×Prop):=
 match o.op with
 | .box e x=>
  match o.dst,fieldsOf (ev st x)with
  |some t,some vs=>some (⟨.bp t 0,[],[],[(t,vs)]⟩,t<1000000)
  |_,_=>none
 | .alloc e=>
  match o.dst,tk τ e with
  |some t,some (k,_)=>some (⟨.bp t 0,[],[],[(t,k.cells.map wa)]⟩,t<1000000)
  |_,_=>none
 | .makeSlice ty l c=>
  match o.dst with
  |some t=>VW τ t ty (ev st l) (ev st c)
  |none=>none
 | .buildSlice ty len parts=>
  match o.dst with
  |some t=>orE (KK τ t ty len (parts.toList.map fun x=>(x.1,ev st x.2))) (orE (QK τ st t ty len (parts.toList.map fun x=>(x.1,ev st x.2))) (QL τ st t ty len (parts.toList.map fun x=>(x.1,ev st x.2))))
  |none=>none
 | .load t x=>orE (ww np τ st o.dst t (ev st x)) (Yg np τ st t (ev st x))
 | .store ty p v=>orE (vT τ st ty (ev st p) (ev st v)) (if np=true then wn τ st ty (ev st p) (ev st v)else none)
 | .call c=>
  match c.callee with
  | .builtin .append=>
   match o.dst,c.args.toList,c.argTypes.toList with
   |some t,[x,y],[t1,t2]=>if t1=t2 then orE (QA τ st t t1 (ev st x) (ev st y)) (QB τ st t t1 (ev st x) (ev st y))else none
   |_,_,_=>none
  |_=>(qF τ o st).map fun y=>(⟨y.1,[],[],[]⟩,y.2)
 |_=>(qF τ o st).map fun y=>(⟨y.1,[],[],[]⟩,y.2)
def qN (t:Nat):Nat→List D→List (Nat×zr)
 |_,[]=> []
 |j, .lst e xs::ds=>qN t (j+1) ds++ [(zb t j,⟨.ex,e,xs,none⟩)]
 |j, .int _ _::ds=>qN t (j+1) ds
 |j, .bool _::ds=>qN t (j+1) ds
 |j, .hole::ds=>qN t (j+1) ds
def Dl.skip :Dl:=⟨.tup [],[],[],[]⟩
def ZR (τ:Ty)(o:Oper)(st:St):Option (FuncId×List VT×Nat×List AV×List D×Prop):=
 match yD o with
 |some (f,args,ts)=>match args.toList.map (ev st)with
  | .bp T 0::vs=>match lk st.b T with
   |some cells=>match xC τ st cells,ye τ st ts.toList.tail vs with
    |some (ds,ob1),some (as,ob2)=>some (f,as,T,cells,ds,ob1∧ob2)
    |_,_=>none
   |none=>none
  |_=>none
 |none=>none
def Qv (P:Program)(τ:Ty)(o:Oper)(st:St)(δ:Dl):Prop:=
 match ZR τ o st with
 |some (f,as,T,cells,ds,ob)=>ob∧∃ds' ress,FnB P τ f ds as ds' ress∧szL τ (zv ress)∧(zv ress).length≤16∧δ=⟨qk (xT τ (zy o) 0 ress),qN (zy o) 0 (zv ress),[],[(T,xn cells ds')]⟩
 |none=>False
structure xi (o:Oper)(st st':St):Prop where
 e: ∀x∈o.op.operands,ev st' x=ev st x
 r: ∀d,2*d∈fp o st→lk st'.r d=lk st.r d
 b: ∀t,2*t+1∈fp o st→lk st'.b t=lk st.b t
def ActX (P:Program)(np:Bool)(τ:Ty)(o:Oper)(st:St)(δ:Dl):Prop:=
 True∧True∧((∃k n,δ.v= .int k n)∨∃(f:FuncId) (xs:List Operand),δ.v= .fn f (xs.map (ev st))∧∀x∈xs,x∈vt o.op)∧δ.del= []∧δ.bx= []∧(δ.add= []∨∃d R R0,δ.add= [(d,R)]∧lk st.r d=some R0∧R0.o=R.o∧2*d∈fp o st)∧
 ∀st',xi o st st'→(np=true→PF st')→∀(lo:Nat) (w0:Fz) (a:Act) (w:World) (Q:Exit→Act→World→Prop) (K':Act→World→Prop),(∀k,o.dst=some k→k<a.tmps.size)→Rel τ lo w0 st' a w→
  (∀x w',Rel τ lo w0 (st'.app o.dst δ) (a.put o.dst x) w'→K' (a.put o.dst x) w')→o.wp P a w K' Q
def jn (P:Program)(τ:Ty)(o:Oper)(st:St)(δ:Dl):Prop:=
 match yD o with
 |some (f,args,ts)=>
  match ye τ st ts.toList (args.toList.map (ev st)),args.toList.map (ev st)with
  |some (as,ob), .agg us::_=>ob∧∃pm ress,FnT P τ f as pm ress∧(∀i∈pm,i<us.length)∧szL τ ress∧ress.length≤16∧δ=⟨.agg (XM pm .dead us++yR τ (zy o) 0 ress),qN (zy o) 0 ress,[],[]⟩
  |_,_=>False
 |none=>False
def vn (P:Program)(np:Bool)(τ:Ty)(o:Oper)(st:St)(δ:Dl):Prop:=ActX P np τ o st δ∨jn P τ o st δ∨
 match yD o with
 |some (f,args,ts)=>
  match ye τ st ts.toList (args.toList.map (ev st))with
  |some (as,ob)=>ob∧∃ress,Fn P τ f as ress∧szL τ (zv ress)∧(zv ress).length≤16∧δ=⟨qk (xT τ (zy o) 0 ress),qN (zy o) 0 (zv ress),[],[]⟩
  |none=>np=false∧Qv P τ o st δ
 |none=>
  match vz np τ o st with
  |some (δ',ob)=>ob∧δ=δ'
  |none=>False
def qc (P:Program)(np:Bool)(τ:Ty)(all:List Oper)(o:Oper)(st:St)(δ:Dl):Prop:=
 match o.guard with
 |none=>vn P np τ o st δ
 |some (j,want)=>
  match qA all st j with
  |some (some b)=>(b=want→vn P np τ o st δ)∧(b= !want→δ=Dl.skip)
  |some none=>δ=Dl.skip
  |none=>False
section
variable {P:Program} {np:Bool} {τ:Ty} {st st':St}
def AgV (st st':St)(v:AV):Prop:=(∀d,2*d∈v.nm→lk st'.r d=lk st.r d)∧(∀t,2*t+1∈v.nm→lk st'.b t=lk st.b t)
theorem AgV.r {d:Nat}{v:AV}(h:AgV st st' v)(hd:2*d∈v.nm):lk st'.r d=lk st.r d:=h.1 d hd
theorem UZ {d:Nat}{p:List Nat}{v:AV}{ob:Prop}(h:lk st'.r d=lk st.r d):onR st' d p v ob=onR st d p v ob:=by unfold onR;rw [h]
theorem zC2 {t:TypeId}{v:AV}(h:AgV st st' v):qu τ st' t v=qu τ st t v:=by
 cases v<;>simp only [qu]
 ·rw [h.1 _ (by simp [AV.nm])]
 ·rw [h.2 _ (by simp [AV.nm])]
theorem zKd {v:AV}(h:AgV st st' v):VR st' v=VR st v:=by
 cases v<;>simp only [VR]
 exact UZ (h.1 _ (by simp [AV.nm]))
theorem zGt {t:TypeId}{f:Nat}{v:AV}(h:AgV st st' v):ZZ τ st' t f v=ZZ τ st t f v:=by
 unfold ZZ
 split
 ·split
  ·cases v<;>simp only
   ·exact UZ (h.1 _ (by simp [AV.nm]))
   ·rw [h.2 _ (by simp [AV.nm])]
  ·rfl
 ·rfl
theorem zGz {t:TypeId}{v ix:AV}(h:AgV st st' v):Zc τ st' t v ix=Zc τ st t v ix:=by
 unfold Zc
 split
 ·cases v<;>cases ix<;>simp only
  split
  ·exact UZ (h.1 _ (by simp [AV.nm]))
  ·rfl
 ·rfl
theorem zAH {x:Option Operand}{d:Nat}(h: ∀y,x=some y→ev st' y=ev st y):ZX st' x d=ZX st x d:=by
 cases x with
 |none=>rfl
 |some y=>simp only [ZX,h y rfl]
theorem zHd {t:TypeId}{v:AV}{lo hi:Option Operand}(h:AgV st st' v)(h1: ∀y,lo=some y→ev st' y=ev st y)(h2: ∀y,hi=some y→ev st' y=ev st y):Zg τ st' t v lo hi=Zg τ st t v lo hi:=by
 unfold Zg
 split
 ·cases v<;>simp only
  rw [zAH h1,zAH h2]
  split
  ·split
   ·exact UZ (h.1 _ (by simp [AV.nm]))
   ·rfl
  ·rfl
 ·rfl
theorem zHj {t:TypeId}{p v:AV}(h:AgV st st' p):vT τ st' t p v=vT τ st t p v:=by
 cases p<;>simp only [vT]
 ·rw [h.1 _ (by simp [AV.nm])]
 ·rw [h.2 _ (by simp [AV.nm])]
theorem zGB {e:TypeId}{y:AV}(h:AgV st st' y):QS st' e y=QS st e y:=by
 cases y<;>simp only [QS]
 rw [h.1 _ (by simp [AV.nm])]
theorem zJs {t:Nat}{e:TypeId}{ds:List D}{m:Nat}{ob:Prop}{x:AV}(h:AgV st st' x):Zk st' t e ds m ob x=Zk st t e ds m ob x:=by
 cases x with
 |sl d p off len e=>
  have :=h.1 d (by simp [AV.nm])
  cases p with
  |cons _ _=>rfl
  |nil=>
   cases off with
   |zero=>simp only [Zk,this]
   |succ _=>rfl
 |_=>rfl
theorem zJq {t:Nat}{ty:TypeId}{x y:AV}(h:AgV st st' x)(h2:AgV st st' y):QA τ st' t ty x y=QA τ st t ty x y:=by
 unfold QA
 simp only [zGB h2,zJs h]
theorem zJb {c:CK}{v:AV}(h:AgV st st' v):Xs τ st' c v=Xs τ st c v:=by
 cases c<;>cases v<;>simp only [Xs]
 rename_i e d p off len e'
 cases p with
 |cons _ _=>rfl
 |nil=>cases off with
  |succ _=>rfl
  |zero=>simp only [h.1 d (by simp [AV.nm])]
theorem ko : ∀{cs:List CK} {vs:List AV},(∀v∈vs,AgV st st' v)→qx τ st' cs vs=qx τ st cs vs
 | [],[],_=>rfl
 | [],_::_,_=>rfl
 |_::_,[],_=>rfl
 |c::cs,v::vs,h=>by simp only [qx,zJb (h v (by simp)),ko (cs:=cs) (vs:=vs) fun u hu=>h u (by simp [hu])]
theorem WL {v:AV}{vs:List AV}(h:fieldsOf v=some vs)(hv:AgV st st' v): ∀u∈vs,AgV st st' u:=by
 intro u hu
 have key: ∀n,n∈u.nm→n∈v.nm:=by
  intro n hn
  cases v<;>simp only [fieldsOf]at h<;>cases h
  all_goals first
   |(simp only [AV.nm];exact yG.2 ⟨u,hu,hn⟩)
   |(simp only [List.mem_singleton]at hu;subst hu;exact hn)
 exact⟨fun d hd=>hv.1 d (key _ hd),fun t ht=>hv.2 t (key _ ht)⟩
theorem uT {m:Nat}: ∀{vs us:List AV},wR m vs=some us→(∀v∈vs,AgV st st' v)→∀u∈us,AgV st st' u
 | [],us,h,_,u,hu=>by simp only [wR,Option.some.injEq]at h;subst h;simp at hu
 |v::vs,us,h,hv,u,hu=>by
  simp only [wR]at h
  split at h
  ·rename_i us1 ws h1 h2
   split at h
   ·cases h
    rcases List.mem_append.1 hu with hu|hu
    ·exact WL h1 (hv v (by simp)) u hu
    ·exact uT h2 (fun v hm=>hv v (by simp [hm])) u hu
   ·cases h
  ·cases h
theorem zKf {t:Nat}{ty:TypeId}{len:Nat}{parts:List (Nat×AV)}(h: ∀x∈parts,AgV st st' x.2):QK τ st' t ty len parts=QK τ st t ty len parts:=by
 unfold QK
 split
 ·cases hf:wR (sz τ _) (parts.map (·.2))with
  |none=>rfl
  |some vs=>
   simp only
   rw [ko fun v hv=>uT hf (fun v hv=>by obtain⟨x,hx,rfl⟩:=List.mem_map.1 hv;exact h x hx) v hv]
 ·rfl
theorem zKg {t:Nat}{ty:TypeId}{len:Nat}{parts:List (Nat×AV)}(h: ∀x∈parts,AgV st st' x.2):QL τ st' t ty len parts=QL τ st t ty len parts:=by
 unfold QL
 split
 ·split
  ·rename_i d i len1 e1
   rw [(h (0,AV.sl d [i] 0 len1 e1) List.mem_cons_self).1 d (by simp [AV.nm])]
  ·rfl
 ·rfl
theorem zLB {e:TypeId}{y:AV}(h:AgV st st' y):YX τ st' e y=YX τ st e y:=by
 cases y<;>simp only [YX]
 rw [h.1 _ (by simp [AV.nm])]
theorem zJt {t:Nat}{e:TypeId}{ds:List D}{m:Nat}{ids:List Nat}{ob:Prop}{x:AV}(h:AgV st st' x):Zl τ st' t e ds m ids ob x=Zl τ st t e ds m ids ob x:=by
 cases x with
 |sl d p off len e=>
  have :=h.1 d (by simp [AV.nm])
  cases p with
  |cons _ _=>rfl
  |nil=>
   cases off with
   |zero=>simp only [Zl,this]
   |succ _=>rfl
 |_=>rfl
theorem zJr {t:Nat}{ty:TypeId}{x y:AV}(h:AgV st st' x)(h2:AgV st st' y):QB τ st' t ty x y=QB τ st t ty x y:=by
 unfold QB
 simp only [zLB h2,zJt h]
theorem zHk {t:TypeId}{p v:AV}(h:AgV st st' p)(h2:AgV st st' v):wn τ st' t p v=wn τ st t p v:=by
 cases p<;>simp only [wn]
 rename_i d q i
 cases q with
 |cons _ _=>rfl
 |nil=>
  simp only
  rw [h.1 d (by simp [AV.nm])]
  cases hf:fieldsOf v with
  |none=>cases lk st.r d<;>rfl
  |some vs=>
   cases lk st.r d with
   |none=>rfl
   |some R=>
    simp only
    rw [ko (WL hf h2)]
theorem zJF {dst:Option Nat}{t:TypeId}{v:AV}(h:AgV st st' v):ww np τ st' dst t v=ww np τ st dst t v:=by
 unfold ww
 split
 ·rename_i t0 d i
  rw [h.1 d (by simp [AV.nm])]
 ·rfl
theorem zJE {t:TypeId}{v:AV}(h:AgV st st' v):Yg np τ st' t v=Yg np τ st t v:=by
 unfold Yg
 rw [zC2 h]
 have : ∀u,vr np st' v u=vr np st v u:=fun u=>by
  cases v<;>simp only [vr]
  rw [h.1 _ (by simp [AV.nm])]
 simp only [this]
theorem WF {v:AV}(h:AgV st st' v):cellsOf τ st' v=cellsOf τ st v:=by
 cases v<;>simp only [cellsOf]
 rw [h.1 _ (by simp [AV.nm])]
theorem Jq {v:AV}{vs:List AV}(h:AgV st st' (.agg (v::vs))):AgV st st' v:=⟨fun d hd=>h.1 d (by simp [AV.nm,AV.nmL,hd]),fun t ht=>h.2 t (by simp [AV.nm,AV.nmL,ht])⟩
theorem Jr {v:AV}{vs:List AV}(h:AgV st st' (.agg (v::vs))):AgV st st' (.agg vs):=⟨fun d hd=>h.1 d (by simp only [AV.nm]at hd;simp [AV.nm,AV.nmL,hd]),fun t ht=>h.2 t (by simp only [AV.nm]at ht;simp [AV.nm,AV.nmL,ht])⟩
theorem Yd : ∀{vs:List AV},AgV st st' (.agg vs)→xC τ st' vs=xC τ st vs
 | [],_=>rfl
 |v::vs,h=>by simp only [xC,WF (Jq h),Yd (Jr h)]
theorem zIn {c:CK}{v:AV}(h:AgV st st' v):XX τ st' c v=XX τ st c v:=by
 cases v<;>simp only [XX,WF h]
theorem zAP : ∀{ks:List CK} {vs:List AV},AgV st st' (.agg vs)→qI τ st' ks vs=qI τ st ks vs
 |ks,[],_=>by simp only [qI]
 | [],v::vs,h=>by simp only [qI]
 |k::ks,v::vs,h=>by simp only [qI,zIn (Jq h),zAP (Jr h)]
theorem zIa {t:TypeId}{vs:List AV}(h:AgV st st' (.agg vs)):ZT τ st' t vs=ZT τ st t vs:=by
 unfold ZT
 rw [Yd h,zAP h]
theorem zIg {t:TypeId}{v:AV}(h:AgV st st' v):vp τ st' t v=vp τ st t v:=by
 cases v<;>simp only [vp,WF h]
 ·rw [zIa h]
 ·rw [Yd (vs:=_) (⟨fun d hd=>h.1 d hd,fun t ht=>h.2 t ht⟩)]
theorem VF : ∀{vs:List AV} {ts:List TypeId},AgV st st' (.agg vs)→ye τ st' ts vs=ye τ st ts vs
 | [],ts,_=>rfl
 |v::vs,ts,h=>by simp only [ye,zIg (Jq h),VF (Jr h)]
theorem xi.v {o:Oper}(h:xi o st st'){x:Operand}(hx:x∈vt o.op):AgV st st' (ev st x):=
 ⟨fun d hd=>h.r d (List.mem_append_left _ (yG.2 ⟨_,List.mem_map.2 ⟨x,by simpa using hx,rfl⟩,hd⟩)),fun t ht=>h.b t (List.mem_append_left _ (yG.2 ⟨_,List.mem_map.2 ⟨x,by simpa using hx,rfl⟩,ht⟩))⟩
theorem Jf {o:Oper}{f:FuncId}{args:Array Operand}{ts:Array TypeId}(hc:yD o=some (f,args,ts)): ∀x∈args,x∈o.op.operands:=by
 intro x hx
 unfold yD at hc
 split at hc
 ·rename_i c ho
  split at hc
  ·cases hc;rw [ho];simp [Op.operands,Call.operands,hx]
  ·cases hc
 ·cases hc
theorem wN {o:Oper}{f:FuncId}{args:Array Operand}{ts:Array TypeId}(hc:yD o=some (f,args,ts)): ∀x∈args,x∈vt o.op:=by
 intro x hx
 have h:=Jf hc x hx
 unfold yD at hc
 split at hc
 ·rename_i c ho
  rw [ho]at h⊢
  simpa [vt]using h
 ·cases hc
theorem xi.args {o:Oper}(h:xi o st st'){f:FuncId}{args:Array Operand}{ts:Array TypeId}(hc:yD o=some (f,args,ts)):args.toList.map (ev st')=args.toList.map (ev st):=
 List.map_congr_left fun x hx=>h.e x (Jf hc x (by simpa using hx))
theorem xi.box {o:Oper}(h:xi o st st'){f:FuncId}{args:Array Operand}{ts:Array TypeId}(hc:yD o=some (f,args,ts)){T i:Nat}{vs:List AV}(ha:args.toList.map (ev st)= .bp T i::vs):lk st'.b T=lk st.b T∧∀cs,lk st.b T=some cs→AgV st st' (.agg cs):=by
 obtain⟨x,hx,hev⟩: ∃x∈args.toList,ev st x= .bp T i:=by
  have :AV.bp T i∈args.toList.map (ev st):=by rw [ha];simp
  obtain⟨x,hx,he⟩:=List.mem_map.1 this
  exact⟨x,hx,he⟩
 have h1:=h.v (wN hc x (by simpa using hx))
 rw [hev]at h1
 refine⟨h1.2 T (by simp [AV.nm]),fun cs hcs=> ?_⟩
 have hm: ∀n∈AV.nmL cs,n∈fp o st:=fun n hn=>by
  refine List.mem_append_right _ ?_
  unfold fpC
  rw [hc]
  simp only [ha,fpB,hcs]
  exact hn
 exact⟨fun d hd=>h.r d (hm _ hd),fun t ht=>h.b t (hm _ ht)⟩
theorem zAL : ∀{vs:List AV},(∀T i,AV.bp T i∈vs→lk st'.b T=lk st.b T)→QE st' vs=QE st vs
 | [],_=>rfl
 |v::vs,h=>by
  have ih:=zAL (vs:=vs) fun T i hm=>h T i (List.mem_cons_of_mem _ hm)
  cases v<;>simp only [QE,ih]
  rw [h _ _ List.mem_cons_self]
theorem uM {o:Oper}(h:xi o st st'):wO o st'=wO o st:=by
 have he:=h.e
 unfold wO
 cases ho:o.op with
 |call c=>
  rw [ho]at he
  obtain⟨callee,args,ts⟩:=c
  cases callee with
  |value x=>simp only;rw [he x (by simp [Op.operands,Call.operands])]
  |_=>rfl
 |_=>rfl
theorem zDo {o:Oper}{v:AV}(hv:v∈wO o st): ∃x∈vt o.op,∃f vs,ev st x= .fn f vs∧v∈vs:=by
 unfold wO at hv
 cases ho:o.op with
 |call c=>
  rw [ho]at hv
  obtain⟨callee,args,ts⟩:=c
  cases callee with
  |value x=>
   simp only at hv
   split at hv
   ·rename_i f vs hx
    exact⟨x,by simp [vt,Op.operands,Call.operands],f,vs,hx,hv⟩
   ·cases hv
  |_=>simp at hv
 |_=>rw [ho]at hv;simp at hv
theorem xi.capB {o:Oper}(h:xi o st st'){T i:Nat}(hm:AV.bp T i∈wO o st):lk st'.b T=lk st.b T:=by
 obtain⟨x,hx,f,vs,he,hv⟩:=zDo hm
 have h1:=h.v hx
 rw [he]at h1
 exact h1.2 T (by simp only [AV.nm];exact yG.2 ⟨_,hv,by simp [AV.nm]⟩)
theorem zAM {T i:Nat}{cs:List AV}{n:Nat}: ∀{vs:List AV},AV.bp T i∈vs→lk st.b T=some cs→n∈AV.nmL cs→n∈QE st vs
 |v::vs,h,hcs,hn=>by
  rcases List.mem_cons.1 h with h|h
  ·subst h
   simp only [QE,hcs]
   exact List.mem_append_left _ hn
  ·have :=zAM (vs:=vs) h hcs hn
   cases v<;>simp only [QE]<;>first|exact this|exact List.mem_append_right _ this
theorem xi.cap {o:Oper}(h:xi o st st')(hc:yD o=none){T i:Nat}{cs:List AV}(hm:AV.bp T i∈wO o st)(hcs:lk st.b T=some cs):AgV st st' (.agg cs):=by
 have key: ∀n∈AV.nmL cs,n∈Go.Proofs.Ytggpbepdeilpgaa.fp o st:=fun n hn=>by
  refine List.mem_append_right _ ?_
  unfold fpC
  rw [hc]
  exact zAM hm hcs hn
 exact⟨fun d hd=>h.r d (key _ hd),fun t ht=>h.b t (key _ ht)⟩
theorem xi.fp {o:Oper}(h:xi o st st'):fp o st'=fp o st:=by
 have e1:fpA o st'=fpA o st:=by
  unfold fpA
  congr 1
  exact List.map_congr_left fun x hx=>h.e x (WZ hx)
 have e2:fpC o st'=fpC o st:=by
  unfold fpC
  cases hc:yD o with
  |none=>simp only [uM h];exact zAL fun T i hm=>h.capB hm
  |some x=>
   obtain⟨f,args,ts⟩:=x
   simp only [h.args hc]
   cases ha:args.toList.map (ev st)with
   |nil=>rfl
   |cons v vs=>
    cases v<;>first|rfl|skip
    rename_i T i
    simp only [fpB,(h.box hc ha).1]
 unfold Go.Proofs.Ytggpbepdeilpgaa.fp
 rw [e1,e2]
theorem zDl {c:Call}(h: ∀x∈c.args,ev st' x=ev st x)(hv: ∀x∈c.args,AgV st st' (ev st x)):vx τ st' c=vx τ st c:=by
 obtain⟨callee,args,ats⟩:=c
 simp only at h hv
 unfold vx
 cases callee with
 |builtin b=>
  simp only
  cases ha:args.toList with
  |nil=>cases b<;>rfl
  |cons x xs=>
   have hx:x∈args:=by rw [←Array.mem_toList_iff,ha];simp
   cases xs with
   |nil=>
    cases b<;>try rfl
    cases hts:ats.toList with
    |nil=>rfl
    |cons t ts=>
     cases ts with
     |nil=>simp only [h x hx,zKd (hv x hx)]
     |cons _ _=>rfl
   |cons y ys=>
    have hy:y∈args:=by rw [←Array.mem_toList_iff,ha];simp
    cases ys with
    |nil=>cases b<;>first|rfl|simp only [h x hx,h y hy]
    |cons z zs=>
     have hz:z∈args:=by rw [←Array.mem_toList_iff,ha];simp
     cases zs with
     |nil=>cases b<;>first|rfl|simp only [h x hx,h y hy,h z hz]
     |cons _ _=>cases b<;>rfl
 |_=>rfl
theorem zC9 {parts:Array (Nat×Operand)}(h: ∀x∈parts.map (·.2),ev st' x=ev st x):(parts.toList.map fun x=>(x.1,ev st' x.2))=(parts.toList.map fun x=>(x.1,ev st x.2)):=
 List.map_congr_left fun p hp=>by rw [h p.2 (Array.mem_map.2 ⟨p,by simpa using hp,rfl⟩)]
theorem zKO {o:Oper}(h:xi o st st'):qF τ o st'=qF τ o st:=by
 obtain⟨dst,op,ty,pos,after,guard⟩:=o
 have he:=h.e
 have hv:=fun x (hx:x∈vt op)=>h.v (x:=x) hx
 clear h
 simp only at he hv
 unfold qF
 cases op<;>simp only [Op.operands,vt]at he hv⊢
 case move x=>rw [he x (by simp)]
 case assign x=>rw [he x (by simp)]
 case nilCheck x=>
  rw [he x (by simp)]
  have h9:=hv x (by simp)
  unfold ke
  split
  ·rename_i t i hev
   rw [hev]at h9
   rw [h9.2 t (by simp [AV.nm])]
  ·rfl
 case pick c x y=>rw [he c (by simp),he x (by simp),he y (by simp)]
 case load t x=>rw [he x (by simp),zC2 (hv x (by simp))]
 case fieldAddr t x f=>rw [he x (by simp),zGt (hv x (by simp))]
 case indexAddr t x i=>rw [he x (by simp),he i (by simp),zGz (hv x (by simp))]
 case field t x f=>rw [he x (by simp)]
 case extract x i=>rw [he x (by simp)]
 case binOp op t x y r=>rw [he x (by simp),he y (by simp)]
 case unOp op t x=>rw [he x (by simp)]
 case build t parts=>rw [zC9 (fun x hx=>he x (by simpa using hx))]
 case convert s d x=>rw [he x (by simp)]
 case slice t x l u m=>
  cases m with
  |some _=>rfl
  |none=>
   simp only
   rw [he x (by simp),zHd (hv x (by simp)) (fun y hy=>he y (by simp [hy])) (fun y hy=>he y (by simp [hy]))]
 case call c=>exact zDl (fun x hx=>he x (by simp [Call.operands,hx])) (fun x hx=>hv x (by simp [Call.operands,hx]))
theorem zKN {o:Oper}(h:xi o st st'):vz np τ o st'=vz np τ o st:=by
 have hV:=zKO (τ:=τ) h
 obtain⟨dst,op,ty,pos,after,guard⟩:=o
 have he:=h.e
 have hv:=fun x (hx:x∈vt op)=>h.v (x:=x) hx
 clear h
 simp only at he hv
 unfold vz
 cases op<;>simp only [Op.operands,vt]at he hv⊢
 case box e x=>rw [he x (by simp)]
 case makeSlice t l c=>rw [he l (by simp),he c (by simp)]
 case buildSlice t len parts=>
  rw [zC9 (fun x hx=>he x (by simpa using hx))]
  cases dst with
  |none=>rfl
  |some t=>
   simp only
   have hh: ∀x∈parts.toList.map (fun x=>(x.1,ev st x.2)),AgV st st' x.2:=fun x hx=>by
    obtain⟨p,hp,rfl⟩:=List.mem_map.1 hx
    exact hv p.2 (List.mem_map.2 ⟨p,hp,rfl⟩)
   rw [zKf hh,zKg hh]
 case load t x=>rw [he x (by simp),zJF (hv x (by simp)),zJE (hv x (by simp))]
 case store t p x=>rw [he p (by simp),he x (by simp),zHj (hv p (by simp)),zHk (hv p (by simp)) (hv x (by simp))]
 case call c=>
  obtain⟨callee,args,ats⟩:=c
  simp only at he hv hV⊢
  cases callee with
  |builtin b=>
   cases b<;>try(simp only [hV];done)
   simp only
   cases dst with
   |none=>rfl
   |some t=>
    cases ha:args.toList with
    |nil=>rfl
    |cons x xs=>
     have hx:x∈args:=by rw [←Array.mem_toList_iff,ha];simp
     cases xs with
     |nil=>rfl
     |cons y ys=>
      have hy:y∈args:=by rw [←Array.mem_toList_iff,ha];simp
      cases ys with
      |cons _ _=>rfl
      |nil=>
       cases hts:ats.toList with
       |nil=>rfl
       |cons t1 ts=>
        cases ts with
        |nil=>rfl
        |cons t2 ts=>
         cases ts with
         |cons _ _=>rfl
         |nil=>simp only [he x (by simp [Call.operands,hx]),he y (by simp [Call.operands,hy]),zJq (hv x (by simp [Call.operands,hx])) (hv y (by simp [Call.operands,hy])),zJr (hv x (by simp [Call.operands,hx])) (hv y (by simp [Call.operands,hy]))]
  |value f=>simp only [hV]
  |invoke r m=>simp only [hV]
 all_goals rw [hV]
theorem zGV {o:Oper}(h:xi o st st'):ZR τ o st'=ZR τ o st:=by
 unfold ZR
 cases hc:yD o with
 |none=>rfl
 |some x=>
  obtain⟨f,args,ts⟩:=x
  simp only [h.args hc]
  cases ha:args.toList.map (ev st)with
  |nil=>rfl
  |cons v vs=>
   cases v<;>first|rfl|skip
   rename_i T i
   cases i with
   |succ i=>rfl
   |zero=>
    obtain⟨hb,hcs⟩:=h.box hc ha
    simp only [hb]
    cases hx:lk st.b T with
    |none=>rfl
    |some cells=>
     simp only
     have h2:AgV st st' (.agg vs):=by
      have hsub: ∀v∈vs,AgV st st' v:=fun v hv=>by
       have :v∈args.toList.map (ev st):=by rw [ha];simp [hv]
       obtain⟨x,hx,rfl⟩:=List.mem_map.1 this
       exact h.v (wN hc x (by simpa using hx))
      refine⟨fun d hd=> ?_,fun t ht=> ?_⟩
      ·obtain⟨v,hv,hm⟩:=yG.1 hd
       exact(hsub v hv).1 d hm
      ·obtain⟨v,hv,hm⟩:=yG.1 ht
       exact(hsub v hv).2 t hm
     rw [Yd (hcs cells hx),VF h2]
end
theorem zC1 {α:Type}{l:List (Nat×α)}{k:Nat}(h: ∀x∈l,x.1≠k):lk l k=none:=by
 induction l with
 |nil=>rfl
 |cons x l ih=>
  obtain⟨j,x⟩:=x
  rw [zd,if_neg (h (j,x) (by simp))]
  exact ih fun y hy=>h y (by simp [hy])
theorem vP {α:Type}{l:List (Nat×α)}{k:Nat}{x:α}(h:lk l k=some x):(k,x)∈l:=by
 induction l with
 |nil=>cases h
 |cons y l ih=>
  obtain⟨j,y⟩:=y
  rw [zd]at h
  split at h
  ·rename_i e;subst e;cases h;simp
  ·exact List.mem_cons_of_mem _ (ih h)
structure Eqv (st st':St):Prop where
 n:st'.n=st.n
 s: ∀k,lk st'.s k=lk st.s k
 b: ∀k,lk st'.b k=lk st.b k
 r: ∀k,lk st'.r k=lk st.r k
theorem Eqv.refl (st:St):Eqv st st:=⟨rfl,fun _=>rfl,fun _=>rfl,fun _=>rfl⟩
theorem Eqv.symm {st st':St}(h:Eqv st st'):Eqv st' st:=⟨h.n.symm,fun k=>(h.s k).symm,fun k=>(h.b k).symm,fun k=>(h.r k).symm⟩
theorem Eqv.trans {st st' st'':St}(h:Eqv st st')(g:Eqv st' st''):Eqv st st'':=⟨g.n.trans h.n,fun k=>(g.s k).trans (h.s k),fun k=>(g.b k).trans (h.b k),fun k=>(g.r k).trans (h.r k)⟩
theorem Eqv.cov {st st':St}(h:Eqv st st'):Cov st st':=⟨h.n,fun k v hv=> .inr (by rw [←h.s];exact hv),fun k v hv=>by rw [←h.b];exact hv,fun k v hv=>by rw [←h.r];exact hv⟩
theorem Ko (st:St)(d:Option Tmp)(δ:Dl):(st.app d δ).n=st.n:=by cases d<;>rfl
theorem ZU (st:St)(d:Option Tmp)(δ:Dl)(k:Nat):lk (st.app d δ).s k=if d=some k then some δ.v else lk st.s k:=by
 cases d with
 |none=>simp [St.app,St.put]
 |some d=>simp only [St.app,St.put,zd,Option.some.injEq]
theorem wK (st:St)(d:Option Tmp)(δ:Dl)(k:Nat):lk (st.app d δ).b k=(lk δ.bx k).or (lk st.b k):=by
 cases d<;>simp only [St.app,St.put,qB]
theorem wL (st:St)(d:Option Tmp)(δ:Dl)(k:Nat):lk (st.app d δ).r k=(lk δ.add k).or (if δ.del.contains k then none else lk st.r k):=by
 cases d<;>simp only [St.app,St.put,qB,yr]
theorem zCX {st st':St}(h:Eqv st st')(d:Option Tmp)(δ:Dl):Eqv (st.app d δ) (st'.app d δ):=
 ⟨by rw [Ko,Ko];exact h.n,fun k=>by rw [ZU,ZU,h.s],fun k=>by rw [wK,wK,h.b],fun k=>by rw [wL,wL,h.r]⟩
theorem Zm {st:St}{d:Option Tmp}{δ:Dl}{k:Nat}(h:2*k+1∉δ.wr):lk (st.app d δ).b k=lk st.b k:=by
 rw [wK,zC1 fun x hx e=>h ?_]
 ·rfl
 ·simp only [Dl.wr,List.mem_append,List.mem_map]
  exact .inr (.inr ⟨x,hx,by rw [e]⟩)
theorem Zn {st:St}{d:Option Tmp}{δ:Dl}{k:Nat}(h:2*k∉δ.wr):lk (st.app d δ).r k=lk st.r k:=by
 rw [wL,zC1 fun x hx e=>h ?_]
 ·rw [if_neg fun hc=>h ?_]
  ·rfl
  ·simp only [Dl.wr,List.mem_append,List.mem_map]
   exact .inr (.inl ⟨k,by simpa using hc,rfl⟩)
 ·simp only [Dl.wr,List.mem_append,List.mem_map]
  exact .inl ⟨x,hx,by rw [e]⟩
theorem zGc {st:St}{d d':Option Tmp}{δ δ':Dl}(hd: ∀k,d=some k→d'≠some k)(hw: ∀n∈δ.wr,n∉δ'.wr):Eqv ((st.app d δ).app d' δ') ((st.app d' δ').app d δ):=by
 refine⟨by simp only [Ko],fun k=> ?_,fun k=> ?_,fun k=> ?_⟩
 ·simp only [ZU]
  by_cases h1:d=some k
  ·have h2:=hd k h1
   simp [h1,h2]
  ·simp [h1]
 ·by_cases h:2*k+1∈δ.wr
  ·rw [Zm (st:=st.app d δ) (hw _ h),wK st d δ,wK (st.app d' δ') d δ,Zm (hw _ h)]
  ·rw [Zm (st:=st.app d' δ') h,wK (st.app d δ) d' δ',wK st d' δ',Zm h]
 ·by_cases h:2*k∈δ.wr
  ·rw [Zn (st:=st.app d δ) (hw _ h),wL st d δ,wL (st.app d' δ') d δ,Zn (hw _ h)]
  ·rw [Zn (st:=st.app d' δ') h,wL (st.app d δ) d' δ',wL st d' δ',Zn h]
section
variable {P:Program} {np:Bool} {τ:Ty} {st st':St}
theorem XY {x:Operand}(h: ∀t,x= .tmp t→lk st'.s t=lk st.s t):ev st' x=ev st x:=by
 cases x with
 |tmp t=>simp only [ev,h t rfl]
 |_=>rfl
theorem zEg {ops:Array Oper}{o:Oper}{d:Option Tmp}{δ:Dl}(hd: ∀k,d=some k→k∉o.looksAt ops)(hw: ∀n∈δ.wr,n∉fp o st):xi o st (st.app d δ):=by
 refine⟨fun x hx=>XY fun t ht=> ?_,fun k hk=>Zn fun h=>hw _ h hk,fun k hk=>Zm fun h=>hw _ h hk⟩
 rw [ZU,if_neg fun e=>hd t e ?_]
 subst ht
 exact List.mem_append_left _ (List.mem_filterMap.2 ⟨.tmp t,by simpa using hx,rfl⟩)
theorem zDe {ops:Array Oper}{o:Oper}{d:Option Tmp}{δ:Dl}(hd: ∀k,d=some k→k∉o.looksAt ops)(hw: ∀n∈δ.wr,n∉fp o (st.app d δ)):xi o (st.app d δ) st:=by
 refine⟨fun x hx=>XY fun t ht=> ?_,fun k hk=>(Zn fun h=>hw _ h hk).symm,fun k hk=>(Zm fun h=>hw _ h hk).symm⟩
 rw [ZU,if_neg fun e=>hd t e ?_]
 subst ht
 exact List.mem_append_left _ (List.mem_filterMap.2 ⟨.tmp t,by simpa using hx,rfl⟩)
theorem XS {o:Oper}(h:Eqv st st'):xi o st st':=⟨fun x hx=>XY fun t _=>h.s t,fun k _=>h.r k,fun k _=>h.b k⟩
def qo (all:List Oper)(o:Oper)(st st':St):Prop:= ∀j w,o.guard=some (j,w)→qA all st' j=qA all st j
theorem JL {all:List Oper}{j:Nat}(h: ∀o d,all[j]? =some o→o.dst=some d→lk st'.s d=lk st.s d):qA all st' j=qA all st j:=by
 unfold qA
 split
 ·rename_i o ho
  split
  ·rename_i d hd
   rw [h o d ho hd]
  ·rfl
 ·rfl
theorem uX {all:List Oper}{o:Oper}{d:Option Tmp}{δ:Dl}(hd: ∀k,d=some k→k∉o.looksAt all.toArray):qo all o st (st.app d δ):=fun j w hg=>JL fun o' k ho hk=>by
 rw [ZU,if_neg fun e=>hd k e ?_]
 refine List.mem_append_right _ ?_
 rw [hg]
 simp only [List.getElem?_toArray,ho,Option.bind_some,hk,Option.toList_some,List.mem_singleton]
theorem uY {all:List Oper}{o:Oper}(h:Eqv st st'):qo all o st st':=fun j w _=>JL fun o' k _ _=>h.s k
theorem qo.symm {all:List Oper}{o:Oper}(h:qo all o st st'):qo all o st' st:=fun j w hg=>(h j w hg).symm
theorem fp_l {o:Oper}(h:xi o st st'):fp o st'=fp o st:=by
 have h1:fpA o st'=fpA o st:=by unfold fpA;rw [List.map_congr_left fun x hx=>h.e x (WZ hx)]
 have h2:fpC o st'=fpC o st:=by
  unfold fpC
  cases hc:yD o with
  |none=>simp only [uM h];exact zAL fun T i hm=>h.capB hm
  |some x=>
   obtain⟨f,args,ts⟩:=x
   simp only
   rw [h.args hc]
   cases hv:args.toList.map (ev st)with
   |nil=>rfl
   |cons v vs=>
    cases v with
    |bp T i=>simp only [fpB];rw [(h.box hc hv).1]
    |_=>rfl
 unfold fp
 rw [h1,h2]
theorem zEd {o:Oper}{δ:Dl}(h:xi o st st')(ha:vn P np τ o st δ):vn P np τ o st' δ:=by
 unfold vn at ha⊢
 rcases ha with ha|ha|ha
 ·refine .inl ?_
  obtain⟨h1,h2,h3,h4,h5,hdd,h10⟩:=ha
  have hfp:=fp_l h
  refine⟨h1,h2,h3.imp id fun⟨f,xs,e1,e2⟩=>⟨f,xs,?_,e2⟩,h4,h5,hdd.imp id fun⟨d,R,R0,h6,h7,h8,h9⟩=>⟨d,R,R0,h6,by rw [h.r d h9];exact h7,h8,by rw [hfp];exact h9⟩,fun st2 h11=>h10 st2 ⟨fun x hx=>by rw [h11.e x hx,h.e x hx],fun d hd=>by rw [h11.r d (by rw [hfp];exact hd),h.r d hd],fun d hd=>by rw [h11.b d (by rw [hfp];exact hd),h.b d hd]⟩⟩
  rw [e1]
  exact congrArg _ (List.map_congr_left fun x hx=>(h.e x (WZ (e2 x hx))).symm)
 ·refine .inr (.inl ?_)
  unfold jn at ha⊢
  cases hc:yD o with
  |none=>rw [hc]at ha;exact ha.elim
  |some x=>
   obtain⟨f,args,ts⟩:=x
   rw [hc]at ha
   simp only at ha⊢
   have h2:AgV st st' (.agg (args.toList.map (ev st))):=by
    refine⟨fun d hd=> ?_,fun t ht=> ?_⟩
    ·obtain⟨v,hv,hm⟩:=yG.1 hd
     obtain⟨x,hx,rfl⟩:=List.mem_map.1 hv
     exact(h.v (wN hc x (by simpa using hx))).1 d hm
    ·obtain⟨v,hv,hm⟩:=yG.1 ht
     obtain⟨x,hx,rfl⟩:=List.mem_map.1 hv
     exact(h.v (wN hc x (by simpa using hx))).2 t hm
   rw [h.args hc,VF h2]
   exact ha
 refine .inr (.inr ?_)
 cases hc:yD o with
 |none=>rw [hc]at ha;simp only [zKN h]at ha⊢;exact ha
 |some x=>
  obtain⟨f,args,ts⟩:=x
  rw [hc]at ha
  simp only at ha⊢
  have h2:AgV st st' (.agg (args.toList.map (ev st))):=by
   refine⟨fun d hd=> ?_,fun t ht=> ?_⟩
   ·obtain⟨v,hv,hm⟩:=yG.1 hd
    obtain⟨x,hx,rfl⟩:=List.mem_map.1 hv
    exact(h.v (wN hc x (by simpa using hx))).1 d hm
   ·obtain⟨v,hv,hm⟩:=yG.1 ht
    obtain⟨x,hx,rfl⟩:=List.mem_map.1 hv
    exact(h.v (wN hc x (by simpa using hx))).2 t hm
  rw [h.args hc,VF h2]
  cases hx:ye τ st ts.toList (args.toList.map (ev st))with
  |some y=>rw [hx]at ha;exact ha
  |none=>
   rw [hx]at ha
   refine⟨ha.1,?_⟩
   have :=ha.2
   unfold Qv at this⊢
   rw [zGV h]
   exact this
theorem jj {all:List Oper}{o:Oper}{δ:Dl}(h:xi o st st')(hg:qo all o st st')(ha:qc P np τ all o st δ):qc P np τ all o st' δ:=by
 unfold qc at ha⊢
 cases hgd:o.guard with
 |none=>rw [hgd]at ha;exact zEd h ha
 |some x=>
  obtain⟨j,want⟩:=x
  rw [hgd]at ha
  simp only at ha⊢
  rw [hg j want hgd]
  split at ha
  ·rename_i b hb
   exact⟨fun e=>zEd h (ha.1 e),ha.2⟩
  ·exact ha
  ·exact ha
end
structure Rec where
 i:Nat
 f:List Nat
 w:List Nat
section
variable (P:Program) (np:Bool) (τ:Ty) (all:List Oper) (A:List (List Nat))
def Jy (j i:Nat):Bool:=(A.getD j []).contains i
def Ind (c:Rec)(o:Oper)(st:St)(δ:Dl):Prop:=(∀n∈c.w,n∉fp o st)∧(∀n∈δ.wr,n∉c.f)∧(∀n∈c.w,n∉δ.wr)∧∀oc,all[c.i]? =some oc→oc.apart all.toArray o=true
def VC (Q:St→Prop):List Rec→Nat→Array Bool→St→Prop
 |_,0,listed,st=>Region.ready .any all.toArray listed= []∧Q st
 |cs,fuel+1,listed,st=>(Region.ready .any all.toArray listed= []→Q st)∧
  ∀j∈Region.ready .any all.toArray listed,∃o δ,all[j]? =some o∧qc P np τ all o st δ∧(∀c∈cs,Jy A j c.i=true∨Ind all c o st δ)∧VC Q cs fuel (listed.setIfInBounds j true) (st.app o.dst δ)
def Kr :Bool:=A.length==all.length&&(List.range all.length).all fun j=>(A.getD j []).all fun i=>match all[j]? with
 |some o=>o.after.any fun e=>Region.binds .any e&&decide (e.on<j)&&(e.on==i||Jy A e.on i)
 |none=>false
def Uj (listed:Array Bool):Prop:= ∀(j:Nat) (o:Oper),all[j]? =some o→listed.getD j false=true→∀e∈o.after,Region.binds .any e=true→listed.getD e.on false=true
end
section
variable {P:Program} {np:Bool} {τ:Ty} {all:List Oper} {A:List (List Nat)} {Q:St→Prop}
theorem kS {c:Rec}{o:Oper}{st st':St}{δ:Dl}(hf:fp o st'=fp o st)(h:Ind all c o st δ):Ind all c o st' δ:=⟨by rw [hf];exact h.1,h.2.1,h.2.2.1,h.2.2.2⟩
theorem Ux (hQ: ∀st st',Eqv st st'→Q st→Q st'): ∀(fuel:Nat) (cs:List Rec) (listed:Array Bool) (st st':St),Eqv st st'→VC P np τ all A Q cs fuel listed st→VC P np τ all A Q cs fuel listed st'
 |0,cs,listed,st,st',h,ha=>⟨ha.1,hQ _ _ h ha.2⟩
 |fuel+1,cs,listed,st,st',h,ha=>by
  refine⟨fun h0=>hQ _ _ h (ha.1 h0),fun j hj=> ?_⟩
  obtain⟨o,δ,h1,h2,h3,h4⟩:=ha.2 j hj
  have hf:=(XS (o:=o) h).fp
  exact⟨o,δ,h1,jj (XS h) (uY h) h2,fun c hc=>(h3 c hc).imp id (kS hf),Ux hQ fuel cs _ _ _ (zCX h _ _) h4⟩
theorem uJ {cs cs':List Rec}(hs: ∀c∈cs',c∈cs): ∀(fuel:Nat) (listed:Array Bool) (st:St),VC P np τ all A Q cs fuel listed st→VC P np τ all A Q cs' fuel listed st
 |0,listed,st,h=>h
 |fuel+1,listed,st,h=>⟨h.1,fun j hj=>by
  obtain⟨o,δ,h1,h2,h3,h4⟩:=h.2 j hj
  exact⟨o,δ,h1,h2,fun c hc=>h3 c (hs c hc),uJ hs fuel _ _ h4⟩⟩
theorem zI1 {listed:Array Bool}{i:Nat}(h:listed.getD i false=true):listed.getD i true=true:=by
 rw [Array.getD_eq_getD_getElem?]at h⊢
 cases hx:listed[i]? with
 |none=>simp
 |some b=>rw [hx]at h;simpa using h
theorem zDi (hA:Kr all A=true){listed:Array Bool}(hd:Uj all listed): ∀(j i:Nat),(listed.getD j false=true∨j∈Region.ready .any all.toArray listed)→Jy A j i=true→listed.getD i false=true:=by
 intro j
 induction j using Nat.strongRecOn with
 |_ j ih=>
  intro i hj hb
  have hin:i∈A.getD j []:=by simpa [Jy]using hb
  obtain⟨hlen,hA'⟩:A.length=all.length∧_:=by simpa only [Kr,Bool.and_eq_true,beq_iff_eq]using hA
  by_cases hlt:j<all.length
  ·have h1:=List.all_eq_true.1 hA' j (List.mem_range.2 hlt)
   have h2:=List.all_eq_true.1 h1 i hin
   rw [List.getElem?_eq_getElem hlt]at h2
   simp only [Array.any_eq_true',Bool.and_eq_true,decide_eq_true_eq,Bool.or_eq_true,beq_iff_eq]at h2
   obtain⟨e,he,⟨hbd,hlt2⟩,hor⟩:=h2
   have hl:listed.getD e.on false=true:=by
    rcases hj with hj|hj
    ·exact hd j _ (List.getElem?_eq_getElem hlt) hj e he hbd
    ·obtain⟨_,o,ho,hall⟩:=mem_ready.1 hj
     rw [List.getElem?_toArray,List.getElem?_eq_getElem hlt]at ho
     cases ho
     exact hall e he hbd
   rcases hor with hor|hor
   ·rw [←hor];exact hl
   ·exact ih e.on hlt2 i (.inl hl) hor
  ·rw [List.getD_eq_getElem?_getD,List.getElem?_eq_none (by omega)]at hin
   simp at hin
theorem zAV {listed:Array Bool}(hd:Uj all listed){j:Nat}(hj:j∈Region.ready .any all.toArray listed):Uj all (listed.setIfInBounds j true):=fun k o ho hk e he hb=>by
 by_cases hkj:k=j
 ·subst hkj
  obtain⟨_,o',ho',hall⟩:=mem_ready.1 hj
  rw [List.getElem?_toArray,ho]at ho'
  cases ho'
  exact getD_set_true (hall e he hb)
 ·rw [getD_set_ne false (fun h=>hkj h.symm)]at hk
  exact getD_set_true (hd k o ho hk e he hb)
theorem zDf (hQ: ∀st st',Eqv st st'→Q st→Q st')(hA:Kr all A=true){i:Nat}{oi:Oper}{δi:Dl}(hi:all[i]? =some oi): ∀(fuel:Nat) (listed:Array Bool) (st:St) (cs:List Rec),Uj all listed→
  i∈Region.ready .any all.toArray listed→qc P np τ all oi st δi→(∀c∈cs,Jy A i c.i=true∨Ind all c oi st δi)→
  VC P np τ all A Q (⟨i,fp oi st,δi.wr⟩::cs) fuel (listed.setIfInBounds i true) (st.app oi.dst δi)→VC P np τ all A Q cs (fuel+1) listed st:=by
 intro fuel
 induction fuel with
 |zero=>
  intro listed st cs hdn hr hst hcs H
  refine⟨fun h=>(by rw [h]at hr;cases hr),fun j hj=> ?_⟩
  by_cases hji:j=i
  ·subst hji;exact⟨oi,δi,hi,hst,hcs,H.1,H.2⟩
  ·have :=ready_mono hj hji
   rw [H.1]at this
   cases this
 |succ fuel ih=>
  intro listed st cs hdn hr hst hcs H
  refine⟨fun h=>(by rw [h]at hr;cases hr),fun j hj=> ?_⟩
  by_cases hji:j=i
  ·subst hji;exact⟨oi,δi,hi,hst,hcs,uJ (fun c hc=>List.mem_cons_of_mem _ hc) _ _ _ H⟩
  ·obtain⟨oj,δj,hoj,hstep,hind,hrest⟩:=H.2 j (ready_mono hj hji)
   have hnb: ¬Jy A j i=true:=fun hb=>by
    have h1:=zDi hA hdn j i (.inr hj) hb
    have h2:=(mem_ready.1 hr).1
    rw [zI1 h1]at h2
    cases h2
   obtain⟨a1,a2,a3,a4⟩:Ind all ⟨i,fp oi st,δi.wr⟩ oj (st.app oi.dst δi) δj:=by
    rcases hind ⟨i,fp oi st,δi.wr⟩ (by simp)with h|h
    ·exact absurd h hnb
    ·exact h
   obtain⟨h1,h2,h3⟩:=Oper.apart_spec (a4 oi hi)
   have ag1:=zDe (o:=oj) (st:=st) h1 a1
   have gg1:qo all oj (st.app oi.dst δi) st:=(uX (st:=st) (δ:=δi) h1).symm
   have ag2:=zEg (o:=oi) (st:=st) (δ:=δj) h3 a2
   have gg2:qo all oi st (st.app oj.dst δj):=uX (st:=st) (δ:=δj) h3
   refine⟨oj,δj,hoj,jj ag1 gg1 hstep,fun c hc=>(hind c (List.mem_cons_of_mem _ hc)).imp id (kS ag1.fp),?_⟩
   refine ih (listed.setIfInBounds j true) (st.app oj.dst δj) cs (zAV hdn hj) (ready_mono hr (Ne.symm hji)) (jj ag2 gg2 hst) (fun c hc=>(hcs c hc).imp id (kS ag2.fp)) ?_
   rw [ag2.fp,Array.setIfInBounds_comm _ _ hji]
   exact Ux hQ _ _ _ _ _ (zGc h2 a3) hrest
def dis (x y:List Nat):Bool:=x.all fun n=> !y.contains n
theorem KC {x y:List Nat}(h:dis x y=true): ∀n∈x,n∉y:=fun n hn hy=>by
 have :=List.all_eq_true.1 h n hn
 simp [hy]at this
def zBD (all:List Oper)(A:List (List Nat))(c r:Rec):Bool:=Jy A r.i c.i||(dis c.w r.f&&(dis r.w c.f&&(dis c.w r.w&&(match all[c.i]?,all[r.i]? with|some oc,some o=>oc.apart all.toArray o|_,_=>false))))
def chk (all:List Oper)(A:List (List Nat)):List Rec→Bool
 | []=>true
 |r::cs=>(cs.all fun c=>zBD all A c r)&&chk all A cs
def Qd (all:List Oper):Nat→Nat→Array Bool→Bool
 |0,_,listed=>(Region.ready .any all.toArray listed).isEmpty
 |fuel+1,k,listed=>(Region.ready .any all.toArray listed).contains k&&Qd all fuel (k+1) (listed.setIfInBounds k true)
def lexP (P:Program)(np:Bool)(τ:Ty)(all:List Oper)(A:List (List Nat))(Q:St→Prop):List Oper→Nat→List Rec→St→Prop
 | [],_,cs,st=>Q st
 |o::os,k,cs,st=> ∃δ,qc P np τ all o st δ∧((cs.all fun c=>zBD all A c ⟨k,fp o st,δ.wr⟩)=true)∧lexP P np τ all A Q os (k+1) (⟨k,fp o st,δ.wr⟩::cs) (st.app o.dst δ)
theorem Uy (hQ: ∀st st',Eqv st st'→Q st→Q st')(hA:Kr all A=true): ∀(os:List Oper) (k:Nat) (cs:List Rec) (listed:Array Bool) (st:St),(∀j,os[j]? =all[k+j]?)→Uj all listed→Qd all os.length k listed=true→lexP P np τ all A Q os k cs st→VC P np τ all A Q cs os.length listed st
 | [],k,cs,listed,st,_,_,hB,h=>⟨by simpa [Qd]using hB,h⟩
 |o::os,k,cs,listed,st,hl,hd,hB,h=>by
  have h0:all[k]? =some o:=by simpa using (hl 0).symm
  simp only [List.length_cons,Qd,Bool.and_eq_true]at hB
  obtain⟨hr,hB'⟩:=hB
  have hr':k∈Region.ready .any all.toArray listed:=by simpa using hr
  obtain⟨δ,h1,h2,h3⟩:=h
  refine zDf hQ hA h0 os.length listed st cs hd hr' h1 (fun c hc=> ?_) (Uy hQ hA os (k+1) _ _ _ (fun j=>by have :=hl (j+1);simpa [Nat.add_assoc,Nat.add_comm 1 j]using this) (zAV hd hr') hB' h3)
  have hp:=List.all_eq_true.1 h2 c hc
  simp only [zBD,Bool.or_eq_true,Bool.and_eq_true]at hp
  rcases hp with hp|⟨p1,p2,p3,p4⟩
  ·exact .inl hp
  ·refine .inr ⟨KC p1,KC p2,KC p3,fun oc hoc=> ?_⟩
   rw [hoc,h0]at p4
   exact p4
def UQ (P:Program)(τ:Ty)(o:Oper)(st:St)(K:Dl→Prop):Prop:=
 match ZR τ o st with
 |some (f,as,T,cells,ds,ob)=>ob∧∃ds' ress,FnB P τ f ds as ds' ress∧szL τ (zv ress)∧(zv ress).length≤16∧K ⟨qk (xT τ (zy o) 0 ress),qN (zy o) 0 (zv ress),[],[(T,xn cells ds')]⟩
 |none=>False
theorem zEe {o:Oper}{st:St}{K:Dl→Prop}(h:UQ P τ o st K): ∃δ,Qv P τ o st δ∧K δ:=by
 unfold UQ at h
 unfold Qv
 cases hx:ZR τ o st with
 |none=>rw [hx]at h;exact h.elim
 |some y=>
  obtain⟨f,as,T,cells,ds,ob⟩:=y
  rw [hx]at h
  obtain⟨h1,ds',ress,h2,h3,h4,h5⟩:=h
  exact⟨_,⟨h1,ds',ress,h2,h3,h4,rfl⟩,h5⟩
def ZS (P:Program)(np:Bool)(τ:Ty)(o:Oper)(st:St)(K:Dl→Prop):Prop:=
 match yD o with
 |some (f,args,ts)=>
  match ye τ st ts.toList (args.toList.map (ev st))with
  |some (as,ob)=>ob∧∃ress,Fn P τ f as ress∧szL τ (zv ress)∧(zv ress).length≤16∧K ⟨qk (xT τ (zy o) 0 ress),qN (zy o) 0 (zv ress),[],[]⟩
  |none=>np=false∧UQ P τ o st K
 |none=>
  match vz np τ o st with
  |some (δ,ob)=>ob∧K δ
  |none=>False
theorem VA {o:Oper}{st:St}{K:Dl→Prop}(h:ZS P np τ o st K): ∃δ,vn P np τ o st δ∧K δ:=by
 unfold ZS at h
 unfold vn
 suffices hs: ∃δ,(match yD o with
  |some (f,args,ts)=>
   match ye τ st ts.toList (args.toList.map (ev st))with
   |some (as,ob)=>ob∧∃ress,Fn P τ f as ress∧szL τ (zv ress)∧(zv ress).length≤16∧δ=⟨qk (xT τ (zy o) 0 ress),qN (zy o) 0 (zv ress),[],[]⟩
   |none=>np=false∧Qv P τ o st δ
  |none=>
   match vz np τ o st with
   |some (δ',ob)=>ob∧δ=δ'
   |none=>False)∧K δ by
  obtain⟨δ,h1,h2⟩:=hs
  exact⟨δ, .inr (.inr h1),h2⟩
 cases hc:yD o with
 |some x=>
  obtain⟨f,args,ts⟩:=x
  rw [hc]at h
  simp only at h⊢
  cases ha:ye τ st ts.toList (args.toList.map (ev st))with
  |none=>
   rw [ha]at h
   obtain⟨δ,h2,h3⟩:=zEe h.2
   exact⟨δ,⟨h.1,h2⟩,h3⟩
  |some y=>
   rw [ha]at h
   obtain⟨h1,ress,h2,h3,h4,h5⟩:=h
   exact⟨_,⟨h1,ress,h2,h3,h4,rfl⟩,h5⟩
 |none=>
  rw [hc]at h
  simp only at h⊢
  cases he:vz np τ o st with
  |none=>rw [he]at h;exact h.elim
  |some y=>rw [he]at h;exact⟨y.1,⟨h.1,rfl⟩,h.2⟩
def ya (all:List Oper)(st:St)(j:Nat)(c:Bool):St:=match all[j]? with
 |some o=>st.put o.dst (.bool c)
 |none=>st
theorem zBW {all:List Oper}{st:St}{j:Nat}{b:Bool}(h:qA all st j=some (some b)):Eqv st (ya all st j b):=by
 unfold qA at h
 unfold ya
 cases ho:all[j]? with
 |none=>exact Eqv.refl st
 |some o=>
  rw [ho]at h
  simp only at h⊢
  cases hd:o.dst with
  |none=>exact Eqv.refl st
  |some d=>
   rw [hd]at h
   simp only at h
   split at h
   ·rename_i b' hb
    cases h
    refine⟨rfl,fun k=> ?_,fun _=>rfl,fun _=>rfl⟩
    simp only [St.put,zd]
    split
    ·rename_i e;subst e;exact hb.symm
    ·rfl
   ·cases h
   ·cases h
def brB (b:Bool)(X Y:Prop):Prop:=(b=true→X)∧(b=false→Y)
theorem zK (X Y:Prop):brB true X Y=X:=propext ⟨fun h=>h.1 rfl,fun h=>⟨fun _=>h,fun e=>(by cases e)⟩⟩
theorem zJ (X Y:Prop):brB false X Y=Y:=propext ⟨fun h=>h.2 rfl,fun h=>⟨fun e=>(by cases e),fun _=>h⟩⟩
theorem zP {b:Bool}{X Y:Prop}(h1:b=true→X)(h2:b=false→Y):brB b X Y:=⟨h1,h2⟩
def wg (P:Program)(np:Bool)(τ:Ty)(all:List Oper)(C:List Rec→Prop)(Q:St→Prop):List Oper→Nat→List Rec→St→Prop
 | [],_,cs,st=>C cs∧Q st
 |o::os,k,cs,st=>
  match o.guard with
  |none=>ZS P np τ o st fun δ=>wg P np τ all C Q os (k+1) (⟨k,fp o st,δ.wr⟩::cs) (st.app o.dst δ)
  |some (j,want)=>
   match qA all st j with
   |some (some b)=>
    brB b (if want=true then ZS P np τ o (ya all st j true) fun δ=>wg P np τ all C Q os (k+1) (⟨k,fp o (ya all st j true),δ.wr⟩::cs) ((ya all st j true).app o.dst δ)else wg P np τ all C Q os (k+1) (⟨k,fp o (ya all st j true),Dl.skip.wr⟩::cs) ((ya all st j true).app o.dst Dl.skip))
     (if want=false then ZS P np τ o (ya all st j false) fun δ=>wg P np τ all C Q os (k+1) (⟨k,fp o (ya all st j false),δ.wr⟩::cs) ((ya all st j false).app o.dst δ)else wg P np τ all C Q os (k+1) (⟨k,fp o (ya all st j false),Dl.skip.wr⟩::cs) ((ya all st j false).app o.dst Dl.skip))
   |some none=>wg P np τ all C Q os (k+1) (⟨k,fp o st,Dl.skip.wr⟩::cs) (st.app o.dst Dl.skip)
   |none=>False
theorem ui : ∀(os:List Oper) (k:Nat) (cs:List Rec) (st st0:St),Eqv st0 st→wg P np τ all (fun cs=>chk all A cs=true) Q os k cs st→chk all A cs=true∧lexP P np τ all A (fun st'=> ∃s,Eqv st' s∧Q s) os k cs st0
 | [],k,cs,st,st0,he,h=>⟨h.1,st,he,h.2⟩
 |o::os,k,cs,st,st0,he,h=>by
  have go: ∀st,Eqv st0 st→(∃δ,qc P np τ all o st δ∧wg P np τ all (fun cs=>chk all A cs=true) Q os (k+1) (⟨k,fp o st,δ.wr⟩::cs) (st.app o.dst δ))→chk all A cs=true∧lexP P np τ all A (fun st'=> ∃s,Eqv st' s∧Q s) (o::os) k cs st0:=by
   rintro st he ⟨δ,h1,h2⟩
   have hf:=(XS (o:=o) he.symm).fp
   obtain⟨h3,h4⟩:=ui os _ _ _ _ (zCX he o.dst δ) h2
   rw [←hf]at h3 h4
   simp only [chk,Bool.and_eq_true]at h3
   exact⟨h3.2,δ,jj (XS he.symm) (uY he.symm) h1,h3.1,h4⟩
  simp only [wg]at h
  split at h
  ·rename_i hg
   obtain⟨δ,h1,h2⟩:=VA h
   exact go st he ⟨δ,by unfold qc;rw [hg];exact h1,h2⟩
  ·rename_i j want hg
   split at h
   ·rename_i b hgv
    have he2:=zBW hgv
    have hgv':qA all (ya all st j b) j=some (some b):=by rw [JL (st:=st) fun o' d _ _=>he2.s d];exact hgv
    refine go (ya all st j b) (he.trans he2) ?_
    have hb:if want=b then ZS P np τ o (ya all st j b) fun δ=>wg P np τ all (fun cs=>chk all A cs=true) Q os (k+1) (⟨k,fp o (ya all st j b),δ.wr⟩::cs) ((ya all st j b).app o.dst δ)else wg P np τ all (fun cs=>chk all A cs=true) Q os (k+1) (⟨k,fp o (ya all st j b),Dl.skip.wr⟩::cs) ((ya all st j b).app o.dst Dl.skip):=by
     cases b
     ·exact h.2 rfl
     ·exact h.1 rfl
    by_cases hw:want=b
    ·rw [if_pos hw]at hb
     obtain⟨δ,h1,h2⟩:=VA hb
     refine⟨δ,?_,h2⟩
     unfold qc;rw [hg];simp only [hgv']
     exact⟨fun _=>h1,fun e'=>by subst hw;cases want<;>cases e'⟩
    ·rw [if_neg hw]at hb
     refine⟨Dl.skip,?_,hb⟩
     unfold qc;rw [hg];simp only [hgv']
     exact⟨fun h=>absurd h.symm hw,fun _=>by first|rfl|trivial⟩
   ·rename_i hgv
    refine go st he ⟨Dl.skip,?_,h⟩
    unfold qc;rw [hg];simp only [hgv]
   ·exact h.elim
end
def own (t:Nat):Nat→Bool:=fun n=>if n%2=1 then n / 2==t else n / 32==t
theorem yY {t j:Nat}(hj:j<16):own t (2*zb t j)=true:=by
 unfold own zb
 rw [if_neg (by omega)]
 simp only [beq_iff_eq]
 omega
theorem kg {t:Nat}:own t (2*t+1)=true:=by
 unfold own
 rw [if_pos (by omega)]
 simp only [beq_iff_eq]
 omega
structure yN (ns:Nat→Bool)(st:St):Prop where
 s: ∀k v,lk st.s k=some v→∀n∈v.nm,ns n=false
 b: ∀k cs,lk st.b k=some cs→∀n∈AV.nmL cs,ns n=false
theorem zE2 (v:Value):(cv1 v).nm= []:=by unfold cv1;split<;>rfl
theorem cv_nm (v:Value):(cv v).nm= []:=by
 unfold cv
 split
 ·rename_i cs
  simp only [AV.nm]
  rw [List.eq_nil_iff_forall_not_mem]
  intro n hn
  obtain⟨v,hv,hm⟩:=yG.1 hn
  obtain⟨x,_,rfl⟩:=List.mem_map.1 hv
  rw [zE2]at hm
  simp at hm
 ·exact zE2 _
theorem yN.ev {ns:Nat→Bool}{st:St}(h:yN ns st)(x:Operand): ∀n∈(ev st x).nm,ns n=false:=by
 intro n hn
 cases x with
 |tmp t=>
  simp only [Go.Proofs.Ytggpbepdeilpgaa.ev]at hn
  cases hx:lk st.s t with
  |none=>rw [hx]at hn;simp [AV.nm]at hn
  |some v=>rw [hx]at hn;exact h.s t v hx n hn
 |const v=>simp only [Go.Proofs.Ytggpbepdeilpgaa.ev,cv_nm]at hn;simp at hn
 |func f=>simp [Go.Proofs.Ytggpbepdeilpgaa.ev,AV.nm,AV.nmL]at hn
 |global g=>simp [Go.Proofs.Ytggpbepdeilpgaa.ev,AV.nm]at hn
mutual
theorem WS {ds bs:Nat→Bool}: ∀(v:AV),(∀d,2*d∈v.nm→ds d=false)→(∀t,2*t+1∈v.nm→bs t=false)→v.kill ds bs=v
 | .int k n,_,_=>rfl
 | .bool b,_,_=>rfl
 | .sl d p off len e,h,_=>by simp [AV.kill,h d (by simp [AV.nm])]
 | .nil,_,_=>rfl
 | .ep d p i,h,_=>by simp [AV.kill,h d (by simp [AV.nm])]
 | .bp t i,_,h=>by simp [AV.kill,h t (by simp [AV.nm])]
 | .agg vs,h,g=>by simp only [AV.kill,vZ vs (fun d hd=>h d (by simpa only [AV.nm]using hd)) (fun t ht=>g t (by simpa only [AV.nm]using ht))]
 | .tup vs,h,g=>by simp only [AV.kill,vZ vs (fun d hd=>h d (by simpa only [AV.nm]using hd)) (fun t ht=>g t (by simpa only [AV.nm]using ht))]
 | .fn f vs,h,g=>by simp only [AV.kill,vZ vs (fun d hd=>h d (by simpa only [AV.nm]using hd)) (fun t ht=>g t (by simpa only [AV.nm]using ht))]
 | .dead,_,_=>rfl
 | .raw u,_,_=>rfl
theorem vZ {ds bs:Nat→Bool}: ∀(vs:List AV),(∀d,2*d∈AV.nmL vs→ds d=false)→(∀t,2*t+1∈AV.nmL vs→bs t=false)→AV.killL ds bs vs=vs
 | [],_,_=>rfl
 |v::vs,h,g=>by
  simp only [AV.killL]
  rw [WS v (fun d hd=>h d (by simp [AV.nmL,hd])) (fun t ht=>g t (by simp [AV.nmL,ht])),vZ vs (fun d hd=>h d (by simp [AV.nmL,hd])) (fun t ht=>g t (by simp [AV.nmL,ht]))]
end
structure xR (st st':St):Prop where
 n:st'.n=st.n
 s: ∀k,lk st'.s k=lk st.s k
 b: ∀k,lk st'.b k=lk st.b k
theorem xR.refl (st:St):xR st st:=⟨rfl,fun _=>rfl,fun _=>rfl⟩
theorem xR.trans {st st' st'':St}(h:xR st st')(g:xR st' st''):xR st st'':=⟨g.n.trans h.n,fun k=>(g.s k).trans (h.s k),fun k=>(g.b k).trans (h.b k)⟩
theorem xR.free {ns:Nat→Bool}{st st':St}(h:xR st st')(hf:yN ns st):yN ns st':=⟨fun k v hv=>hf.s k v (by rw [←h.s];exact hv),fun k v hv=>hf.b k v (by rw [←h.b];exact hv)⟩
theorem xR.ev {st st':St}(h:xR st st')(x:Operand):ev st' x=ev st x:=XY fun t _=>h.s t
theorem Xc {ns:Nat→Bool}{st:St}(hf:yN ns st){d:Nat}(hd:ns (2*d)=true):xR st (st.kill (is1 d) noB):=by
 have key: ∀n,ns n=false→∀k,n=2*k→is1 d k=false:=fun n hn k hk=>by
  subst hk
  unfold is1
  simp only [beq_eq_false_iff_ne]
  rintro rfl
  rw [hd]at hn;cases hn
 refine⟨rfl,fun k=> ?_,fun k=> ?_⟩
 ·simp only [St.kill,zz]
  cases hx:lk st.s k with
  |none=>rfl
  |some v=>rw [Option.map_some,WS (bs:=noB) v (fun d' hd'=>key _ (hf.s k v hx _ hd') d' rfl) (fun _ _=>rfl)]
 ·simp only [St.kill,zz]
  cases hx:lk st.b k with
  |none=>rfl
  |some v=>rw [Option.map_some,vZ (bs:=noB) v (fun d' hd'=>key _ (hf.b k v hx _ hd') d' rfl) (fun _ _=>rfl)]
theorem qQ {ns:Nat→Bool}{st:St}(hf:yN ns st){d:Nat}(hd:ns (2*d)=true)(R:zr):xR st (st.addR d R):=⟨rfl,(Xc hf hd).s,(Xc hf hd).b⟩
theorem uS {ns:Nat→Bool}{st:St}(hf:yN ns st){d:Nat}(hd:ns (2*d)=true):xR st (st.delR d):=⟨rfl,(Xc hf hd).s,(Xc hf hd).b⟩
theorem Ky (st:St)(d:Nat):xR st (st.delR0 d):=⟨rfl,fun _=>rfl,fun _=>rfl⟩
theorem qE {st st1:St}{d:Option Tmp}{δ:Dl}{v:AV}(hs:xR st st1)(hv:v=δ.v)(hb:δ.bx= [])(hr: ∀k R,(lk δ.add k).or (if δ.del.contains k then none else lk st.r k)=some R→lk st1.r k=some R):Cov (st1.put d v) (st.app d δ):=by
 subst hv
 refine⟨?_,fun k v hv=> .inr ?_,fun k cs hc=> ?_,fun k R hR=> ?_⟩
 ·rw [Ko,zIJ];exact hs.n.symm
 ·rw [ZU]at hv
  cases d with
  |none=>simp at hv;simp only [St.put];rw [hs.s];exact hv
  |some d=>
   simp only [St.put,zd]
   simp only [Option.some.injEq]at hv
   split at hv
   ·rename_i e;rw [if_pos e];exact hv
   ·rename_i e;rw [if_neg e,hs.s];exact hv
 ·rw [wK,hb]at hc
  simp only [xJ,Option.none_or]at hc
  cases d<;>simp only [St.put]<;>rw [hs.b]<;>exact hc
 ·rw [wL]at hR
  have :=hr k R hR
  cases d<;>exact this
section
variable {P:Program} {np:Bool} {τ:Ty} {lo:Nat} {w0:Fz} {ow:Nat→Option Pl} {hd:Nat→Value} {bk:Nat→Nat} {st:St} {a:Act} {w:World}
theorem zGr {o:Oper}{st1:St}{v:AV}{δ:Dl}{K':Act→World→Prop}{Q:Exit→Act→World→Prop}(hdn: ∀k,o.dst=some k→k<a.tmps.size)(h:vA P τ lo w0 a w o st1 v)(hc:Cov (st1.put o.dst v) (st.app o.dst δ))
  (hK: ∀x w',Rel τ lo w0 (st.app o.dst δ) (a.put o.dst x) w'→K' (a.put o.dst x) w'):o.wp P a w K' Q:=by
 obtain⟨z,w',ow',hd',bk',hrun,r1,r2⟩:=h
 unfold Oper.wp
 rcases hrun with hrun|⟨hrun,rfl⟩<;>rw [hrun]<;>exact hK _ w' (ql (yb r1 hdn r2) hc)
theorem Ua {k d:Nat}{R R':zr}{l:List (Nat×zr)}(h:(lk [(d,R)] k).or (if([]:List Nat).contains k then none else lk l k)=some R'):lk ((d,R)::l) k=some R':=by
 simp only [zd,xJ]at h⊢
 split
 ·rename_i e;rw [if_pos e]at h;exact h
 ·rename_i e;rw [if_neg e]at h;simpa using h
theorem zFd {t:Nat}{ty:TypeId}{l c:AV}{δ:Dl}{ob:Prop}(hf:yN (own t) st)(h:VW τ t ty l c=some (δ,ob)): ∃st1 v,JN τ st t ty l c=some (st1,v,ob)∧∀d,Cov (st1.put d v) (st.app d δ):=by
 unfold VW at h
 unfold JN
 split at h
 ·rename_i e b ht
  rw [ht]
  simp only at h⊢
  split at h
  ·rename_i ck b k1 n k2 m h1
   rw [h1]
   simp only
   split at h
   ·rename_i hb
    cases h
    rw [if_pos hb]
    exact⟨_,_,rfl,fun d=>qE (qQ hf (yY (by omega)) _) rfl rfl fun k R hR=>Ua hR⟩
   ·cases h
  ·cases h
 ·cases h
theorem zG7 {t:Nat}{ty:TypeId}{len:Nat}{parts:List (Nat×AV)}{δ:Dl}{ob:Prop}(hf:yN (own t) st)(h:KK τ t ty len parts=some (δ,ob)): ∃st1 v,kW τ st t ty len parts=some (st1,v,ob)∧∀d,Cov (st1.put d v) (st.app d δ):=by
 unfold KK at h
 unfold kW
 split at h
 ·rename_i e b ht
  rw [ht]
  simp only at h⊢
  split at h
  ·rename_i hc
   rw [if_pos hc]
   split at h
   ·rename_i ds h1
    rw [h1]
    cases h
    exact⟨_,_,rfl,fun d=>qE (qQ hf (yY (by omega)) _) rfl rfl fun k R hR=>Ua hR⟩
   ·cases h
  ·cases h
 ·cases h
theorem zEJ {ty:TypeId}{d:Nat}{q:List Nat}{i:Nat}{v:AV}{δ:Dl}{ob:Prop}(h:vT τ st ty (.ep d q i) v=some (δ,ob)): ∃st1 u,Qr τ [] st ty (.ep d q i) v=some (st1,u,ob)∧∀d,Cov (st1.put d u) (st.app d δ):=by
 simp only [vT]at h
 simp only [Qr]
 split at h
 ·rename_i R x c by_ h1 h2 h3
  rw [h1,h2,h3]
  simp only
  split at h
  ·rename_i hs
   rw [if_pos hs]
   split at h
   ·rename_i ho
    cases h
    rw [ho]
    exact⟨_,_,rfl,fun d=>qE ⟨rfl,fun _=>rfl,fun _=>rfl⟩ rfl rfl fun k R hR=>Ua hR⟩
   ·rename_i ho
    cases h
    rw [ho]
    exact⟨_,_,rfl,fun d=>qE ⟨rfl,fun _=>rfl,fun _=>rfl⟩ rfl rfl fun k R hR=>Ua hR⟩
   ·cases h
  ·cases h
 ·cases h
theorem zCI (hτ:zx P τ)(h:ze τ lo w0 ow hd bk st a w){o:Oper}{ty:TypeId}{p x:Operand}(ho:o.op= .store ty p x){b i:Nat}(hbp:ev st p= .bp b i){δ:Dl}{ob:Prop}(he:vT τ st ty (.bp b i) (ev st x)=some (δ,ob)):
  ∃st1,vA P τ lo w0 a w o st1 δ.v∧∀d,Cov (st1.put d δ.v) (st.app d δ):=by
 have hp:=zZ h p
 have hx:=zZ h x
 simp only [vT]at he
 split at he
 ·rename_i vs cells hvs hcells
  split at he
  ·rename_i hc
   obtain⟨c1,c0,c2,c3⟩:=hc
   cases he
   obtain⟨us,hus,hur⟩:=xu hvs hx
   obtain⟨cs,tyb,g1,g2,g3⟩:=h.box b cells hcells
   have hul:=qb (st:=st) hur
   have hcl:=qb (st:=st) g3
   have hrel:=YL h hcells g1 (i:=i) (by omega) g3 hur
   have hone: ∀u∈us,u.oneCell'=true:=fun u hu=>by
    obtain⟨j,hj⟩:=List.getElem?_of_mem hu
    have hjl:=(List.getElem?_eq_some_iff.1 hj).1
    have hv':=List.getElem?_eq_getElem (l:=vs) (i:=j) (by omega)
    exact(Jg (List.all_eq_true.1 c3 _ (List.mem_of_getElem? hv')) ((zp.1 hur).2 j _ u hv' hj)).1
   rw [hbp]at hp
   simp only [AvR]at hp
   have hpe:=hp.2 ⟨_,hcells⟩
   have hst:=run_storeCells_at P (bk b) i tyb us 0 cs.toArray w g1 (by simp;omega) hone
   rw [Zf]at hst
   have hsz:(a.eval x).cells.size=sz τ ty:=by rw [hus,c1];simp;omega
   have hrun:(Instr.storeAt ty (a.eval p) (a.eval x)).run P w= .ok () (w.setRow (bk b) (lay cs i us).toArray):=by
    unfold Instr.storeAt
    rw [Sem.run_bind,hpe]
    simp only [Instr.sureAddr,Sem.run_pure,Result.andThen_ok,storeVar,Sem.run_bind]
    have hz:sz τ ty≠0:=by omega
    rw [xf hτ hz]
    simp only [Result.andThen_ok]
    rw [if_neg (by simp [hsz]),hus]
    exact hst
   refine⟨_,⟨undef,_,_,_,_, .inr ⟨?_,rfl⟩,hrel,by simp only [AvR];exact⟨[],rfl,by simp [zY]⟩⟩,fun d=> ?_⟩
   ·obtain⟨dst,op,oty,pos,after,guard⟩:=o
    simp only at ho;subst ho
    simp only [execOp]
    rw [Sem.run_bind,hrun,Result.andThen_ok,Sem.run_pure]
   ·refine⟨by cases d<;>rfl,fun k v hv=> .inr ?_,fun k c hc=> ?_,fun k R hR=> ?_⟩
    ·cases d<;>exact hv
    ·rw [wK]at hc
     cases d<;>simp only [St.put,St.setB,zd]<;>(simp only [zd,xJ]at hc;split<;>simp_all)
    ·rw [wL]at hR
     cases d<;>simpa [St.put,St.setB,xJ]using hR
  ·cases he
 ·cases he
end
section
variable {P:Program} {np:Bool} {τ:Ty} {lo:Nat} {w0:Fz} {ow:Nat→Option Pl} {hd:Nat→Value} {bk:Nat→Nat} {st:St} {a:Act} {w:World}
theorem QG {v:AV}{vs:List AV}(h:fieldsOf v=some vs): ∀n,n∈AV.nmL vs→n∈v.nm:=by
 intro n hn
 cases v<;>simp only [fieldsOf]at h<;>cases h<;>simp only [AV.nmL,AV.nm,List.append_nil]at hn⊢ <;>exact hn
theorem Ks (h:ze τ lo w0 ow hd bk st a w)(t:Nat)(ht:t<1000000)(e:TypeId)(vs:List AV)(cs:List Value)(hv:zY τ w st.r st.b hd bk vs cs)(hf:yN (own t) st)(hn: ∀n∈AV.nmL vs,own t n=false):
  ∃ow' bk',ze τ lo w0 ow' hd bk' (st.addB t vs) a (w.alloc (.cells cs.toArray e))∧bk' t=w.heap.size∧xR st {st.kill noB (is1 t)with b:=st.b}∧(∀k,lk (wh (AV.killL noB (is1 t)) st.b) k=lk st.b k):=by
 have h1:=ZN h (.cells cs.toArray e) (some (.box t)) (by simp)
 have hsz:(w.alloc (.cells cs.toArray e)).heap[w.heap.size]? =some (.cells cs.toArray e (0,0)):=heap_alloc_new w _
 have hD: ∀d,noB d=false→yq w (w.alloc (.cells cs.toArray e)) st.r st.r hd hd d:=fun d _ R hR=>⟨R,hR,rfl,fun p hp=>⟨hp,xE p _ _ _ _ (h.root d R hR) hp (fun b o A n c hb _ hc=>by
  rw [xe (Below.heap_alloc w _ b hb)];exact hc)⟩⟩
 have hv1:=yA (τ:=τ) (bk:=bk) (bk':=bk) (bb:=st.b) (bb':=st.b) hD (fun t _ hl=>⟨hl,rfl⟩: ∀t,noB t=false→yp st.b st.b bk bk t) vs cs hv
 rw [xF]at hv1
 have key: ∀k,own t (2*k+1)=false→is1 t k=false:=fun k hk=>by
  unfold is1
  simp only [beq_eq_false_iff_ne]
  rintro rfl
  rw [kg]at hk;cases hk
 have e1:AV.killL noB (is1 t) vs=vs:=vZ vs (fun _ _=>rfl) (fun k hk=>key k (hn _ hk))
 have h2:=Vu h1 t ht w.heap.size vs cs e hsz (yF _ _ _) hv1
 rw [e1]at h2
 refine⟨_,upd bk t w.heap.size,h2,yF _ _ _,⟨rfl,fun k=> ?_,fun k=>rfl⟩,fun k=> ?_⟩
 ·simp only [St.kill,zz]
  cases hx:lk st.s k with
  |none=>rfl
  |some v=>rw [Option.map_some,WS (ds:=noB) v (fun _ _=>rfl) (fun d' hd'=>key _ (hf.s k v hx _ hd'))]
 ·rw [zz]
  cases hx:lk st.b k with
  |none=>rfl
  |some v=>rw [Option.map_some,vZ (ds:=noB) v (fun _ _=>rfl) (fun d' hd'=>key _ (hf.b k v hx _ hd'))]
theorem zCb {t:Nat}{vs:List AV}(d:Option Tmp)(h1:xR st {st.kill noB (is1 t)with b:=st.b})(h2: ∀k,lk (wh (AV.killL noB (is1 t)) st.b) k=lk st.b k):Cov ((st.addB t vs).put d (.bp t 0)) (st.app d ⟨.bp t 0,[],[],[(t,vs)]⟩):=by
 refine⟨by cases d<;>rfl,fun k v hv=> .inr ?_,fun k c hc=> ?_,fun k R hR=> ?_⟩
 ·rw [ZU]at hv
  have hs:=h1.s k
  cases d with
  |none=>simp at hv;simp only [St.put,St.addB];exact hs.trans hv
  |some d=>
   simp only [St.put,St.addB,zd]
   simp only [Option.some.injEq]at hv
   split at hv
   ·rename_i e;rw [if_pos e];exact hv
   ·rename_i e;rw [if_neg e];exact hs.trans hv
 ·rw [wK]at hc
  simp only [zd,xJ]at hc
  have :lk (st.addB t vs).b k=some c:=by
   simp only [St.addB,zd,h2]
   split at hc
   ·rename_i e;rw [if_pos e];simpa using hc
   ·rename_i e;rw [if_neg e];simpa using hc
  cases d<;>exact this
 ·rw [wL]at hR
  have :lk (st.addB t vs).r k=some R:=by simpa [St.addB,St.kill,xJ]using hR
  cases d<;>exact this
theorem zGb {t:Nat}{ty:TypeId}{X Y:Operand}{δ:Dl}{ob:Prop}(hf:yN (own t) st)(h:QA τ st t ty (ev st X) (ev st Y)=some (δ,ob))(hob:ob):
  ∃st1 v ob1,appG St.delR0 τ st t ty X Y=some (st1,v,ob1)∧ob1∧∀d,Cov (st1.put d v) (st.app d δ):=by
 unfold QA at h
 split at h
 ·rename_i e b1 ht
  split at h
  ·rename_i kt by_ htk
   split at h
   ·rename_i hc
    split at h
    ·rename_i ds m ob' hsrc
     -- the source,in a state with the same slots and objects
     have src: ∀st0:St,(∀x,ev st0 x=ev st x)→(∀d,2*d∈(ev st Y).nm→lk st0.r d=lk st.r d)→QS st0 e (ev st0 Y)=some (ds,m,ob'):=fun st0 h1 h2=>by
      rw [h1 Y,zGB (st:=st) ⟨h2,fun t ht=>by
       cases hy:ev st Y<;>rw [hy]at ht<;>rw [hy]at hsrc<;>simp [QS]at hsrc<;>simp [AV.nm]at ht
       all_goals omega⟩]
      exact hsrc
     have fin: ∀(st0:St) (d:Nat) (len:Nat) (R:zr),xR st st0→US st t e (ev st X)=st0→UT t e (ev st X)= .sl d [] 0 len e→lk st0.r d=some R→R.o.isSh=false→R.e=e→
       (∀d',2*d'∈(ev st Y).nm→lk st0.r d'=lk st.r d')→len+m≤1073741824→ob'→
       (∀k R',(lk [(zb t 0,(⟨R.o,R.e,R.xs.take len++ds,none⟩:zr))] k).or (if [d].contains k then none else lk st.r k)=some R'→k≠zb t 0→k≠d→lk st0.r k=some R')→
       ∃st1 v ob1,appG St.delR0 τ st t ty X Y=some (st1,v,ob1)∧ob1∧∀dd,Cov (st1.put dd v) (st.app dd ⟨.sl (zb t 0) [] 0 (len+m) e,[(zb t 0,⟨R.o,R.e,R.xs.take len++ds,none⟩)],[d],[]⟩):=by
      intro st0 d len R hsame e0 ex0 hR hsh hRe hY hle hob' hroots
      have hs:=src st0 (fun x=>hsame.ev x) hY
      have hst1: ∀R1:zr,xR st (st0.appG St.delR0 d (zb t 0) R1):=fun R1=>by
       have f0:yN (own t) (st0.delR0 d):=(hsame.trans (Ky st0 d)).free hf
       have s1:=uS f0 (yY (t:=t) (j:=0) (by omega))
       have s2:=qQ (s1.free f0) (yY (t:=t) (j:=0) (by omega)) R1
       exact hsame.trans ((Ky st0 d).trans (s1.trans s2))
      have hcov: ∀dd,Cov ((st0.appG St.delR0 d (zb t 0) ⟨R.o,R.e,R.xs.take len++ds,none⟩).put dd (.sl (zb t 0) [] 0 (len+m) e)) (st.app dd ⟨.sl (zb t 0) [] 0 (len+m) e,[(zb t 0,⟨R.o,R.e,R.xs.take len++ds,none⟩)],[d],[]⟩):=fun dd=>
       qE (hst1 _) rfl rfl fun k R' hR'=>by
        by_cases hk:k=zb t 0
        ·subst hk
         simp only [zd,xJ,if_true,Option.some_or]at hR'
         simp only [St.appG,St.addR,zd,if_true]
         exact hR'
        ·by_cases hkd:k=d
         ·subst hkd
          simp [zd,xJ,Ne.symm hk]at hR'
         ·have :=hroots k R' hR' hk hkd
          have hk': ¬zb t 0=k:=fun h=>hk h.symm
          have i1:is1 (zb t 0) k=false:=by simp [is1,hk]
          have i2:is1 d k=false:=by simp [is1,hkd]
          simp only [St.appG,St.addR,zd,if_neg hk',St.delR,yr,St.delR0,i1,i2,Bool.false_eq_true,if_false]
          exact this
      unfold appG
      rw [ht]
      simp only
      rw [e0,ex0]
      simp only
      rw [hR,htk]
      simp only
      rw [if_pos ⟨hsh,hRe,by first|rfl|trivial,hc.1,hc.2⟩]
      cases hy:ev st0 Y with
      |nil=>
       rw [hy]at hs
       simp only [QS,Option.some.injEq,Prod.mk.injEq]at hs
       obtain⟨rfl,rfl,rfl⟩:=hs
       exact⟨_,_,_,rfl,by omega,hcov⟩
      |sl d2 p2 off len2 e2=>
       rw [hy]at hs
       simp only [QS]at hs
       cases hR2:lk st0.r d2 with
       |none=>rw [hR2]at hs;cases hs
       |some R2=>
        rw [hR2]at hs
        simp only at hs⊢
        rw [hR2]
        simp only
        split at hs
        ·rename_i he2
         simp only [Option.some.injEq,Prod.mk.injEq]at hs
         obtain⟨rfl,rfl,rfl⟩:=hs
         rw [if_pos he2]
         exact⟨_,_,_,rfl,⟨hob'.1,hob'.2.1,hob'.2.2,hle⟩,hcov⟩
        ·cases hs
      |_=>rw [hy]at hs;simp [QS]at hs
     cases hx:ev st X with
     |nil=>
      rw [hx]at h
      simp only [Zk,Option.some.injEq,Prod.mk.injEq]at h
      obtain⟨rfl,rfl⟩:=h
      have hsame:=qQ hf (yY (t:=t) (j:=1) (by omega)) ⟨.ex,e,[],none⟩
      have :=fin (st.addR (zb t 1) ⟨.ex,e,[],none⟩) (zb t 1) 0 ⟨.ex,e,[],none⟩ hsame (by rw [hx];rfl) (by rw [hx];rfl) (by simp only [St.addR,zd,if_true]) rfl rfl (fun d' hd'=>by
       have hne:zb t 1≠d':=by
        rintro rfl
        have :=hf.ev Y _ hd'
        rw [yY (by omega)]at this;cases this
       simp only [St.addR,zd,if_neg hne]) hob.2 hob.1 (fun k R' hR' hk hkd=>by
       simp only [zd,xJ,if_neg (Ne.symm hk),Option.none_or]at hR'
       rw [if_neg (by simpa using hkd)]at hR'
       simp only [St.addR,zd,if_neg (Ne.symm hkd)]
       exact hR')
      simpa using this
     |sl d p off len e1=>
      rw [hx]at h
      cases p with
      |cons _ _=>simp [Zk]at h
      |nil=>
       cases off with
       |succ _=>simp [Zk]at h
       |zero=>
        simp only [Zk]at h
        cases hR:lk st.r d with
        |none=>rw [hR]at h;cases h
        |some R=>
         rw [hR]at h
         simp only at h
         split at h
         ·rename_i hcc
          obtain⟨hsh,hRe,rfl⟩:=hcc
          simp only [Option.some.injEq,Prod.mk.injEq]at h
          obtain⟨rfl,rfl⟩:=h
          exact fin st d len R (xR.refl st) (by rw [hx];rfl) (by rw [hx];rfl) hR hsh hRe (fun _ _=>rfl) hob.2 hob.1 (fun k R' hR' hk hkd=>by
           simp only [zd,xJ,if_neg (Ne.symm hk),Option.none_or]at hR'
           rwa [if_neg (by simpa using hkd)]at hR')
         ·cases h
     |_=>rw [hx]at h;simp [Zk]at h
    ·cases h
   ·cases h
  ·cases h
 ·cases h
end
section
variable {P:Program} {τ:Ty} {lo:Nat} {w0:Fz} {ow:Nat→Option Pl} {hd:Nat→Value} {bk:Nat→Nat} {st:St} {a:Act} {w:World}
theorem zCC {xs:List D}{i:Nat}: ∀{p:List Nat},zk (xs.set i .hole) p→zk xs p
 | [],_=>by simp [zk]
 |j::q,h=>by
  obtain⟨e,ys,h1,h2⟩:=h
  rw [List.getElem?_set]at h1
  split at h1
  ·split at h1<;>cases h1
  ·exact⟨e,ys,h1,h2⟩
def ZI (ow:Nat→Option Pl)(d i h:Nat)(pre:List Nat):Nat→Option Pl:=fun b=>
 match ow b with
 |some (.root d' (j::q))=>if d'=d∧j=i then some (.root h (pre++q))else some (.root d' (j::q))
 |p=>p
theorem zEB {d i h b:Nat}{q pre:List Nat}(hb:ow b=some (.root d (i::q))):ZI ow d i h pre b=some (.root h (pre++q)):=by
 unfold ZI;rw [hb];simp
theorem Jo {d i h b:Nat}{pre:List Nat}(hb: ∀q,ow b≠some (.root d (i::q))):ZI ow d i h pre b=ow b:=by
 unfold ZI
 split
 ·rename_i d' j q ho
  split
  ·rename_i hh
   obtain⟨rfl,rfl⟩:=hh
   exact absurd ho (hb q)
  ·exact ho.symm
 ·rfl
theorem Ke (hr:ze τ lo w0 ow hd bk st a w){d i h:Nat}{pre:List Nat}{R:zr}(hR:lk st.r d=some R)(ho:R.o= .ex)(hp:zk R.xs [i]):
  ∃cv,yC w (hd d) [i]=some cv∧ze τ lo w0 (ZI ow d i h pre) hd bk (st.setR d {R with xs:=R.xs.set i .hole}) a w∧Rp (sz τ) lo w (ZI ow d i h pre) (.ex h pre) (.lst (qi R.xs i) (xD R.xs i)) cv:=by
 obtain⟨e,ys,hx,-⟩:=hp
 have hge:qi R.xs i=e:=by unfold qi;rw [hx]
 have hgl:xD R.xs i=ys:=by unfold xD;rw [hx]
 have hroot:=hr.root d R hR
 rw [ho]at hroot
 simp only [md]at hroot
 obtain⟨vs,hH,hc⟩:=(zw _ _).1 hroot
 have hlt:i<vs.length:=by rw [hH.1];exact(List.getElem?_eq_some_iff.1 hx).1
 have hu:vs[i]? =some vs[i]:=List.getElem?_eq_getElem hlt
 have hci:=hc i _ _ hx hu
 obtain⟨b0,o0,n0,c0,hv0,-,-,-,hcell⟩:=qV hH hu
 obtain⟨A,n,c,hform,-⟩:=xZ hci
 have hinto:yC w (hd d) [i]=some vs[i]:=by
  rw [hv0]
  simp only [yC,hcell,Option.bind_some]
 have hout: ∀b p,ow b=p→(∀q,p≠some (.root d (i::q)))→ZI ow d i h pre b=p:=fun b p hb hq=>by rw [←hb];exact Jo (fun q=>by rw [hb];exact hq q)
 have hD: ∀k,noB k=false→yq w w st.r (st.setR d {R with xs:=R.xs.set i .hole}).r hd hd k:=fun k _ R' hR'=>by
  simp only [St.setR,zd]at hR'
  split at hR'
  ·rename_i e;subst e;cases hR'
   exact⟨R,hR,rfl,fun p hp=>⟨zCC hp,rfl⟩⟩
  ·exact⟨R',hR',rfl,fun p hp=>⟨hp,rfl⟩⟩
 have hB: ∀t,noB t=false→yp st.b (st.setR d {R with xs:=R.xs.set i .hole}).b bk bk t:=fun t _ hl=>⟨hl,rfl⟩
 refine⟨vs[i],hinto,⟨hr.big,hr.defers,hr.size,hr.low,hr.below,fun b p hb hp hne=> ?_,fun b hb=> ?_,fun k v hv=> ?_,fun k R' hR'=> ?_,fun t cs hcs=> ?_,fun k R' j hR' hp=> ?_⟩,?_⟩
 ·by_cases hq: ∃q,ow b=some (.root d (i::q))
  ·obtain⟨q,hq⟩:=hq
   exact hr.ge b _ hb hq (by simp)
  ·rw [Jo (fun q e=>hq ⟨q,e⟩)]at hp
   exact hr.ge b p hb hp hne
 ·exact hout b none (hr.new b hb) (fun q e=>by cases e)
 ·have :=yl (τ:=τ) hD hB v _ (hr.slot k v hv)
  rwa [qX]at this
 ·simp only [St.setR,zd]at hR'
  split at hR'
  ·rename_i e1;subst e1;cases hR'
   simp only
   rw [ho]
   simp only [md]
   refine(zw _ _).2 ⟨vs,⟨by rw [List.length_set];exact hH.1,?_⟩,fun j x u hj hju=> ?_⟩
   ·obtain⟨h1,n1,h2,h3,h4⟩:=hH
    exact⟨n1,by rw [List.length_set];exact h2,h3,fun b hb=>hout b _ (h4 b hb) (fun q e=>by simp at e)⟩
   ·rw [List.getElem?_set]at hj
    split at hj
    ·rename_i hij
     subst hij
     split at hj
     ·cases hj
      rw [hu]at hju;cases hju
      simp only [Rp]
      exact⟨A,n,c,hform⟩
     ·cases hj
    ·rename_i hij
     refine yE _ _ (Nat.le_refl _) _ _ _ (fun b hb hrel=>⟨rfl,?_⟩) (hc j x u hj hju)
     simp only [Md.kid,rel]at hrel
     obtain⟨q,hq⟩:=hrel
     exact hout b _ rfl (fun q' e=>by rw [hq]at e;simp at e;exact hij e.1.symm)
  ·rename_i hne
   refine yE _ _ (Nat.le_refl _) _ _ _ (fun b hb hrel=>⟨rfl,?_⟩) (hr.root k R' hR')
   refine hout b _ rfl (fun q' e=> ?_)
   rw [e]at hrel
   cases ho':R'.o<;>rw [ho']at hrel<;>simp only [md,rel]at hrel
   ·cases hrel
   ·obtain⟨q,hq⟩:=hrel
    simp at hq
    exact hne hq.1
   ·rcases hrel with h'|h'
    ·cases h'
    ·simp at h'
 ·obtain⟨vs',ty,h1,h2,h3⟩:=hr.box t cs hcs
  have :=yA (τ:=τ) hD hB cs vs' h3
  rw [xF]at this
  exact⟨vs',ty,h1,hout _ _ h2 (fun q e=>by cases e),this⟩
 ·simp only [St.setR,zd]at hR'
  split at hR'
  ·rename_i e1;subst e1;cases hR'
   exact hr.pin _ R j hR hp
  ·exact hr.pin k R' j hR' hp
 ·rw [hge,hgl]
  refine qW _ _ _ _ _ [i] pre _ (fun b q hb hq=> ?_) (by simpa [Md.kid]using hci)
  exact zEB (by simpa using hq)
end
section
variable {P:Program} {np:Bool} {τ:Ty} {lo:Nat} {w0:Fz} {ow:Nat→Option Pl} {hd:Nat→Value} {bk:Nat→Nat} {st:St} {a:Act} {w:World}
theorem zEb {S:TypeId→Nat}{m:Md}{d:D}{u:Value}(h:Rp S lo w ow m d u):u.oneCell'=true∧u.cells= #[u]:=by
 cases d with
 |int k n=>simp only [Rp]at h;subst h;exact⟨rfl,rfl⟩
 |bool b=>simp only [Rp]at h;subst h;exact⟨rfl,rfl⟩
 |hole=>simp only [Rp]at h;obtain⟨A,n,c,rfl⟩:=h;exact⟨rfl,rfl⟩
 |lst e xs=>obtain⟨A,n,c,rfl,-⟩:=xZ h;exact⟨rfl,rfl⟩
theorem UC : ∀{cs:List CK} {vs:List AV} {ds:List D} {ids:List Nat},qx τ st cs vs=some (ds,ids)→∀d∈ids,2*d∈AV.nmL vs
 | [],[],ds,ids,h,d,hd=>by simp only [qx,Option.some.injEq,Prod.mk.injEq]at h;rw [←h.2]at hd;simp at hd
 | [],_::_,ds,ids,h,d,hd=>by simp [qx]at h
 |_::_,[],ds,ids,h,d,hd=>by simp [qx]at h
 |c::cs,v::vs,ds,ids,h,d,hd=>by
  simp only [qx]at h
  split at h
  ·rename_i d1 is ds' js h1 h2
   simp only [Option.some.injEq,Prod.mk.injEq]at h
   obtain⟨rfl,rfl⟩:=h
   simp only [AV.nmL,List.mem_append]
   rcases List.mem_append.1 hd with hd|hd
   ·left
    unfold Xs at h1
    split at h1
    ·split at h1
     ·split at h1
      ·cases h1;simp at hd
      ·cases h1
     ·cases h1
    ·split at h1
     ·cases h1;simp at hd
     ·cases h1
    ·split at h1
     ·cases h1;simp at hd
     ·split at h1
      ·split at h1
       ·split at h1
        ·cases h1;simp only [List.mem_singleton]at hd;subst hd;simp [AV.nm]
        ·cases h1
       ·cases h1
      ·cases h1
     ·cases h1
   ·exact .inr (UC h2 d hd)
  ·cases h
theorem zAc {m:Nat}: ∀{vs us:List AV},wR m vs=some us→∀n∈AV.nmL us,n∈AV.nmL vs
 | [],us,h,n,hn=>by simp only [wR,Option.some.injEq]at h;subst h;exact hn
 |v::vs,us,h,n,hn=>by
  simp only [wR]at h
  split at h
  ·rename_i us1 ws h1 h2
   split at h
   ·cases h
    obtain⟨u,hu,hm⟩:=yG.1 hn
    simp only [AV.nmL,List.mem_append]
    rcases List.mem_append.1 hu with hu|hu
    ·exact .inl (QG h1 n (yG.2 ⟨u,hu,hm⟩))
    ·exact .inr (zAc h2 n (yG.2 ⟨u,hu,hm⟩))
   ·cases h
  ·cases h
theorem Jj {m:Nat}: ∀{vs us:List AV} {xs:List Value},wR m vs=some us→zY τ w st.r st.b hd bk vs xs→
  ∃wss:List (List Value),wss.length=xs.length∧(∀(i:Nat) (x:Value) (ws:List Value),xs[i]? =some x→wss[i]? =some ws→x.cells=ws.toArray∧ws.length=m)∧zY τ w st.r st.b hd bk us wss.flatten
 | [],us,xs,h,hv=>by
  simp only [wR,Option.some.injEq]at h;subst h
  simp only [zY]at hv;subst hv
  exact⟨[],rfl,fun i x ws h=>by simp at h,by simp [zY]⟩
 |v::vs,us,xs,h,hv=>by
  simp only [wR]at h
  simp only [zY]at hv
  obtain⟨x,xs',rfl,v1,v2⟩:=hv
  split at h
  ·rename_i us1 ws h1 h2
   split at h
   ·rename_i hm
    cases h
    obtain⟨cs,c1,c2⟩:=xu h1 v1
    obtain⟨wss,w1,w2,w3⟩:=Jj h2 v2
    have hl:=qb (st:=st) c2
    refine⟨cs::wss,by simp [w1],fun i y zs hy hz=> ?_,by simpa using qy c2 w3⟩
    cases i with
    |zero=>simp at hy hz;subst hy;subst hz;exact⟨c1,by omega⟩
    |succ i=>exact w2 i y zs (by simpa using hy) (by simpa using hz)
   ·cases h
  ·cases h
theorem QJ {m:Nat}: ∀(vs:List Value) (wss:List (List Value)) (k:Nat) (cs:List Value),wss.length=vs.length→cs.length=(k+vs.length)*m→(∀(i:Nat) (x:Value) (ws:List Value),vs[i]? =some x→wss[i]? =some ws→x.cells=ws.toArray∧ws.length=m)→
  Instr.fill (fun i=>some (i*m,m)) cs.toArray ((vs.zipIdx k).map fun x=>(x.2,x.1))=some (cs.take (k*m)++wss.flatten).toArray
 | [],wss,k,cs,hw,hs,_=>by
  have :wss= []:=List.eq_nil_of_length_eq_zero (by simpa using hw)
  subst this
  simp only [List.zipIdx_nil,List.map_nil,Instr.fill,Option.some.injEq,List.flatten_nil,List.append_nil]
  rw [List.take_of_length_le (by rw [hs];simp)]
 |v::vs,[],k,cs,hw,hs,_=>by simp at hw
 |v::vs,ws::wss,k,cs,hw,hs,hv=>by
  obtain⟨c1,c2⟩:=hv 0 v ws rfl rfl
  simp only [List.length_cons]at hs hw
  have hle:k*m+ws.length≤cs.length:=by rw [hs,c2,show(k+(vs.length+1))=(k+1)+vs.length from by omega,Nat.add_mul,Nat.add_mul];omega
  simp only [List.zipIdx_cons,List.map_cons,Instr.fill,c1]
  rw [if_neg (by simp;omega)]
  rw [zAe (k*m) ws cs hle]
  rw [QJ vs wss (k+1) (lay cs (k*m) ws) (by omega) (by rw [ZG hle,hs];congr 1;omega) (fun i x zs hx hz=>hv (i+1) x zs (by simpa using hx) (by simpa using hz))]
  congr 2
  have :(lay cs (k*m) ws).take ((k+1)*m)=cs.take (k*m)++ws:=by
   unfold lay
   rw [Nat.add_mul,Nat.one_mul,List.append_assoc,List.take_append,List.take_of_length_le (by rw [List.length_take];omega),List.length_take,Nat.min_eq_left (by omega)]
   congr 1
   rw [List.take_append,List.take_of_length_le (by omega),show k*m+m - k*m - ws.length=0 from by omega,List.take_zero,List.append_nil]
  rw [this,List.flatten_cons,List.append_assoc]
theorem zBj (hτ:zx P τ){e:TypeId}{K:TK}{b:Nat}(h:tk τ e=some (K,b)): ∃z,(zeroValue e).run P w= .ok z w:=by
 cases K with
 |sc c=>obtain⟨i,i1,i2,i3,i4⟩:=Yo hτ h;exact⟨c.zero,by simp [zeroValue,typeInfo,i1,i3]⟩
 |st cs fs=>obtain⟨F,_,_,i,i1,i2,i3,i4⟩:=yM hτ h;exact⟨_,by simp [zeroValue,typeInfo,i1,i3];rfl⟩
theorem zGN {parts:Array (Nat×Operand)}{len:Nat}(hpl:parts.size=len)(hidx:parts.toList.map (·.1)=List.range len):(parts.map fun(x:Nat×Operand)=>(x.1,a.eval x.2)).toList=((parts.toList.map fun x=>a.eval x.2).zipIdx 0).map fun x=>(x.2,x.1):=by
 apply List.ext_getElem?
 intro j
 simp only [Array.toList_map,List.getElem?_map,List.getElem?_zipIdx]
 cases hk:parts.toList[j]? with
 |none=>simp
 |some p=>
  have :=congrArg (fun l=>l[j]?) hidx
  simp only [List.getElem?_map,hk,Option.map_some]at this
  have hj:j<len:=by rw [←hpl];simpa using (List.getElem?_eq_some_iff.1 hk).1
  rw [List.getElem?_range hj]at this
  simp at this
  simp [this]
theorem zFZ (hτ:zx P τ)(h:ze τ lo w0 ow hd bk st a w){o:Oper}{t:Nat}{ty:TypeId}{len:Nat}{parts:Array (Nat×Operand)}(ho:o.op= .buildSlice ty len parts)(hf:yN (own t) st){δ:Dl}{ob:Prop}
  (he:QK τ st t ty len (parts.toList.map fun x=>(x.1,ev st x.2))=some (δ,ob)): ∃st1 v,vA P τ lo w0 a w o st1 v∧∀d,Cov (st1.put d v) (st.app d δ):=by
 unfold QK at he
 split at he
 ·rename_i e b1 ht
  have hu:P.underlying ty=some (.slice e):=(yM hτ ht).1
  split at he
  ·rename_i vs hvs
   split at he
   ·rename_i ds ids htk
    split at he
    ·rename_i hc
     obtain⟨hidx,hlen,hz,hnd⟩:=hc
     cases he
     rw [List.map_map]at hidx hvs
     have hidx':parts.toList.map (·.1)=List.range len:=hidx
     have hav:zY τ w st.r st.b hd bk (parts.toList.map ((fun x:Nat×AV=>x.2) ∘ fun x=>(x.1,ev st x.2))) (parts.toList.map fun x=>a.eval x.2):=zp.2 ⟨by simp,fun i v x hv hx=>by
      rw [List.getElem?_map]at hv hx
      cases hk:parts.toList[i]? with
      |none=>rw [hk]at hv;cases hv
      |some p=>rw [hk]at hv hx;cases hv;cases hx;exact zZ h _⟩
     obtain⟨wss,w1,w2,w3⟩:=Jj hvs hav
     have hpl:parts.size=len:=by have :=congrArg List.length hidx';simpa using this
     have hnid:zb t 0∉ids:=fun hm=>by
      have h1:=UC htk _ hm
      have h2:=zAc hvs _ h1
      obtain⟨v,hv,hn⟩:=yG.1 h2
      obtain⟨p,_,rfl⟩:=List.mem_map.1 hv
      have :=hf.ev p.2 _ hn
      rw [yY (by omega)]at this;cases this
     obtain⟨ow1,r1,r2,r3,r4⟩:=YJ (k:=zb t 0) _ _ _ _ _ 0 st ow htk w3 h (fun _ _=>rfl) (YG hnd) hnid
     have hwl:wss.flatten.length=len*sz τ e:=by
      have key: ∀(wss:List (List Value)) (xs:List Value),wss.length=xs.length→(∀(i:Nat) (x:Value) (ws:List Value),xs[i]? =some x→wss[i]? =some ws→x.cells=ws.toArray∧ws.length=sz τ e)→wss.flatten.length=xs.length*sz τ e:=by
       intro wss
       induction wss with
       |nil=>intro xs hl _;have :xs= []:=List.eq_nil_of_length_eq_zero (by simpa using hl.symm);subst this;simp
       |cons ws wss ih=>
        intro xs hl hh
        cases xs with
        |nil=>simp at hl
        |cons x xs=>
         rw [List.flatten_cons,List.length_append,(hh 0 x ws rfl rfl).2,ih xs (by simpa using hl) (fun i y zs hy hz=>hh (i+1) y zs (by simpa using hy) (by simpa using hz)),List.length_cons,Nat.add_mul]
         omega
      rw [key wss _ w1 w2]
      simp [hpl]
     obtain⟨K,bK,hK⟩: ∃K bK,tk τ e=some (K,bK):=by
      unfold sz cks at hz
      unfold tk
      cases hh:lk τ e with
      |none=>rw [hh]at hz;exact absurd rfl hz
      |some x=>exact⟨x.1,x.2,rfl⟩
     have hrun:(Instr.buildSlice ty len (parts.map fun(x:Nat×Operand)=>(x.1,a.eval x.2))).run P w= .ok (.slice (some ⟨w.heap.size,0,none⟩) len len) (w.alloc (.cells wss.flatten.toArray e)):=by
      obtain⟨z,hzr⟩:=zBj (w:=w) hτ hK
      unfold Instr.buildSlice
      simp only [Sem.run_bind,run_underlying hu,Result.andThen_ok,xf hτ hz]
      rw [if_neg (by omega)]
      have fin: ∀cs0:Array Value,cs0.size=len*sz τ e→(do
        let some cells:=Instr.fill (fun i=>some (i*sz τ e,sz τ e)) cs0 (parts.map fun(x:Nat×Operand)=>(x.1,a.eval x.2)).toList|stuck "buildSlice: a part of the wrong size"
        pure (.slice (some (←newRow e cells)) len len):Sem Value).run P w= .ok (.slice (some ⟨w.heap.size,0,none⟩) len len) (w.alloc (.cells wss.flatten.toArray e)):=fun cs0 hcs0=>by
       rw [zGN hpl hidx']
       have hfill:=QJ (m:=sz τ e) (parts.toList.map fun x=>a.eval x.2) wss 0 cs0.toList w1 (by simp [hpl,hcs0]) w2
       simp only [Array.toArray_toList,Nat.zero_mul,List.take_zero,List.nil_append]at hfill
       rw [hfill]
       simp [newRow,newObj,Sem.run]
      by_cases hl0:len*sz τ e=0
      ·simp only [if_pos hl0,Sem.run_pure,Sem.run_bind,Result.andThen_ok]
       exact fin _ (by simp [hl0])
      ·simp only [if_neg hl0,Sem.run_pure,Sem.run_bind,hzr,Result.andThen_ok]
       exact fin _ (by simp)
     have hlenD:ds.length=len*sz τ e:=by rw [←r2,hwl]
     obtain⟨ow2,hrel⟩:=uC r1 (zb t 0) e ds wss.flatten len hlenD r2 (by unfold maxLen;have :=Nat.le_mul_of_pos_right len (Nat.pos_of_ne_zero hz);omega) (fun i x v hx hv=>by have :=(r3 i x v hx hv).1;rwa [Nat.zero_add]at this)
     have hml:len≤maxLen:=by unfold maxLen;have :=Nat.le_mul_of_pos_right len (Nat.pos_of_ne_zero hz);omega
     refine⟨_, .sl (zb t 0) [] 0 len e,⟨_,_,ow2,_,bk, .inl ?_,hrel,QU hml⟩,fun d=> ?_⟩
     ·obtain⟨dst,op,oty,pos,after,guard⟩:=o
      simp only at ho;subst ho
      simp only [execOp]
      rw [Sem.run_bind,hrun,Result.andThen_ok,Sem.run_pure]
     ·have s0:xR st (st.delRs ids):=⟨rfl,fun _=>rfl,fun _=>rfl⟩
      refine qE (s0.trans (qQ (s0.free hf) (yY (by omega)) _)) rfl rfl fun k R hR=> ?_
      simp only [zd,xJ]at hR
      simp only [St.addR,zd,St.delRs,yr]
      split
      ·rename_i e;rw [if_pos e]at hR;simpa using hR
      ·rename_i e;rw [if_neg e]at hR;simpa using hR
    ·cases he
   ·cases he
  ·cases he
 ·cases he
theorem zFa (hτ:zx P τ)(h:ze τ lo w0 ow hd bk st a w){o:Oper}{t:Nat}{ty:TypeId}{len:Nat}{parts:Array (Nat×Operand)}(ho:o.op= .buildSlice ty len parts)(hf:yN (own t) st){δ:Dl}{ob:Prop}
  (he:QL τ st t ty len (parts.toList.map fun x=>(x.1,ev st x.2))=some (δ,ob)) (hob:ob): ∃st1 v,vA P τ lo w0 a w o st1 v∧∀d,Cov (st1.put d v) (st.app d δ):=by
 unfold QL at he
 split at he
 ·rename_i e b1 ht
  have hu:P.underlying ty=some (.slice e):=(yM hτ ht).1
  split at he
  ·rename_i d i len1 e1 hparts
   split at he
   ·rename_i R e2 b2 hR hte
    split at he
    ·rename_i hc
     obtain⟨rfl,hown,rfl⟩:=hc
     cases he
     obtain⟨hp,hge⟩:=hob
     obtain⟨op,hop,hev⟩: ∃op,parts= #[(0,op)]∧ev st op= .sl d [i] 0 len1 e2:=by
      cases hl:parts.toList with
      |nil=>rw [hl]at hparts;simp at hparts
      |cons p ps=>
       rw [hl]at hparts
       cases ps with
       |cons _ _=>simp at hparts
       |nil=>
        simp only [List.map_cons,List.map_nil,List.cons.injEq,Prod.mk.injEq,and_true]at hparts
        obtain⟨p1,p2⟩:=p
        simp only at hparts
        obtain⟨rfl,h2⟩:=hparts
        exact⟨p2,by cases parts;simp at hl;subst hl;rfl,h2⟩
     subst hop
     have hsz:sz τ e=1:=Yk hte
     have hav:=zZ h op
     rw [hev]at hav
     have hne:zb t 0≠d:=fun e0=>by
      have :=hf.ev op (2*d) (by rw [hev];simp [AV.nm])
      rw [←e0,yY (by omega)]at this;cases this
     have hcell:(a.eval op).oneCell'=true∧(a.eval op).cells= #[a.eval op]:=by
      simp only [AvR]at hav
      obtain⟨⟨A,n,c,hv⟩,-⟩:=hav
      rw [hv];exact⟨rfl,rfl⟩
     obtain⟨cv,hin,r1,r2⟩:=Ke (h:=zb t 0) (pre:= [0]) h hR (O3.own_ex hown) hp
     have hrow:Rp (sz τ) lo w (ZI ow d i (zb t 0) [0]) (.ex (zb t 0) [0]) (.lst e2 ((xD R.xs i).take (len1*sz τ e2))) (a.eval op):=by
      simp only [AvR]at hav
      obtain⟨hv,hin2,hsub⟩:=hav.2 R hR hp
      rw [hin]at hin2;cases hin2
      rw [hge]at r2
      obtain⟨A,n,c,A',c',hnw,q1,q2,hle,hlc,hmx,hf0,hA⟩:=hsub
      obtain⟨rfl,rfl⟩:=hf0 rfl
      rw [q2]
      rw [q1]at r2
      exact Uq r2 (by omega)
     obtain⟨K,bK,hK⟩: ∃K bK,tk τ e=some (K,bK):=⟨_,_,hte⟩
     have hrun:(Instr.buildSlice ty 1 #[(0,a.eval op)]).run P w= .ok (.slice (some ⟨w.heap.size,0,none⟩) 1 1) (w.alloc (.cells #[a.eval op] e)):=by
      obtain⟨z,hzr⟩:=zBj (w:=w) hτ hK
      unfold Instr.buildSlice
      simp only [Sem.run_bind,run_underlying hu,Result.andThen_ok,xf hτ (show sz τ e≠0 by omega)]
      rw [if_neg (by omega)]
      simp only [hsz,Nat.one_mul,if_neg (show ¬(1:Nat)=0 by omega),Sem.run_pure,Sem.run_bind,hzr,Result.andThen_ok]
      generalize hcs:(Array.map _ (Array.range 1))=cs0
      have hcs0:cs0.size=1:=by rw [←hcs];simp
      have hfill:=QJ (m:=1) [a.eval op] [[a.eval op]] 0 cs0.toList rfl (by simp [hcs0]) (fun i x ws hx hw=>by
       cases i with
       |zero=>simp at hx hw;subst hx;subst hw;exact⟨hcell.2,rfl⟩
       |succ i=>simp at hx)
      simp only [List.flatten_cons,List.flatten_nil,List.append_nil,Nat.zero_mul,List.take_zero,List.nil_append,List.zipIdx_cons,List.zipIdx_nil,List.map_cons,List.map_nil,Nat.mul_one,Array.toArray_toList]at hfill⊢
      rw [hfill]
      simp [newRow,newObj,Sem.run]
     obtain⟨ow2,hrel⟩:=uC r1 (zb t 0) e [.lst e2 ((xD R.xs i).take (len1*sz τ e2))] [a.eval op] 1 (by simp [hsz]) rfl (by unfold maxLen;omega) (fun j x v hx hv=>by
      cases j with
      |zero=>simp at hx hv;subst hx;subst hv;exact hrow
      |succ j=>simp at hx)
     refine⟨_, .sl (zb t 0) [] 0 1 e,⟨_,_,ow2,_,bk, .inl ?_,hrel,QU (by unfold maxLen;omega)⟩,fun d'=> ?_⟩
     ·obtain⟨dst,op',oty,pos,after,guard⟩:=o
      simp only at ho;subst ho
      simp only [execOp]
      rw [Sem.run_bind,show(#[(0,op)].map fun(x:Nat×Operand)=>(x.1,a.eval x.2))= #[(0,a.eval op)]from by simp,hrun,Result.andThen_ok,Sem.run_pure]
     ·have s0:xR st (st.setR d {R with xs:=R.xs.set i .hole}):=⟨rfl,fun _=>rfl,fun _=>rfl⟩
      refine qE (s0.trans (qQ (s0.free hf) (yY (by omega)) _)) rfl rfl fun k R' hR'=> ?_
      simp only [zd,xJ]at hR'
      simp only [St.addR,zd,St.setR]
      split
      ·rename_i e0;rw [if_pos e0]at hR';simpa using hR'
      ·rename_i e0
       rw [if_neg e0]at hR'
       split
       ·rename_i e1;rw [if_pos e1]at hR';simpa using hR'
       ·rename_i e1;rw [if_neg e1]at hR';simpa using hR'
    ·cases he
   ·cases he
  ·cases he
 ·cases he
theorem zD4 (hτ:zx P τ)(hpos:yL τ)(h:ze τ lo w0 ow hd bk st a w){o:Oper}{ty:TypeId}{x:Operand}(ho:o.op= .load ty x){t:Nat}(hd9:o.dst=some t)(hf:yN (own t) st){δ:Dl}{ob:Prop}
  (he:ww np τ st (some t) ty (ev st x)=some (δ,ob)) (hob:ob): ∃st1 v,vA P τ lo w0 a w o st1 v∧∀d,Cov (st1.put d v) (st.app d δ):=by
 unfold ww at he
 split at he
 ·rename_i t9 d i h1 hev
  cases h1
  split at he
  ·rename_i R e b2 hR ht
   split at he
   ·rename_i hc
    obtain⟨-,hown,hsc⟩:=hc
    cases he
    obtain⟨hp,hge⟩:=hob
    have hav:=zZ h x
    rw [hev]at hav
    simp only [AvR]at hav
    obtain⟨b,o',n,c',hin0,hu⟩:=hav.2 R hR trivial
    have hcs:xK (.sl e) (yI R.xs []) i:=by
     obtain⟨e',ys,h5,-⟩:=hp
     refine⟨ys,?_⟩
     have h6:qi R.xs i=e':=by unfold qi;rw [h5]
     rw [h6]at hge
     rw [←hge];exact h5
    obtain⟨z,hz,hv⟩:=QF h hR (p:= []) trivial hcs (fun e9 he9=>by cases he9;exact hpos ty _ _ ht _ (by simp [TK.cells])) hin0
    simp only [wt,AvR,List.nil_append,yI]at hv
    obtain⟨cv,hin,r1,r2⟩:=Ke (h:=zb t 0) (pre:= []) h hR (O3.own_ex hown) hp
    obtain⟨hv1,hv2⟩:=hv
    obtain⟨hv3,hin2,hsub⟩:=hv2 R hR hp
    rw [hin]at hin2;cases hin2
    rw [hge]at r2
    have r3:=xx r1 (zb t 0) ⟨.ex,e,xD R.xs i,none⟩ cv r2
    refine⟨_, .sl (zb t 0) [] 0 ((xD R.xs i).length / sz τ e) e,⟨z,w,_,upd hd (zb t 0) cv,bk, .inl ?_,r3,?_⟩,fun d'=> ?_⟩
    ·obtain⟨dst,op',oty,pos,after,guard⟩:=o
     simp only at ho;subst ho
     simp only [execOp]
     rw [hu]
     simp only [Instr.loadAt,Instr.sureAddr,pure_bind,loadVar,Sem.run_bind,Zu hτ ht,Result.andThen_ok,Bool.false_eq_true,if_false,Xg hz,Sem.run_pure]
    ·simp only [AvR]
     exact⟨hv1,fun R' hR' hp'=>⟨cv,by simp only [yC,yF],hsub⟩⟩
    ·have s0:xR st (st.setR d {R with xs:=R.xs.set i .hole}):=⟨rfl,fun _=>rfl,fun _=>rfl⟩
     refine qE (s0.trans (qQ (s0.free hf) (yY (by omega)) _)) rfl rfl fun k R' hR'=> ?_
     simp only [zd,xJ]at hR'
     simp only [St.addR,zd,St.setR]
     split
     ·rename_i e0;rw [if_pos e0]at hR';simpa using hR'
     ·rename_i e0
      rw [if_neg e0]at hR'
      split
      ·rename_i e1;rw [if_pos e1]at hR';simpa using hR'
      ·rename_i e1;rw [if_neg e1]at hR';simpa using hR'
   ·cases he
  ·cases he
 ·cases he
theorem zE5 (st:St)(d:Nat):st.delRs [d]={st.delR0 d with r:=rm (fun j=>([]:List Nat).contains j) (st.delR0 d).r}:=by
 simp only [St.delRs,St.delR0,zDD]
theorem zEI (h:ze τ lo w0 ow hd bk st a w){e:TypeId}{y:AV}{x:Value}(hv:AvR τ w st.r st.b hd bk y x){ds:List D}{m:Nat}{ids:List Nat}{ob:Prop}(he:YX τ st e y=some (ds,m,ids,ob))(hob:ob){k:Nat}(hk:k∉ids)(B:Nat):
  ∃(ow':Nat→Option Pl) (news:List Value),ze τ lo w0 ow' hd bk (st.delRs ids) a w∧((∃ad c2,x= .slice (some ad) m c2∧∀(j:Nat) u,news[j]? =some u→w.cell? (ad.add j)=some u)∨(m=0∧∃c2,x= .slice none 0 c2))∧news.length=m*sz τ e∧ds.length=news.length∧
   (∀u∈news,u.oneCell'=true)∧(∀(i:Nat) (d:D) (u:Value),ds[i]? =some d→news[i]? =some u→Rp (sz τ) lo w ow' (.ex k [B+i]) d u):=by
 cases y<;>simp only [YX]at he<;>try(cases he;done)
 case nil=>
  cases he
  simp only [AvR]at hv
  exact⟨ow,[],QV h _, .inr ⟨rfl,0,hv⟩,by simp,rfl,fun u hu=>by simp at hu,fun i d u hd=>by simp at hd⟩
 case sl d2 p2 off len2 e2=>
  cases hR:lk st.r d2 with
  |none=>rw [hR]at he;cases he
  |some R2=>
   rw [hR]at he
   simp only at he
   split at he
   ·rename_i hee
    subst hee
    simp only [AvR]at hv
    split at he
    ·rename_i ho4
     obtain⟨rfl,rfl,ho,hRe⟩:=ho4
     subst hRe
     cases he
     have hex:=O3.own_ex ho
     obtain⟨hv',hin,A,n,c,A',c',hnw,e1,e2,hle,hlc,hmx,hf,hA⟩:=hv.2 R2 hR (by simp [zk])
     simp only [yC,Option.some.injEq]at hin
     obtain⟨rfl,rfl⟩:=hf rfl
     rw [←hin]at e1
     have hroot:=h.root d2 R2 hR
     rw [hex,e1]at hroot
     have hp:=Uq (len:=m) hroot (by omega)
     rw [←e2]at hp
     obtain⟨vs,⟨k1,N,k2,k3,k4⟩,k5⟩:=(zw _ _).1 hp
     have hN:N=m:=by
      rw [e2]at k3
      rcases k3.2 with⟨hv0,h0⟩|⟨g,cap,cur,hv0,_⟩
      ·cases hv0;exact h0
      ·cases hv0;rfl
     subst hN
     let f:List Nat→Option Pl:=fun q=>match q with| []=>some (.root d2 [])|j::q=>some (.root k ((B+j)::q))
     have hr1:=ZO (YZ h d2) d2 (by simp [St.delR0,yr,is1]) (wY ow d2 f) (fun b hb=>xh hb) (Xo (by intro q;cases q<;>simp [f]))
     refine⟨wY ow d2 f,vs,?_,?_,by rw [k1,k2],by rw [k1],fun u hu=> ?_,fun i d u hd hu=> ?_⟩
     ·rw [zE5];exact QV hr1 _
     ·rcases k3.2 with⟨hv0,h0⟩|⟨g,cap,cur,hv0,rest⟩
      ·exact .inr ⟨h0,0,hv0⟩
      ·exact .inl ⟨⟨g,0,none⟩,cap,hv0,fun j u hu=>k3.cells (g:=g) (by rw [hv0];rfl) j u hu⟩
     ·obtain⟨j,hj⟩:=List.getElem?_of_mem hu
      have hjl:=(List.getElem?_eq_some_iff.1 hj).1
      exact(zEb (k5 j _ u (List.getElem?_eq_getElem (by rw [←k1];exact hjl)) hj)).1
     ·exact qW _ _ _ _ _ [i] [B+i] _ (fun b q hb e=>by rw [ZB e];rfl) (k5 i d u hd hu)
    ·cases he
     obtain⟨hp2,hnode,hall⟩:=hob
     obtain⟨hv2,hin2,hsub2⟩:=hv.2 R2 hR hp2
     have hview:=Yl h hR hp2 hin2 hsub2 hnode lo
     obtain⟨vs,⟨k1,N,k2,A3,c3,k3,k4,k5,k6⟩,k7⟩:=(zw _ _).1 hview
     have hN:m=N:=by
      obtain⟨A4,n4,c4,A5,c5,hnw5,e4,e5,-⟩:=hsub2
      rw [k3]at e5;cases e5;rfl
     subst hN
     have hsc: ∀(i:Nat) (d:D) (u:Value),(((yI R2.xs p2).drop (off*sz τ e2)).take (m*sz τ e2))[i]? =some d→vs[i]? =some u→xS d=true∧Rp (sz τ) lo w (fun _=>none) .sh d u:=fun i d u hd hu=>⟨List.all_eq_true.1 hall d (List.mem_of_getElem? hd),k7 i d u hd hu⟩
     refine⟨ow,vs,QV h _,?_,by rw [k1,k2],by rw [k1],fun u hu=> ?_,fun i d u hd hu=> ?_⟩
     ·by_cases h0:m=0
      ·subst h0
       cases A3 with
       |none=>exact .inr ⟨rfl,c3,k3⟩
       |some ad=>exact .inl ⟨ad,c3,k3,fun j u hu=>by
         have :=(List.getElem?_eq_some_iff.1 hu).1
         rw [k1,k2]at this;omega⟩
      ·obtain⟨b,oo,hA,hb,-,hcell⟩:=k6 h0
       subst hA
       exact .inl ⟨_,c3,k3,fun j u hu=>by rw [Addr.add_lit];exact hcell j u hu⟩
     ·obtain⟨j,hj⟩:=List.getElem?_of_mem hu
      have hjl:=(List.getElem?_eq_some_iff.1 hj).1
      exact(zEb (k7 j _ u (List.getElem?_eq_getElem (by rw [←k1];exact hjl)) hj)).1
     ·obtain⟨s1,s2⟩:=hsc i d u hd hu
      exact Ya s1 s2
   ·cases he
theorem zHg {e:TypeId}{y:AV}{ds:List D}{m:Nat}{ids:List Nat}{ob:Prop}(he:YX τ st e y=some (ds,m,ids,ob)): ∀d∈ids,2*d∈y.nm:=by
 intro d hd
 cases y<;>simp only [YX]at he<;>try(cases he;done)
 case nil=>cases he;simp at hd
 case sl d2 p2 off len2 e2=>
  cases hR:lk st.r d2 with
  |none=>rw [hR]at he;cases he
  |some R2=>
   rw [hR]at he
   simp only at he
   split at he
   ·split at he
    ·cases he;simp only [List.mem_singleton]at hd;subst hd;simp [AV.nm]
    ·cases he;simp at hd
   ·cases he
theorem zF0 {d k j:Nat}{ids:List Nat}{R R':zr}(hj:(lk [(k,R)] j).or (if(d::ids).contains j then none else lk st.r j)=some R'):lk ((((st.delRs ids).delR0 d).delR k).addR k R).r j=some R':=by
 simp only [zd,xJ]at hj
 simp only [St.addR,zd,St.delR,St.delR0,St.delRs,yr]
 split
 ·rename_i e;rw [if_pos e]at hj;simpa using hj
 ·rename_i e
  rw [if_neg e]at hj
  have i1:is1 k j=false:=by simp [is1,Ne.symm e]
  rw [i1]
  simp only [Option.none_or,List.contains_cons]at hj
  split at hj
  ·cases hj
  ·rename_i hc
   have hc':(j==d)=false∧ids.contains j=false:=by
    rw [Bool.or_eq_true,not_or,Bool.not_eq_true,Bool.not_eq_true]at hc
    exact hc
   have i2:is1 d j=false:=hc'.1
   rw [i2,hc'.2]
   simpa using hj
theorem zEk (hτ:zx P τ)(h:ze τ lo w0 ow hd bk st a w){o:Oper}{t:Nat}{ty:TypeId}{X Y:Operand}(hrun: ∀v w',(Builtin.append_ #[ty,ty] o.type #[a.eval X,a.eval Y]).run P w= .ok v w'→(execOp a.eval o).run P w= .ok (.value v) w')
  (hf:yN (own t) st) {δ:Dl} {ob:Prop} (he:QB τ st t ty (ev st X) (ev st Y)=some (δ,ob)) (hob:ob): ∃st1 v,vA P τ lo w0 a w o st1 v∧∀d,Cov (st1.put d v) (st.app d δ):=by
 unfold QB at he
 split at he
 ·rename_i e b1 ht
  split at he
  ·rename_i kt by_ htk
   split at he
   ·rename_i hc
    obtain⟨hby,hz⟩:=hc
    split at he
    ·rename_i ds m ids ob' hsrc
     have hids: ∀d∈ids,own t (2*d)=false:=fun d hd=>hf.ev Y _ (zHg hsrc d hd)
     have hk:zb t 0∉ids:=fun hm=>by have :=hids _ hm;rw [yY (by omega)]at this;cases this
     have hk1:zb t 1∉ids:=fun hm=>by have :=hids _ hm;rw [yY (by omega)]at this;cases this
     -- from a base that is an own object
     have fin: ∀(st0:St) (ow0:Nat→Option Pl) (hd0:Nat→Value) (d len:Nat) (R:zr),ze τ lo w0 ow0 hd0 bk st0 a w→xR st st0→AvR τ w st0.r st0.b hd0 bk (.sl d [] 0 len e) (a.eval X)→lk st0.r d=some R→R.o= .ex→R.e=e→d∉ids→YX τ st0 e (ev st0 Y)=some (ds,m,ids,ob')→ob'→len+m≤1048576→
       vA P τ lo w0 a w o ((((st0.delRs ids).delR0 d).delR (zb t 0)).addR (zb t 0) ⟨.ex,R.e,R.xs.take (len*sz τ e)++ds,none⟩) (.sl (zb t 0) [] 0 (len+m) e):=by
      intro st0 ow0 hd0 d len R h0 hsame hX hR hex hRe hdi hsrc0 hob' hle
      subst hRe
      simp only [AvR]at hX
      obtain⟨hv',hin,A,n,c,A',c',hnw,e1,e2,hle1,hlc,hmx,hf0,hA⟩:=hX.2 R hR (by simp [zk])
      simp only [yC,Option.some.injEq]at hin
      obtain⟨rfl,rfl⟩:=hf0 rfl
      rw [←hin]at e1
      obtain⟨ow1,news,r1,r2,r3,r4,r5,r6⟩:=zEI h0 (zZ h0 Y) hsrc0 hob' hk (len*sz τ R.e)
      have hR1:lk (st0.delRs ids).r d=some R:=by
       simp only [St.delRs,yr]
       rw [if_neg (by simpa using hdi)]
       exact hR
      obtain⟨v',w',ow',q1,q2⟩:=QC (P:=P) (k:=zb t 0) (len:=len) (m:=m) (t:=ty) (ty:=o.type) hτ r1 (YZ r1 d) (by simp [St.delR0,yr,is1]) hR1 (by rw [hex];simp) e1 (by omega) ht htk (Nat.pos_of_ne_zero hz) ds news (a.eval Y) r2 r3 r4 r5
       (fun i x u hx hu=>by
        have :=r6 i x u hx hu
        rw [hex]
        exact this) (by unfold maxLen;omega) (by
        have :(len+m)*by_≤1048576*1024:=Nat.mul_le_mul hle hby
        omega)
      rw [hex]at q2
      refine⟨v',w',ow',_,bk, .inl (hrun v' w' (by rw [e2];exact q1)),q2,?_⟩
      have hroot:=q2.root (zb t 0) ⟨.ex,R.e,R.xs.take (len*sz τ R.e)++ds,none⟩ (by simp only [St.addR,zd,if_true])
      rw [yF]at hroot
      obtain⟨A2,n2,c2,hv2,hlen',hnc2,hm2⟩:=xZ hroot
      have hxl:R.xs.length=n*sz τ R.e:=by
       obtain⟨A3,n3,c3,e3,l3,-⟩:=xZ (h0.root d R hR)
       rw [e1]at e3;cases e3
       exact l3
      have hn2:n2=len+m:=by
       have hle3:len*sz τ R.e≤n*sz τ R.e:=Nat.mul_le_mul_right _ (by omega)
       rw [List.length_append,List.length_take,hxl,r4,r3,Nat.min_eq_left hle3,←Nat.add_mul]at hlen'
       exact(Nat.eq_of_mul_eq_mul_right (Nat.pos_of_ne_zero hz) hlen').symm
      subst hn2
      subst hv2
      simp only [AvR]
      refine⟨⟨_,_,_,rfl⟩,fun R' hR' hp=>⟨.slice A2 (len+m) c2,by simp only [yC,yF],A2,len+m,c2,A2,c2,nw0,rfl,rfl,by omega,hnc2,hm2,fun _=>⟨rfl,rfl⟩,fun hne0=> ?_⟩⟩
      obtain⟨vs,p1,p2⟩:=(zw _ _).1 hroot
      have hlenv:0<vs.length:=by
       rw [p1.1,hlen']
       exact Nat.mul_pos (by omega) (Nat.pos_of_ne_zero hz)
      obtain⟨b2,o2,n3,c3,hv3,-⟩:=qV p1 (List.getElem?_eq_getElem hlenv)
      cases hv3
      exact⟨b2,o2,rfl,by simp⟩
     have same: ∀(st0:St) (d:Nat) (R:zr),xR st st0→xR st ((((st0.delRs ids).delR0 d).delR (zb t 0)).addR (zb t 0) R):=fun st0 d R hs=>by
      have s1:xR st ((st0.delRs ids).delR0 d):=hs.trans ⟨rfl,fun _=>rfl,fun _=>rfl⟩
      have s2:=uS (s1.free hf) (yY (t:=t) (j:=0) (by omega))
      have s3:=qQ (s2.free (s1.free hf)) (yY (t:=t) (j:=0) (by omega)) R
      exact s1.trans (s2.trans s3)
     cases hx:ev st X with
     |nil=>
      rw [hx]at he
      simp only [Zl,Option.some.injEq,Prod.mk.injEq]at he
      obtain⟨rfl,rfl⟩:=he
      have hX:=zZ h X
      rw [hx]at hX
      simp only [AvR]at hX
      have hs:=qQ hf (yY (t:=t) (j:=1) (by omega)) ⟨.ex,e,[],none⟩
      have h0:=xx h (zb t 1) ⟨.ex,e,[],none⟩ (.slice none 0 0) (vV _ [] e)
      have hsrc0:YX τ (st.addR (zb t 1) ⟨.ex,e,[],none⟩) e (ev (st.addR (zb t 1) ⟨.ex,e,[],none⟩) Y)=some (ds,m,ids,ob'):=by
       rw [hs.ev Y]
       cases hy:ev st Y<;>rw [hy]at hsrc<;>simp only [YX]at hsrc⊢ <;>try exact hsrc
       rename_i d2 p2 off len2 e2
       have hne:zb t 1≠d2:=by
        rintro rfl
        have :=hf.ev Y (2*zb t 1) (by rw [hy];simp [AV.nm])
        rw [yY (by omega)]at this;cases this
       simp only [St.addR,zd,if_neg hne]
       exact hsrc
      have :=fin _ ow _ (zb t 1) 0 ⟨.ex,e,[],none⟩ h0 hs (by
       rw [hX]
       simp only [AvR]
       exact⟨⟨_,_,_,rfl⟩,fun R hR hp=>⟨.slice none 0 0,by simp only [yC,yF],none,0,0,none,0,nw0,rfl,rfl,by omega,by omega,by unfold maxLen;omega,fun _=>⟨rfl,rfl⟩,fun h=>absurd rfl h⟩⟩) (by simp only [St.addR,zd,if_true]) rfl rfl hk1 hsrc0 hob.1 hob.2
      refine⟨_,_,this,fun dd=>qE (same _ _ _ hs) rfl rfl fun j R hR=> ?_⟩
      have hj:=zF0 (st:=st.addR (zb t 1) ⟨.ex,e,[],none⟩) (d:=zb t 1) (k:=zb t 0) (ids:=ids) (R:=⟨.ex,e,[]++ds,none⟩) (j:=j) (R':=R) (by
       by_cases e1:zb t 1=j
       ·subst e1
        simp at hR⊢
        exact hR
       ·simp only [St.addR,zd (zb t 1),if_neg e1];exact hR)
      simpa using hj
     |sl d p off len e1=>
      rw [hx]at he
      cases p with
      |cons _ _=>simp [Zl]at he
      |nil=>
       cases off with
       |succ _=>simp [Zl]at he
       |zero=>
        simp only [Zl]at he
        cases hR:lk st.r d with
        |none=>rw [hR]at he;cases he
        |some R=>
         rw [hR]at he
         simp only at he
         split at he
         ·rename_i hcc
          obtain⟨hsh,hRe,rfl,hdi⟩:=hcc
          simp only [Option.some.injEq,Prod.mk.injEq]at he
          obtain⟨rfl,rfl⟩:=he
          have hX:=zZ h X
          rw [hx]at hX
          have hex:=O3.own_ex hsh
          have :=fin st ow hd d len R h (xR.refl st) hX hR hex hRe (by simpa using hdi) hsrc hob.1 hob.2
          exact⟨_,_,this,fun dd=>qE (same _ _ _ (xR.refl st)) rfl rfl fun j R' hR'=>zF0 hR'⟩
         ·cases he
     |_=>rw [hx]at he;simp [Zl]at he
    ·cases he
   ·cases he
  ·cases he
 ·cases he
end
section
variable {P:Program} {τ:Ty} {lo:Nat} {w0:Fz} {ow:Nat→Option Pl} {hd:Nat→Value} {bk:Nat→Nat} {st:St} {a:Act} {w:World}
def Wq (rr rr':List (Nat×zr))(hd hd':Nat→Value)(d:Nat):Prop:= ∀R',lk rr' d=some R'→∃R,lk rr d=some R∧hd' d=hd d
mutual
theorem uA {w w':World}{rr rr':List (Nat×zr)}{bb bb':List (Nat×List AV)}{hd hd':Nat→Value}{bk bk':Nat→Nat}{bad:Nat}(h0:Wq rr rr' hd hd' bad)(hD: ∀d,d≠bad→yq w w' rr rr' hd hd' d)(hB: ∀t,yp bb bb' bk bk' t):
  ∀(v:AV) (x:Value),bad∉v.pm→AvR τ w rr bb hd bk v x→AvR τ w' rr' bb' hd' bk' v x
 | .int k n,x,_,h=>by simpa only [AvR]using h
 | .bool b,x,_,h=>by simpa only [AvR]using h
 | .nil,x,_,h=>by simpa only [AvR]using h
 | .dead,x,_,h=>by simp only [AvR]
 | .raw u,x,_,h=>by simpa only [AvR]using h
 | .sl d p off len e,x,hp,h=>by
  simp only [AvR]at h⊢
  refine⟨h.1,fun R' hR' hok=> ?_⟩
  by_cases hd0:d=bad
  ·subst hd0
   cases p with
   |cons i q=>simp [AV.pm]at hp
   |nil=>
    obtain⟨R,hR,he⟩:=h0 R' hR'
    have :=h.2 R hR (by simp [zk])
    simp only [yC]at this⊢
    rw [he];exact this
  ·obtain⟨R,hR,he,hk⟩:=hD d hd0 R' hR'
   obtain⟨hp0,hi⟩:=hk p hok
   rw [he,hi]
   exact h.2 R hR hp0
 | .ep d p i,x,hp,h=>by
  simp only [AvR]at h⊢
  refine⟨h.1,fun R' hR' hok=> ?_⟩
  by_cases hd0:d=bad
  ·subst hd0
   cases p with
   |cons i q=>simp [AV.pm]at hp
   |nil=>
    obtain⟨R,hR,he⟩:=h0 R' hR'
    have :=h.2 R hR (by simp [zk])
    simp only [yC]at this⊢
    rw [he];exact this
  ·obtain⟨R,hR,he,hk⟩:=hD d hd0 R' hR'
   obtain⟨hp0,hi⟩:=hk p hok
   rw [he,hi]
   exact h.2 R hR hp0
 | .bp t i,x,_,h=>by
  simp only [AvR]at h⊢
  refine⟨h.1,fun hl=> ?_⟩
  obtain⟨h1,h2⟩:=hB t hl
  rw [h2]
  exact h.2 h1
 | .agg vs,x,hp,h=>by
  simp only [AvR]at h⊢
  obtain⟨cs,h1,h2⟩:=h
  exact⟨cs,h1,ZJ h0 hD hB vs cs (by simpa only [AV.pm]using hp) h2⟩
 | .tup vs,x,hp,h=>by
  simp only [AvR]at h⊢
  obtain⟨cs,h1,h2⟩:=h
  exact⟨cs,h1,ZJ h0 hD hB vs cs (by simpa only [AV.pm]using hp) h2⟩
 | .fn f vs,x,hp,h=>by
  simp only [AvR]at h⊢
  obtain⟨cs,h1,h2⟩:=h
  exact⟨cs,h1,ZJ h0 hD hB vs cs (by simpa only [AV.pm]using hp) h2⟩
theorem ZJ {w w':World}{rr rr':List (Nat×zr)}{bb bb':List (Nat×List AV)}{hd hd':Nat→Value}{bk bk':Nat→Nat}{bad:Nat}(h0:Wq rr rr' hd hd' bad)(hD: ∀d,d≠bad→yq w w' rr rr' hd hd' d)(hB: ∀t,yp bb bb' bk bk' t):
  ∀(vs:List AV) (xs:List Value),bad∉AV.pmL vs→zY τ w rr bb hd bk vs xs→zY τ w' rr' bb' hd' bk' vs xs
 | [],xs,_,h=>by simpa only [zY]using h
 |v::vs,xs,hp,h=>by
  simp only [AV.pmL,List.mem_append,not_or]at hp
  simp only [zY]at h⊢
  obtain⟨x,xs',h1,h2,h3⟩:=h
  exact⟨x,xs',h1,uA h0 hD hB v x hp.1 h2,ZJ h0 hD hB vs xs' hp.2 h3⟩
end
theorem zBo (h:ze τ lo w0 ow hd bk st a w){d:Nat}{R:zr}(hR:lk st.r d=some R)(hex:R.o= .ex){i:Nat}{ds:List D}{us:List Value}(hi:i+ds.length≤R.xs.length)(hl:us.length=ds.length)(hne:ds.length≠0)
  (hRp: ∀(j:Nat) (x:D) (u:Value),ds[j]? =some x→us[j]? =some u→Rp (sz τ) lo w ow (.ex d [i+j]) x u) (hnw:Qy d st):
  ∃g cap cur n,hd d= .slice (some ⟨g,0,none⟩) n cap∧w.heap[g]? =some (.cells (List.toArray cur) R.e (0,0))∧i+us.length≤cur.length∧ze τ lo w0 ow hd bk (st.setR d {R with xs:=lay R.xs i ds}) a (w.setRow g (lay cur i us).toArray):=by
 have hroot:=h.root d R hR
 rw [hex]at hroot
 obtain⟨vs,⟨k1,N,k2,k3,k4⟩,k5⟩:=(zw _ _).1 hroot
 rcases k3.2 with⟨hv0,h0⟩|⟨g,cap,cur,hv,hb,hg,hnc,hcm,hcs,htake⟩
 ·exfalso;subst h0;rw [Nat.zero_mul]at k2;omega
 have hob:ow g=some (.root d []):=k4 g (by rw [hv];rfl)
 have hlt:g<w.heap.size:=(Array.getElem?_eq_some_iff.1 hg).1
 have hvl:vs.length=R.xs.length:=k1
 have hicur:i+us.length≤cur.toList.length:=by
  have :vs.length≤cur.toList.length:=by rw [←htake,List.length_take];omega
  omega
 have hg':w.heap[g]? =some (.cells (List.toArray cur.toList) R.e (0,0)):=by simpa using hg
 have hset:(w.setRow g (lay cur.toList i us).toArray).heap[g]? =some (.cells (lay cur.toList i us).toArray R.e (0,0)):=setRow_heap w _ _ _ _ _ hg'
 have hoth: ∀k,k≠g→(w.setRow g (lay cur.toList i us).toArray).heap[k]? =w.heap[k]? :=fun k hk=>setRow_other w _ k _ hk
 have hsz:(w.setRow g (lay cur.toList i us).toArray).heap.size=w.heap.size:=by simp
 have hrel: ∀(m:Md) (b:Nat),rel m (ow b)→(∀q,m≠ .ex d q∨q≠ [])→(∀q,m≠ .top d q)→b≠g:=fun m b hr h1 h2 e=>by
  subst e
  rw [hob]at hr
  cases m with
  |sh=>simp [rel]at hr
  |ex d' p=>
   obtain⟨q,hq⟩:=hr
   cases p with
   |nil=>
    simp only [Option.some.injEq,Pl.root.injEq]at hq
    obtain⟨rfl,-⟩:=hq
    rcases h1 []with h1|h1
    ·exact h1 rfl
    ·exact h1 rfl
   |cons x xs=>simp at hq
  |top d' p=>
   simp only [rel]at hr
   rcases hr with hr|hr
   ·cases hr
   ·simp only [Option.some.injEq,Pl.root.injEq]at hr
    obtain⟨rfl,-⟩:=hr
    exact h2 _ rfl
 have hrelR: ∀(d':Nat) (R':zr),lk st.r d'=some R'→d'≠d→∀b,rel (md R'.o d') (ow b)→b≠g:=fun d' R' _ hne' b hr=>by
  refine hrel _ b hr (fun q=> ?_) (fun q=> ?_)
  ·left;cases R'.o<;>simp [md,hne']
  ·cases R'.o<;>simp [md,hne']
 have hD: ∀k,k≠d→yq w (w.setRow g (lay cur.toList i us).toArray) st.r (st.setR d {R with xs:=lay R.xs i ds}).r hd hd k:=fun k hk R' hR'=>by
  simp only [St.setR,zd,if_neg (Ne.symm hk)]at hR'
  exact⟨R',hR',rfl,fun p hp=>⟨hp,xE p _ _ _ _ (h.root k R' hR') hp (fun b o A n c hb hr hc=>by
   rw [xe (hoth b (hrelR k R' hR' hk b hr))];exact hc)⟩⟩
 have h0:Wq st.r (st.setR d {R with xs:=lay R.xs i ds}).r hd hd d:=fun R' _=>⟨R,hR,rfl⟩
 have hB: ∀t,yp st.b (st.setR d {R with xs:=lay R.xs i ds}).b bk bk t:=fun t hl=>⟨hl,rfl⟩
 have hlow:=h.ge g _ hlt hob (by simp)
 refine⟨g,cap,cur.toList,N,hv,hg',hicur,h.big,h.defers,h.size,by rw [hsz];exact h.low,?_,fun b p hb hp hne=>h.ge b p (by rw [hsz]at hb;exact hb) hp hne,fun b hb=>h.new b (by rw [hsz]at hb;exact hb),fun k v hv'=>uA h0 hD hB v _ (hnw.s k v hv') (h.slot k v hv'),fun k R' hR'=> ?_,fun t ws hw=> ?_,fun k R' i' hR' hp'=> ?_⟩
 ·exact h.below.step rfl rfl rfl (by rw [hsz];exact Nat.le_refl _) (fun k _ hk=>hoth k (fun e=>hk (by rw [e];exact hlow.2)))
 ·simp only [St.setR,zd]at hR'
  split at hR'
  ·rename_i e;subst e;cases hR'
   simp only [hex,md]
   have hlv:i+us.length≤vs.length:=by omega
   refine(zw _ _).2 ⟨lay vs i us,⟨by rw [ZG hlv,ZG hi];exact k1,N,by rw [ZG hi];exact k2,⟨?_, .inr ⟨g,cap,(lay cur.toList i us).toArray,hv,hb,hset,hnc,hcm,?_,?_⟩⟩,k4⟩,fun j x u hx hu=> ?_⟩
   ·rw [ZG hlv];exact k3.1
   ·simp only [List.size_toArray];rw [ZG hicur];simpa using hcs
   ·show(lay cur.toList i us).toArray.toList.take (N*sz τ R.e)=lay vs i us
    have hNv:N*sz τ R.e=vs.length:=by rw [k1,k2]
    rw [hNv]
    apply List.ext_getElem?
    intro j
    rw [List.getElem?_take,XF hlv]
    by_cases hj:j<vs.length
    ·rw [if_pos hj,List.toList_toArray,XF hicur]
     split
     ·rfl
     ·rw [←htake,List.getElem?_take,if_pos (by omega)]
    ·rw [if_neg hj,if_neg (by omega),List.getElem?_eq_none (by omega)]
   ·rw [XF hi]at hx
    rw [XF hlv]at hu
    have hx': ∀q,(Md.ex d [j]).kid q=Md.ex d [j,q]:=fun q=>rfl
    have hne2: ∀b,rel (.ex d [j]) (ow b)→b≠g:=fun b hr=>by
     refine hrel (.ex d [j]) b hr (fun q=> ?_) (fun q=>by simp)
     by_cases hq:q= []
     ·left;subst hq;simp
     ·exact .inr hq
    have frame: ∀(x:D) (u:Value),Rp (sz τ) lo w ow (.ex d [j]) x u→Rp (sz τ) lo (w.setRow g (lay cur.toList i us).toArray) ow (.ex d [j]) x u:=fun x u hh=>
     yE _ _ (by rw [hsz];exact Nat.le_refl _) _ _ _ (fun b hb hr=>⟨hoth b (hne2 b hr),rfl⟩) hh
    rw [hl]at hu
    split at hx
    ·rename_i hin
     rw [if_pos hin]at hu
     have :=hRp (j - i) x u hx hu
     rw [show i+(j - i)=j from by omega]at this
     exact frame x u this
    ·rename_i hin
     rw [if_neg hin]at hu
     have :=k5 j x u hx hu
     exact frame x u this
  ·rename_i hdk
   exact yE _ _ (by rw [hsz];exact Nat.le_refl _) _ _ _ (fun b hb hr=>⟨hoth b (hrelR k R' hR' (Ne.symm hdk) b hr),rfl⟩) (h.root k R' hR')
 ·obtain⟨cs,ty,q1,q2,q3⟩:=h.box t ws hw
  have hbt:bk t≠g:=fun e=>by rw [e,hob]at q2;cases q2
  exact⟨cs,ty,by rw [hoth _ hbt];exact q1,q2,ZJ h0 hD hB ws cs (hnw.b t ws hw) q3⟩
 ·simp only [St.setR,zd]at hR'
  split at hR'
  ·rename_i e;subst e;cases hR';exact h.pin _ R i' hR hp'
  ·exact h.pin k R' i' hR' hp'
theorem zCJ (hτ:zx P τ)(h:ze τ lo w0 ow hd bk st a w)(hpf:PF st){o:Oper}{ty:TypeId}{p x:Operand}(ho:o.op= .store ty p x){δ:Dl}{ob:Prop}(he:wn τ st ty (ev st p) (ev st x)=some (δ,ob))(hob:ob):
  ∃st1,vA P τ lo w0 a w o st1 δ.v∧∀d,Cov (st1.put d δ.v) (st.app d δ):=by
 have hp:=zZ h p
 have hx:=zZ h x
 cases hev:ev st p<;>rw [hev]at he<;>simp only [wn]at he<;>try(cases he;done)
 rename_i d q i
 cases q with
 |cons _ _=>simp at he
 |nil=>
  simp only at he
  split at he
  ·rename_i R vs hR hvs
   split at he
   ·rename_i ds ids htk
    split at he
    ·rename_i hc
     obtain⟨c1,c2,c3,c4,c5⟩:=hc
     cases he
     have hex:=O3.own_ex c1
     obtain⟨us,hus,hur⟩:=xu hvs hx
     have hul:=qb (st:=st) hur
     have hdi:d∉ids:=by simpa using c2
     obtain⟨ow1,r1,r2,r3,r4⟩:=YJ (k:=d) _ _ _ _ _ i st ow htk hur h (fun _ _=>rfl) (YG c3) hdi
     have hR1:lk (st.delRs ids).r d=some R:=by
      simp only [St.delRs,yr]
      rw [if_neg (by simpa using hdi)]
      exact hR
     have hnw:Qy d (st.delRs ids):=⟨(hpf d R hR hex).s,(hpf d R hR hex).b⟩
     obtain⟨g,cap,cur,n,s1,s2,s3,s4⟩:=zBo r1 hR1 hex (i:=i) (ds:=ds) (us:=us) hob r2 (by omega) (fun j y u hy hu=>(r3 j y u hy hu).1) hnw
     rw [hev]at hp
     simp only [AvR]at hp
     obtain⟨b,oo,n',c',hin,hpe⟩:=hp.2 R hR (by simp [zk])
     simp only [yC,Option.some.injEq]at hin
     rw [s1]at hin
     simp only [Value.slice.injEq,Option.some.injEq,Addr.mk.injEq,and_true]at hin
     obtain⟨⟨rfl,rfl⟩,rfl,rfl⟩:=hin
     have hone: ∀u∈us,u.oneCell'=true:=fun u hu=>by
      obtain⟨j,hj⟩:=List.getElem?_of_mem hu
      have hjl:=(List.getElem?_eq_some_iff.1 hj).1
      exact(r3 j _ u (List.getElem?_eq_getElem (by omega)) hj).2.1
     have hst:=run_storeCells_at P g i R.e us 0 cur.toArray w s2 (by simp;omega) hone
     rw [Zf]at hst
     have hsz:(a.eval x).cells.size=sz τ ty:=by rw [hus,←c4];simp;omega
     have hrun:(Instr.storeAt ty (a.eval p) (a.eval x)).run P w= .ok () (w.setRow g (lay cur i us).toArray):=by
      unfold Instr.storeAt
      rw [Sem.run_bind,hpe]
      simp only [Instr.sureAddr,Sem.run_pure,Result.andThen_ok,storeVar,Sem.run_bind]
      have hz:sz τ ty≠0:=by omega
      rw [xf hτ hz]
      simp only [Result.andThen_ok]
      rw [if_neg (by simp [hsz]),hus,Nat.zero_add]
      exact hst
     refine⟨_,⟨undef,_,_,_,_, .inr ⟨?_,rfl⟩,s4,by simp only [AvR];exact⟨[],rfl,by simp [zY]⟩⟩,fun dd=>qE ⟨rfl,fun _=>rfl,fun _=>rfl⟩ rfl rfl fun k R' hR'=> ?_⟩
     ·obtain⟨dst,op,oty,pos,after,guard⟩:=o
      simp only at ho;subst ho
      simp only [execOp]
      rw [Sem.run_bind,hrun,Result.andThen_ok,Sem.run_pure]
     ·simp only [zd,xJ]at hR'
      simp only [St.setR,zd,St.delRs,yr]
      split
      ·rename_i e;rw [if_pos e]at hR';simpa using hR'
      ·rename_i e;rw [if_neg e]at hR';simpa using hR'
    ·cases he
   ·cases he
  ·cases he
theorem zB8 {rr:List (Nat×zr)}{bb:List (Nat×List AV)}{np:Bool}{v u:AV}{x:Value}(h:AvR τ w rr bb hd bk u x):AvR τ w rr bb hd bk (vr np st v u) x:=by
 have kk: ∀d,AvR τ w rr bb hd bk (u.kill (is1 d) noB) x:=fun d=>yl (fun d _ R hR=>⟨R,hR,rfl,fun p hp=>⟨hp,rfl⟩⟩) (fun t _ hl=>⟨hl,rfl⟩) u x h
 unfold vr
 split
 ·split
  ·split
   ·exact kk _
   ·exact h
  ·exact h
 ·exact h
end
end Go.Proofs.Ytggpbepdeilpgaa
