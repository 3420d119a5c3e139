/- Closures that work on their maker's boxes: boxes of functions; a call of a function value that works on some boxes and objects of the caller. -/
import Derived.Test.YtggpbepdeilpgaaB11zmt
import Derived.Shelf.SlSortCmp.Whole1
import Derived.Shelf.SlicesG.Cmp
import Derived.Test.YtggpbepdeilpgaaProg
namespace Go.Proofs.Ytggpbepdeilpgaa
open Go.RowKit
set_option linter.unusedVariables false
set_option linter.unusedSimpArgs false
def zAd (P:Program)(e:TypeId):Bool:=(match P.info? e with|some i=>i.size==1&&(match i.zero with|some .nilFunc=>true|_=>false)|none=>false)&&(match P.underlying e with|some (.func _ _ _)=>true|_=>false)
def aopF (P:Program)(τ:Ty)(al:List Nat)(F:TypeId)(o:Oper)(K:St→Prop)(st:St):Prop:=
 match o.op with
 | .alloc t=>if t=F then(match o.dst with
   |some d=>d<1000000∧K ((JA τ st d F [.raw .nilFunc]).put (some d) (.bp d 0))
   |none=>False)else aop P τ al o K st
 | .store t p v=>if t=F then(match ev st p,ev st v with
   | .bp d 0, .fn f us=>(match lk st.b d with
    |some [_]=>K ((st.setB d [.fn f us]).put o.dst (.tup []))
    |_=>False)
   |_,_=>False)else aop P τ al o K st
 | .load t p=>if t=F then(match ev st p with
   | .bp d 0=>(match lk st.b d with
    |some [x]=>one x=true∧K (st.put o.dst x)
    |_=>False)
   |_=>False)else aop P τ al o K st
 |_=>aop P τ al o K st
section
variable {P:Program} {τ:Ty} {lo:Nat} {w0:Fz} {ow:Nat→Option Pl} {hd:Nat→Value} {bk:Nat→Nat} {st:St} {a:Act} {w:World}
theorem zGx {e:TypeId}(h:zAd P e=true)(w:World):(zeroValue e).run P w= .ok .nilFunc w∧(sizeOf e).run P w= .ok 1 w∧(isAgg e).run P w= .ok false w:=by
 unfold zAd at h
 rw [Bool.and_eq_true]at h
 obtain⟨h1,h2⟩:=h
 cases hi:P.info? e with
 |none=>rw [hi]at h1;cases h1
 |some i=>
  rw [hi]at h1
  simp only [Bool.and_eq_true,beq_iff_eq]at h1
  obtain⟨q1,q2⟩:=h1
  cases hu:P.underlying e with
  |none=>rw [hu]at h2;cases h2
  |some d=>
   rw [hu]at h2
   cases hz:i.zero with
   |none=>rw [hz]at q2;cases q2
   |some z=>
    rw [hz]at q2
    cases z<;>simp at q2
    cases d<;>simp at h2
    refine⟨by simp [zeroValue,typeInfo,hi,hz],by simp [sizeOf,typeInfo,hi,q1],by simp [isAgg,run_underlying hu,Sem.run_bind]⟩
theorem zDg (hτ:zx P τ)(hpos:yL τ){F:TypeId}(hF:zAd P F=true){al:List Nat}{o:Oper}{K:St→Prop}{Q:Exit→Act→World→Prop}{K':Act→World→Prop}(hd9: ∀k,o.dst=some k→k<a.tmps.size)(h:Rel τ lo w0 st a w)(ha:aopF P τ al F o K st)
  (hK: ∀st' x w',K st'→Rel τ lo w0 st' (a.put o.dst x) w'→K' (a.put o.dst x) w'):o.wp P a w K' Q:=by
 obtain⟨hz,hs,hg⟩:=zGx hF w
 have std:aop P τ al o K st→o.wp P a w K' Q:=fun ha=>vu hτ hpos hd9 h ha hK
 obtain⟨ow,hd,bk,hr⟩:=id h
 obtain⟨dst,op,oty,pos,after,guard⟩:=o
 unfold aopF at ha
 cases op<;>simp only at ha<;>try(exact std ha)
 case alloc t=>
  split at ha
  rotate_left
  ·exact std ha
  rename_i e
  subst e
  cases dst with
  |none=>exact ha.elim
  |some d=>
   obtain⟨hd0,hK1⟩:=ha
   obtain⟨ow',hd',bk',r1,r2⟩:=XW hr d hd0 t [.raw .nilFunc] [.nilFunc] (by simp only [zY,AvR];exact⟨_,_,rfl,rfl,rfl⟩)
   unfold Oper.wp
   have he:(execOp a.eval ⟨some d, .alloc t,oty,pos,after,guard⟩).run P w= .ok (.value (.pointer (some ⟨w.heap.size,0,none⟩))) (w.alloc (.cells #[.nilFunc] t)):=by
    simp only [execOp]
    rw [Sem.run_bind]
    unfold Instr.alloc
    rw [Sem.run_bind,hz,Result.andThen_ok]
    simp [newVar,newRow,newObj,Sem.run,Value.cells]
   rw [he]
   refine hK _ _ _ hK1 (yb r1 hd9 ?_)
   simp only [AvR]
   exact⟨⟨_,rfl⟩,fun _=>by rw [r2]⟩
 case store t p v=>
  split at ha
  rotate_left
  ·exact std ha
  rename_i e
  subst e
  split at ha
  rotate_left
  ·exact ha.elim
  rename_i d f us hp hv
  split at ha
  rotate_left
  ·exact ha.elim
  rename_i x hb
  have ep:=zZ hr p
  have ev9:=zZ hr v
  rw [hp]at ep
  rw [hv]at ev9
  have ev8:=ev9
  simp only [AvR]at ep ev9
  have hptr:=ep.2 ⟨_,hb⟩
  obtain⟨cv,hcv,-⟩:=ev9
  obtain⟨cs,ty,b1,b2,b3⟩:=hr.box d _ hb
  have hcl:=qb (st:=st) b3
  have hset:=YL hr hb b1 (i:=0) (vs:= [.fn f us]) (us:= [a.eval v]) (by simp) b3 (by simp only [zY];exact⟨_,_,rfl,ev8,rfl⟩)
  have hlay:lay [x] 0 [AV.fn f us]= [.fn f us]:=rfl
  rw [hlay]at hset
  have hst:=run_storeCells_at P (bk d) 0 ty [a.eval v] 0 cs.toArray w b1 (by simp at hcl⊢;omega) (by intro u hu;simp at hu;subst hu;rw [hcv];rfl)
  rw [Zf]at hst
  have he:(execOp a.eval ⟨dst, .store t p v,oty,pos,after,guard⟩).run P w= .ok .skip (w.setRow (bk d) (lay cs 0 [a.eval v]).toArray):=by
   simp only [execOp]
   rw [Sem.run_bind]
   unfold Instr.storeAt
   rw [Sem.run_bind,hptr]
   simp only [Instr.sureAddr,Sem.run_pure,Result.andThen_ok,storeVar,Sem.run_bind,hs]
   have hc1:(a.eval v).cells= [a.eval v].toArray:=by rw [hcv];rfl
   rw [if_neg (by rw [hc1];simp),hc1,hst]
   simp
  unfold Oper.wp
  rw [he]
  exact hK _ undef _ ha (yb hset hd9 (by simp only [AvR];exact⟨[],rfl,by simp [zY]⟩))
 case load t p=>
  split at ha
  rotate_left
  ·exact std ha
  rename_i e
  subst e
  split at ha
  rotate_left
  ·exact ha.elim
  rename_i d hp
  split at ha
  rotate_left
  ·exact ha.elim
  rename_i x hb
  obtain⟨hone,ha⟩:=ha
  have ep:=zZ hr p
  rw [hp]at ep
  simp only [AvR]at ep
  have hptr:=ep.2 ⟨_,hb⟩
  obtain⟨cs,ty,b1,b2,b3⟩:=hr.box d _ hb
  simp only [zY]at b3
  obtain⟨c,cs',rfl,hc,rfl⟩:=b3
  have hcell:w.cell? ⟨bk d,0,none⟩=some c:=by
   rw [cell_of_row w (bk d) 0 _ _ _ b1]
   rfl
  have he:(execOp a.eval ⟨dst, .load t p,oty,pos,after,guard⟩).run P w= .ok (.value c) w:=by
   simp only [execOp]
   rw [Sem.run_bind]
   simp only [hptr,Instr.loadAt,Instr.sureAddr,pure_bind,loadVar,Sem.run_bind,hg,Result.andThen_ok,Bool.false_eq_true,if_false,Xg hcell,Sem.run_pure]
  unfold Oper.wp
  rw [he]
  exact hK _ c w ha (yb hr hd9 hc)
end
mutual
def AV.rk (gd gb:List (Nat×Nat)):AV→AV
 | .int k n=> .int k n
 | .bool b=> .bool b
 | .sl d p off len e=>match lk gd d with|some k=> .sl k p off len e|none=> .dead
 | .nil=> .nil
 | .ep d p i=>match lk gd d with|some k=> .ep k p i|none=> .dead
 | .bp t i=>match lk gb t with|some k=> .bp k i|none=> .dead
 | .agg vs=> .agg (AV.rkL gd gb vs)
 | .tup vs=> .tup (AV.rkL gd gb vs)
 | .fn f vs=> .fn f (AV.rkL gd gb vs)
 | .dead=> .dead
 | .raw u=> .raw u
def AV.rkL (gd gb:List (Nat×Nat)):List AV→List AV
 | []=> []
 |v::vs=>AV.rk gd gb v::AV.rkL gd gb vs
end
def Kc (w w':World)(rr rr':List (Nat×zr))(hd hd':Nat→Value)(d d':Nat):Prop:=
 ∀R',lk rr' d'=some R'→∃R,lk rr d=some R∧hd' d'=hd d∧∀p,zk R'.xs p→zk R.xs p∧yC w' (hd d) p=yC w (hd d) p
section
variable {τ:Ty} {w w':World} {rr rr':List (Nat×zr)} {bb bb':List (Nat×List AV)} {hd hd':Nat→Value} {bk bk':Nat→Nat} {gd gb:List (Nat×Nat)}
mutual
theorem zJj (hD: ∀d d',lk gd d=some d'→Kc w w' rr rr' hd hd' d d')(hB: ∀t t',lk gb t=some t'→(∃cs,lk bb' t'=some cs)→(∃cs,lk bb t=some cs)∧bk' t'=bk t):
  ∀(v:AV) (x:Value),AvR τ w rr bb hd bk v x→AvR τ w' rr' bb' hd' bk' (v.rk gd gb) x
 | .int k n,x,h=>by simpa only [AV.rk,AvR]using h
 | .bool b,x,h=>by simpa only [AV.rk,AvR]using h
 | .nil,x,h=>by simpa only [AV.rk,AvR]using h
 | .dead,x,h=>by simp only [AV.rk,AvR]
 | .raw u,x,h=>by simpa only [AV.rk,AvR]using h
 | .sl d p off len e,x,h=>by
  simp only [AV.rk]
  split
  ·rename_i d' hd1
   simp only [AvR]at h⊢
   refine⟨h.1,fun R' hR' hp=> ?_⟩
   obtain⟨R,hR,e1,e2⟩:=hD d d' hd1 R' hR'
   obtain⟨p1,p2⟩:=e2 p hp
   obtain⟨hv,q1,q2⟩:=h.2 R hR p1
   exact⟨hv,by rw [e1,p2];exact q1,q2⟩
  ·simp only [AvR]
 | .ep d p i,x,h=>by
  simp only [AV.rk]
  split
  ·rename_i d' hd1
   simp only [AvR]at h⊢
   refine⟨h.1,fun R' hR' hp=> ?_⟩
   obtain⟨R,hR,e1,e2⟩:=hD d d' hd1 R' hR'
   obtain⟨p1,p2⟩:=e2 p hp
   obtain⟨b,o,n,c,q1,q2⟩:=h.2 R hR p1
   exact⟨b,o,n,c,by rw [e1,p2];exact q1,q2⟩
  ·simp only [AvR]
 | .bp t i,x,h=>by
  simp only [AV.rk]
  split
  ·rename_i t' ht1
   simp only [AvR]at h⊢
   refine⟨h.1,fun hl=> ?_⟩
   obtain⟨q1,q2⟩:=hB t t' ht1 hl
   rw [q2]
   exact h.2 q1
  ·simp only [AvR]
 | .agg vs,x,h=>by
  simp only [AV.rk,AvR]at h⊢
  obtain⟨cs,e,h⟩:=h
  exact⟨cs,e,Zj hD hB vs cs h⟩
 | .tup vs,x,h=>by
  simp only [AV.rk,AvR]at h⊢
  obtain⟨cs,e,h⟩:=h
  exact⟨cs,e,Zj hD hB vs cs h⟩
 | .fn f vs,x,h=>by
  simp only [AV.rk,AvR]at h⊢
  obtain⟨cs,e,h⟩:=h
  exact⟨cs,e,Zj hD hB vs cs h⟩
theorem Zj (hD: ∀d d',lk gd d=some d'→Kc w w' rr rr' hd hd' d d')(hB: ∀t t',lk gb t=some t'→(∃cs,lk bb' t'=some cs)→(∃cs,lk bb t=some cs)∧bk' t'=bk t):
  ∀(vs:List AV) (xs:List Value),zY τ w rr bb hd bk vs xs→zY τ w' rr' bb' hd' bk' (AV.rkL gd gb vs) xs
 | [],xs,h=>by simpa only [AV.rkL,zY]using h
 |v::vs,xs,h=>by
  simp only [AV.rkL,zY]at h⊢
  obtain⟨x,xs',h1,h2,h3⟩:=h
  exact⟨x,xs',h1,zJj hD hB v x h2,Zj hD hB vs xs' h3⟩
end
end
mutual
theorem zDa {S:TypeId→Nat}{lo:Nat}{w:World}{ow ow':Nat→Option Pl}{d d':Nat}(hf: ∀b q,ow b=some (.root d q)→ow' b=some (.root d' q)): ∀(x:D) (p:List Nat) (v:Value),Rp S lo w ow (.ex d p) x v→Rp S lo w ow' (.ex d' p) x v
 | .int k n,p,v,h=>by simpa only [Rp]using h
 | .bool b,p,v,h=>by simpa only [Rp]using h
 | .hole,p,v,h=>by simpa only [Rp]using h
 | .lst e xs,p,v,h=>by
  simp only [Rp]at h⊢
  obtain⟨vs,⟨h0,n,h1,h2,h3⟩,h4⟩:=h
  exact⟨vs,⟨h0,n,h1,h2,fun b hb=>hf b p (h3 b hb)⟩,zEY hf xs p 0 vs h4⟩
theorem zEY {S:TypeId→Nat}{lo:Nat}{w:World}{ow ow':Nat→Option Pl}{d d':Nat}(hf: ∀b q,ow b=some (.root d q)→ow' b=some (.root d' q)): ∀(xs:List D) (p:List Nat) (k:Nat) (vs:List Value),RpL S lo w ow (.ex d p) k xs vs→RpL S lo w ow' (.ex d' p) k xs vs
 | [],p,k,vs,h=>by simpa only [RpL]using h
 |x::xs,p,k,vs,h=>by
  simp only [RpL]at h⊢
  obtain⟨v,vs',h1,h2,h3⟩:=h
  exact⟨v,vs',h1,zDa hf x (p++ [k]) v h2,zEY hf xs p (k+1) vs' h3⟩
end
def yx (l:List (Nat×Nat)):List (Nat×Nat):=l.map fun x=>(x.2,x.1)
def invB (l:List (Nat×Nat)):Bool:=l.all fun x=>lk l x.1==some x.2&&lk (yx l) x.2==some x.1
theorem vm {l:List (Nat×Nat)}(h:invB l=true){d d':Nat}(hl:lk l d=some d'):lk (yx l) d'=some d:=by
 have h1:=List.all_eq_true.1 h _ (vP hl)
 simp only [Bool.and_eq_true,beq_iff_eq]at h1
 exact h1.2
theorem ub {l:List (Nat×Nat)}(h:invB l=true){d d':Nat}(hl:lk (yx l) d'=some d):lk l d=some d':=by
 have h0:=vP hl
 unfold yx at h0
 obtain⟨x,hx,e⟩:=List.mem_map.1 h0
 obtain⟨x1,x2⟩:=x
 cases e
 have h1:=List.all_eq_true.1 h _ hx
 simp only [Bool.and_eq_true,beq_iff_eq]at h1
 exact h1.1
def exB :O3→Bool
 | .ex=>true
 |_=>false
def shB :O3→Bool
 | .sh=>true
 |_=>false
def XK (ms:List Nat)(r:List (Nat×zr)):List (Nat×Nat)→List (Nat×zr)
 | []=> []
 |x::l=>match lk r x.1 with
  |some R=>(x.2,⟨R.o,R.e,R.xs,if ms.contains x.1 then none else some x.2⟩)::XK ms r l
  |none=>XK ms r l
def XA (gd gb:List (Nat×Nat))(b:List (Nat×List AV)):List (Nat×Nat)→List (Nat×List AV)
 | []=> []
 |x::l=>match lk b x.1 with
  |some cs=>(x.2,AV.rkL gd gb cs)::XA gd gb b l
  |none=>XA gd gb b l
def wq (ms:List Nat)(r:List (Nat×zr)):List (Nat×Nat)→List (Nat×zr)
 | []=> []
 |x::l=>if ms.contains x.1 then(match lk r x.2 with
   |some R=>(x.1,⟨R.o,R.e,R.xs,none⟩)::wq ms r l
   |none=>wq ms r l)else wq ms r l
def wM (gd gb:List (Nat×Nat))(b0 b:List (Nat×List AV)):List (Nat×Nat)→List (Nat×List AV)
 | []=> []
 |x::l=>match lk b0 x.1,lk b x.2 with
  |some _,some cs=>(x.1,AV.rkL gd gb cs)::wM gd gb b0 b l
  |_,_=>wM gd gb b0 b l
theorem Xf {ms:List Nat}{r:List (Nat×zr)}: ∀{l:List (Nat×Nat)} {k:Nat} {R':zr},lk (XK ms r l) k=some R'→∃d R,(d,k)∈l∧lk r d=some R∧R'=⟨R.o,R.e,R.xs,if ms.contains d then none else some k⟩
 | [],k,R',h=>by cases h
 |x::l,k,R',h=>by
  obtain⟨x1,x2⟩:=x
  have rc:lk (XK ms r l) k=some R'→∃d R,(d,k)∈(x1,x2)::l∧lk r d=some R∧R'=⟨R.o,R.e,R.xs,if ms.contains d then none else some k⟩:=fun h=>by
   obtain⟨d,R,h1,h2⟩:=Xf h
   exact⟨d,R,List.mem_cons_of_mem _ h1,h2⟩
  simp only [XK]at h
  split at h
  ·rename_i R hR
   rw [zd]at h
   split at h
   ·rename_i e;cases h;subst e;exact⟨x1,R,List.mem_cons_self ..,hR,rfl⟩
   ·exact rc h
  ·exact rc h
theorem WU {gd gb:List (Nat×Nat)}{b:List (Nat×List AV)}: ∀{l:List (Nat×Nat)} {k:Nat} {cs:List AV},lk (XA gd gb b l) k=some cs→∃t cs0,(t,k)∈l∧lk b t=some cs0∧cs=AV.rkL gd gb cs0
 | [],k,cs,h=>by cases h
 |x::l,k,cs,h=>by
  obtain⟨x1,x2⟩:=x
  have rc:lk (XA gd gb b l) k=some cs→∃t cs0,(t,k)∈(x1,x2)::l∧lk b t=some cs0∧cs=AV.rkL gd gb cs0:=fun h=>by
   obtain⟨t,cs0,h1,h2⟩:=WU h
   exact⟨t,cs0,List.mem_cons_of_mem _ h1,h2⟩
  simp only [XA]at h
  split at h
  ·rename_i cs0 hR
   rw [zd]at h
   split at h
   ·rename_i e;cases h;subst e;exact⟨x1,cs0,List.mem_cons_self ..,hR,rfl⟩
   ·exact rc h
  ·exact rc h
theorem KL {ms:List Nat}{r:List (Nat×zr)}: ∀{l:List (Nat×Nat)} {d:Nat} {R':zr},lk (wq ms r l) d=some R'→∃k R,(d,k)∈l∧ms.contains d=true∧lk r k=some R∧R'=⟨R.o,R.e,R.xs,none⟩
 | [],d,R',h=>by cases h
 |x::l,d,R',h=>by
  obtain⟨x1,x2⟩:=x
  have rc:lk (wq ms r l) d=some R'→∃k R,(d,k)∈(x1,x2)::l∧ms.contains d=true∧lk r k=some R∧R'=⟨R.o,R.e,R.xs,none⟩:=fun h=>by
   obtain⟨k,R,h1,h2⟩:=KL h
   exact⟨k,R,List.mem_cons_of_mem _ h1,h2⟩
  simp only [wq]at h
  split at h
  ·rename_i hm
   split at h
   ·rename_i R hR
    rw [zd]at h
    split at h
    ·rename_i e;cases h;subst e;exact⟨x2,R,List.mem_cons_self ..,hm,hR,rfl⟩
    ·exact rc h
   ·exact rc h
  ·exact rc h
theorem VV {gd gb:List (Nat×Nat)}{b0 b:List (Nat×List AV)}: ∀{l:List (Nat×Nat)} {t:Nat} {cs:List AV},lk (wM gd gb b0 b l) t=some cs→∃k cs0 cs1,(t,k)∈l∧lk b0 t=some cs0∧lk b k=some cs1∧cs=AV.rkL gd gb cs1
 | [],t,cs,h=>by cases h
 |x::l,t,cs,h=>by
  obtain⟨x1,x2⟩:=x
  have rc:lk (wM gd gb b0 b l) t=some cs→∃k cs0 cs1,(t,k)∈(x1,x2)::l∧lk b0 t=some cs0∧lk b k=some cs1∧cs=AV.rkL gd gb cs1:=fun h=>by
   obtain⟨k,cs0,cs1,h1,h2⟩:=VV h
   exact⟨k,cs0,cs1,List.mem_cons_of_mem _ h1,h2⟩
  simp only [wM]at h
  split at h
  ·rename_i c0 c1 h0 h1
   rw [zd]at h
   split at h
   ·rename_i e;cases h;subst e;exact⟨x2,c0,c1,List.mem_cons_self ..,h0,h1,rfl⟩
   ·exact rc h
  ·exact rc h
def okK (st:St)(rs Ts:List (Nat×Nat))(ms:List Nat):Bool:=
 invB rs&&invB Ts&&(rs.all fun x=>decide (x.2<999999)||ms.contains x.1)&&(Ts.all fun x=>decide (1000000≤x.2)&&decide (x.2<1000016))&&(ms.all fun d=>(lk rs d).isSome)&&
 (rs.all fun x=>match lk st.r x.1 with|some R=>if ms.contains x.1 then exB R.o&&R.pin.isNone else shB R.o|none=>true)
def WB (st st':St)(ms:List Nat):List (Nat×Nat)→Prop
 | []=>True
 |x::l=>(if ms.contains x.1 then(match lk st'.r x.2 with|some R'=>R'.o= .ex|none=>True)
   else(match lk st.r x.1,lk st'.r x.2 with|some R,some R'=>R'.pin=some x.2∧R'.xs=R.xs|some _,none=>False|none,_=>True))∧WB st st' ms l
theorem WC {st st':St}{ms:List Nat}: ∀{l:List (Nat×Nat)},WB st st' ms l→∀d d',(d,d')∈l→if ms.contains d then(match lk st'.r d' with|some R'=>R'.o= .ex|none=>True)
   else(match lk st.r d,lk st'.r d' with|some R,some R'=>R'.pin=some d'∧R'.xs=R.xs|some _,none=>False|none,_=>True)
 | [],_,d,d',hm=>by simp at hm
 |x::l,h,d,d',hm=>by
  rcases List.mem_cons.1 hm with e|hm
  ·subst e;exact h.1
  ·exact WC h.2 d d' hm
def ZW (rs Ts:List (Nat×Nat))(ms:List Nat)(st st':St):St:=
 ⟨st.n,wh (AV.kill ms.contains noB) st.s,wM (yx rs) (yx Ts) st.b st'.b Ts++wh (AV.killL ms.contains noB) (rm (fun t=>(lk Ts t).isSome) st.b),wq ms st'.r rs++rm ms.contains st.r⟩
def Jv (K:St→Prop)(e:Exit)(st':St):Prop:=(e= .ret∨e= .normal)∧K st'
def Qq (n:Nat)(rs Ts:List (Nat×Nat))(ms:List Nat)(vs:List AV)(st:St):St:=⟨n,JE 0 (AV.rkL rs Ts vs),XA rs Ts st.b Ts,XK ms st.r rs⟩
def wj (P:Program)(τ:Ty)(rs Ts:List (Nat×Nat))(ms:List Nat)(o:Oper)(K:St→Prop)(st:St):Prop:=
 match JD st o with
 |some (f,vs,_)=>okK st rs Ts ms=true∧∃fn:Func,P.funcs[f]? =some fn∧(fn.name== "runtime.NumGoroutine")=false∧fn.body.isSome=true∧fn.results= #[]∧vs.length≤fn.ntmps∧
   awp P τ (fn.body.getD .skip) (Jv fun st'=>WB st st' ms rs∧K ((ZW rs Ts ms st st').put o.dst .dead)) (Qq fn.ntmps rs Ts ms vs st)
 |none=>False
section
variable {P:Program} {τ:Ty} {lo:Nat} {w0:Fz} {ow:Nat→Option Pl} {hd:Nat→Value} {bk:Nat→Nat} {st:St} {a:Act} {w:World}
theorem XR {rs Ts:List (Nat×Nat)}{ms:List Nat}{o:Oper}{K:St→Prop}{f:FuncId}{vs:List AV}{ts:List TypeId}{fn:Func}(h1:JD st o=some (f,vs,ts))(h2:okK st rs Ts ms=true)(h5:P.funcs[f]? =some fn)(h6:(fn.name== "runtime.NumGoroutine")=false)(h7:fn.body.isSome=true)(h8:fn.results= #[])(h9:vs.length≤fn.ntmps)
  (h:awp P τ (fn.body.getD .skip) (Jv fun st'=>WB st st' ms rs∧K ((ZW rs Ts ms st st').put o.dst .dead)) (Qq fn.ntmps rs Ts ms vs st)):wj P τ rs Ts ms o K st:=by
 unfold wj
 rw [h1]
 exact⟨h2,fn,h5,h6,h7,h8,h9,h⟩
theorem ZQ (hτ:zx P τ)(hpos:yL τ){rs Ts:List (Nat×Nat)}{ms:List Nat}:QX P τ (wj P τ rs Ts ms):=by
 intro lo w0 st a w o K Q K' hd9 h ha hK
 obtain⟨ow,hd,bk,hr⟩:=h
 unfold wj at ha
 split at ha
 rotate_left
 ·exact ha.elim
 rename_i f vs ts hc
 obtain⟨hok,fn,hfn,hname,hb,hres,hn,hbody⟩:=ha
 unfold okK at hok
 simp only [Bool.and_eq_true]at hok
 obtain⟨⟨⟨⟨⟨hi1,hi2⟩,hlow⟩,hhigh⟩,hms⟩,hmode⟩:=hok
 have hnum: ∀d d',lk rs d=some d'→ms.contains d=false→d'<999999:=fun d d' h hm=>by
  have :=List.all_eq_true.1 hlow _ (vP h)
  simp only [hm,Bool.or_false]at this
  simpa using this
 have hnumT: ∀d d',lk Ts d=some d'→1000000≤d'∧d'<1000016:=fun d d' h=>by
  have :=List.all_eq_true.1 hhigh _ (vP h)
  simpa using this
 have hin: ∀d d',(d,d')∈rs→lk rs d=some d':=fun d d' h=>by
  have h1:=List.all_eq_true.1 hi1 _ h
  simp only [Bool.and_eq_true,beq_iff_eq]at h1
  exact h1.1
 have hinT: ∀d d',(d,d')∈Ts→lk Ts d=some d':=fun d d' h=>by
  have h1:=List.all_eq_true.1 hi2 _ h
  simp only [Bool.and_eq_true,beq_iff_eq]at h1
  exact h1.1
 have hmd: ∀d d' R,lk rs d=some d'→lk st.r d=some R→(ms.contains d=true∧R.o= .ex∧R.pin=none)∨(ms.contains d=false∧R.o= .sh):=fun d d' R h1 h2=>by
  have :=List.all_eq_true.1 hmode _ (vP h1)
  simp only [h2]at this
  cases hm:ms.contains d with
  |true=>
   rw [hm]at this
   simp only [if_true,Bool.and_eq_true]at this
   refine .inl ⟨rfl,?_,by simpa using this.2⟩
   cases ho:R.o<;>rw [ho]at this<;>first|rfl|(have :=this.1;cases this)
  |false=>
   rw [hm]at this
   simp only [Bool.false_eq_true,if_false]at this
   refine .inr ⟨rfl,?_⟩
   cases ho:R.o<;>rw [ho]at this<;>first|rfl|cases this
 have hmem: ∀d,ms.contains d=true→∃d',lk rs d=some d':=fun d h=>by
  have h1:=List.all_eq_true.1 hms d (by simpa using h)
  exact Option.isSome_iff_exists.1 h1
 obtain⟨xs,hxs,hexec⟩:=zDn hr hc ⟨fn,hfn,hname,by cases hbb:fn.body with|none=>rw [hbb]at hb;cases hb|some c=>rfl⟩
 have hxl:=(zp.1 hxs).1
 -- the callee's frame
 obtain⟨ow1,how1⟩: ∃g:Nat→Option Pl,g=fun b=>match ow b with|some (.root d p)=>(if ms.contains d then(lk rs d).map (fun k=> .root k p)else none)|some (.box t)=>(lk Ts t).map .box|_=>none:=⟨_,rfl⟩
 obtain⟨w1,hw1⟩: ∃w1:Fz,w1=⟨w,fun b=>ow1 b=none,fun i=>if 999999≤i then(lk (yx Ts) (i+1)).map (fun t=> .pointer (some ⟨bk t,0,none⟩))else(lk (yx rs) i).map hd⟩:=⟨_,rfl⟩
 obtain⟨hd1,hhd1⟩: ∃g:Nat→Value,g=fun k=>match lk (yx rs) k with|some d=>hd d|none=>undef:=⟨_,rfl⟩
 obtain⟨bk1,hbk1⟩: ∃g:Nat→Nat,g=fun k=>match lk (yx Ts) k with|some t=>bk t|none=>0:=⟨_,rfl⟩
 have how1n: ∀b,ow b=none→ow1 b=none:=fun b h=>by rw [how1];simp only [h]
 have how1s: ∀b p,ow1 b=some p→p≠ .ext∧∃q,ow b=some q∧q≠ .ext:=fun b p h=>by
  rw [how1]at h
  simp only at h
  split at h
  ·rename_i d p' e
   refine⟨?_,_,e,by simp⟩
   split at h
   ·cases hx:lk rs d with
    |none=>rw [hx]at h;cases h
    |some k=>rw [hx]at h;cases h;simp
   ·cases h
  ·rename_i t e
   refine⟨?_,_,e,by simp⟩
   cases hx:lk Ts t with
   |none=>rw [hx]at h;cases h
   |some k=>rw [hx]at h;cases h;simp
  ·cases h
 have hfre1: ∀b p,ow1 b=some p→w1.fre b:=fun b p h=>by
  subst hw1
  exact fun _ hk=>by rw [show ow1 b=none from hk]at h;cases h
 have hhdk: ∀d d',lk rs d=some d'→hd1 d'=hd d:=fun d d' h=>by rw [hhd1];simp only [vm hi1 h]
 have hbkk: ∀t t',lk Ts t=some t'→bk1 t'=bk t:=fun t t' h=>by rw [hbk1];simp only [vm hi2 h]
 have hstart:Rel τ lo w1 (Qq fn.ntmps rs Ts ms vs st) {tmps:=xs.toArray++Array.replicate (fn.ntmps - xs.toArray.size) undef,defers:= []} w:=by
  have hD: ∀d d',lk rs d=some d'→Kc w w st.r (Qq fn.ntmps rs Ts ms vs st).r hd hd1 d d':=fun d d' h R' hR'=>by
   obtain⟨d2,R,m1,m2,m3⟩:=Xf hR'
   have e:d2=d:=by
    have h1:=vm hi1 (hin _ _ m1)
    rw [vm hi1 h]at h1
    exact(Option.some.inj h1).symm
   subst e
   exact⟨R,m2,hhdk _ _ h,fun p hp=>⟨by rw [m3]at hp;exact hp,rfl⟩⟩
  have hB: ∀t t',lk Ts t=some t'→(∃cs,lk (Qq fn.ntmps rs Ts ms vs st).b t'=some cs)→(∃cs,lk st.b t=some cs)∧bk1 t'=bk t:=fun t t' h ⟨cs,hcs⟩=>by
   obtain⟨t2,cs0,m1,m2,-⟩:=WU hcs
   have e:t2=t:=by
    have h1:=vm hi2 (hinT _ _ m1)
    rw [vm hi2 h]at h1
    exact(Option.some.inj h1).symm
   subst e
   exact⟨⟨cs0,m2⟩,hbkk _ _ h⟩
  refine⟨ow1,hd1,bk1,fun j ad hj had=> ?_,rfl,?_,hr.low,by subst hw1;exact yu.start _,fun b p hlt hb hp=> ?_,fun b hb=>how1n b (hr.new b hb),fun k v hv=> ?_,fun k R' hR'=> ?_,fun t cs hcs=> ?_,fun k R' i hR' hi=> ?_⟩
  ·subst hw1
   simp only [if_pos (show 999999≤999999+j from by omega)]at had
   rw [show 999999+j+1=1000000+j from by omega]at had
   cases hx:lk (yx Ts) (1000000+j)with
   |none=>rw [hx]at had;cases had
   |some t=>
    rw [hx]at had
    cases had
    rw [hbk1]
    simp only [hx]
  ·show(xs.toArray++Array.replicate (fn.ntmps - xs.toArray.size) undef).size=fn.ntmps
   simp only [Array.size_append,List.size_toArray,Array.size_replicate]
   omega
  ·obtain⟨-,q,hq,hqe⟩:=how1s b p hb
   exact⟨(hr.ge b q hlt hq hqe).1,hfre1 b p hb⟩
  ·obtain⟨j,hj,hkj⟩:=zAy _ _ _ _ hv
   rw [Nat.zero_add]at hkj
   subst hkj
   have hevk:=Zj (τ:=τ) hD hB _ _ hxs
   obtain⟨h1,h2⟩:=zp.1 hevk
   have hlt:k<xs.length:=by rw [h1];exact(List.getElem?_eq_some_iff.1 hj).1
   have hget:(xs.toArray++Array.replicate (fn.ntmps - xs.toArray.size) undef).getD k undef=xs[k]:=by
    rw [Array.getD_eq_getD_getElem?,Array.getElem?_append_left (by simpa using hlt)]
    simp [hlt]
   show AvR τ w _ _ hd1 bk1 v ((xs.toArray++Array.replicate (fn.ntmps - xs.toArray.size) undef).getD k undef)
   rw [hget]
   exact h2 k v _ hj (List.getElem?_eq_getElem hlt)
  ·obtain⟨d,R,m1,m2,m3⟩:=Xf hR'
   have hl:=hin _ _ m1
   rw [m3,hhdk _ _ hl]
   rcases hmd _ _ _ hl m2 with⟨c1,c2,c3⟩|⟨c1,c2⟩
   ·have hrp:=hr.root d R m2
    simp only [c2,md]at hrp⊢
    exact zDa (fun b q hbq=>by rw [how1];simp only [hbq,c1,if_true,hl,Option.map_some]) _ [] _ hrp
   ·have hrp:=hr.root d R m2
    simp only [c2,md]at hrp⊢
    exact yE _ _ (Nat.le_refl _) _ _ _ (fun b hb hrl=>⟨rfl,by rw [show ow b=none from hrl];exact how1n b hrl⟩) hrp
  ·obtain⟨t2,cs0,m1,m2,rfl⟩:=WU hcs
   have hl:=hinT _ _ m1
   obtain⟨ds,dty,q1,q2,q3⟩:=hr.box t2 cs0 m2
   exact⟨ds,dty,by rw [hbkk _ _ hl];exact q1,by rw [hbkk _ _ hl,how1];simp only [q2,hl,Option.map_some],Zj hD hB _ _ q3⟩
  ·obtain⟨d,R,m1,m2,m3⟩:=Xf hR'
   have hl:=hin _ _ m1
   rw [m3]at hi
   simp only at hi
   split at hi
   ·cases hi
   ·rename_i hmn
    cases hi
    subst hw1
    simp only [if_neg (show ¬999999≤k from by have :=hnum _ _ hl (by simpa using hmn);omega),vm hi1 hl,Option.map_some]
    rw [hhdk _ _ hl]
 have hC:Calls P f xs.toArray w (fun e w'=> ∃z,e= .returned z∧∃st',K st'∧Rel τ lo w0 st' (a.put o.dst z) w'):=by
  obtain⟨c,hbc⟩:=Option.isSome_iff_exists.1 hb
  have hget:fn.body.getD .skip=c:=by rw [hbc];rfl
  rw [hget]at hbody
  refine calls_of_wp hfn hbc (Go.wp_mono (hbody lo w1 _ w hstart) fun e a' w' ⟨st',⟨ow2,hd2,bk2,hr2⟩,he,hbo,hK0⟩=> ?_)
  have hpost:a'.defers= []∧∃v,(results fn a'.tmps).run P w'= .ok v w'∧(∃z,Ending.returned v= .returned z∧∃st',K st'∧Rel τ lo w0 st' (a.put o.dst z) w'):=by
   obtain⟨ys,hrun,hv⟩:=Ze hτ hpos hr2 (rs:= []) (by rw [hres]) (show yS τ st' []=some ([],True)from rfl) trivial
   refine⟨hr2.defers,_,hrun,_,rfl,_,hK0,?_⟩
   have hsz:w.heap.size≤w'.heap.size:=by have :=hr2.below.size;subst hw1;exact this
   have hsame: ∀b,b<w.heap.size→ow1 b=none→w'.heap[b]? =w.heap[b]? :=fun b hb h=>by have :=hr2.below.block b;subst hw1;exact this hb h
   have how2: ∀b p,ow2 b=some p→p≠ .ext→b<w'.heap.size∧(b<w.heap.size→ow1 b≠none):=fun b p h hp=>by
    have hlt:b<w'.heap.size:=by
     rcases Nat.lt_or_ge b w'.heap.size with h1|h1
     ·exact h1
     ·rw [hr2.new b h1]at h;cases h
    refine⟨hlt,fun h1 h2=> ?_⟩
    have :=(hr2.ge b p hlt h hp).2
    subst hw1
    exact this h1 h2
   obtain⟨ow3,how3⟩: ∃g:Nat→Option Pl,g=fun b=>if b<w.heap.size∧ow1 b=none then ow b else(match ow2 b with
    |some (.root k p)=>(match lk (yx rs) k with|some d=>(if ms.contains d then some (.root d p)else none)|none=>none)
    |some (.box k)=>(lk (yx Ts) k).map .box
    |_=>none):=⟨_,rfl⟩
   obtain⟨hd3,hhd3⟩: ∃g:Nat→Value,g=fun d=>if ms.contains d then(match lk rs d with|some k=>hd2 k|none=>undef)else hd d:=⟨_,rfl⟩
   have how3o: ∀b,b<w.heap.size→ow1 b=none→ow3 b=ow b:=fun b h1 h2=>by rw [how3];simp only [if_pos (And.intro h1 h2)]
   have how3r: ∀b d k p,ms.contains d=true→lk rs d=some k→ow2 b=some (.root k p)→ow3 b=some (.root d p):=fun b d k p h1 h2 h3=>by
    have :=(how2 b _ h3 (by simp)).2
    rw [how3]
    simp only [if_neg (fun hx:b<w.heap.size∧ow1 b=none=>this hx.1 hx.2),h3,vm hi1 h2,h1,if_true]
   have hbig: ∀t t',lk Ts t=some t'→bk2 t'=bk t:=fun t t' h=>by
    obtain⟨n1,n2⟩:=hnumT t t' h
    have :=hr2.big (t' - 1000000) ⟨bk t,0,none⟩ (by omega) (by
     subst hw1
     simp only [if_pos (show 999999≤999999+(t' - 1000000)from by omega)]
     rw [show 999999+(t' - 1000000)+1=t' from by omega,vm hi2 h]
     rfl)
    rw [show 1000000+(t' - 1000000)=t' from by omega]at this
    exact this
   have hkr: ∀d R,ms.contains d=false→lk (ZW rs Ts ms st st').r d=some R→lk st.r d=some R:=fun d R hm hR=>by
    have h2:lk (wq ms st'.r rs++rm ms.contains st.r) d=some R:=hR
    rw [qB]at h2
    cases hx:lk (wq ms st'.r rs) d with
    |some R0=>
     obtain⟨k,R1,-,q2,-⟩:=KL hx
     rw [hm]at q2
     cases q2
    |none=>
     rw [hx,Option.none_or,yr,hm]at h2
     simpa using h2
   have hkm: ∀d R,ms.contains d=true→lk (ZW rs Ts ms st st').r d=some R→∃k R1,lk rs d=some k∧lk st'.r k=some R1∧R=⟨R1.o,R1.e,R1.xs,none⟩:=fun d R hm hR=>by
    have h2:lk (wq ms st'.r rs++rm ms.contains st.r) d=some R:=hR
    rw [qB]at h2
    cases hx:lk (wq ms st'.r rs) d with
    |some R0=>
     rw [hx]at h2
     cases h2
     obtain⟨k,R1,q1,-,q3,q4⟩:=KL hx
     exact⟨k,R1,hin _ _ q1,q3,q4⟩
    |none=>
     rw [hx,Option.none_or,yr,hm]at h2
     simp at h2
   -- objects that the callee may not change
   have hD0: ∀d,ms.contains d=false→yq w w' st.r (ZW rs Ts ms st st').r hd hd3 d:=fun d hm R' hR'=>by
    have hR:=hkr d R' hm hR'
    refine⟨R',hR,by rw [hhd3];simp only [hm];rfl,fun p hp=>⟨hp,xE p _ _ _ _ (hr.root d R' hR) hp fun b o A n c hb hrl hc=> ?_⟩⟩
    rw [xe (hsame b hb ?_)]
    ·exact hc
    cases ho:R'.o<;>rw [ho]at hrl<;>simp only [md,rel]at hrl
    ·exact how1n b hrl
    ·obtain⟨q,hq⟩:=hrl
     rw [how1]
     simp only [hq,hm]
     rfl
    ·rcases hrl with hrl|hrl
     ·exact how1n b hrl
     ·rw [how1]
      simp only [hrl,hm]
      rfl
   have hBs: ∀t cs,lk (ZW rs Ts ms st st').b t=some cs→∃cs0,lk st.b t=some cs0:=fun t cs h=>by
    have h2:lk (wM (yx rs) (yx Ts) st.b st'.b Ts++wh (AV.killL ms.contains noB) (rm (fun t=>(lk Ts t).isSome) st.b)) t=some cs:=h
    rw [qB]at h2
    cases hx:lk (wM (yx rs) (yx Ts) st.b st'.b Ts) t with
    |some c0=>
     obtain⟨k,cs0,cs1,-,q2,-⟩:=VV hx
     exact⟨cs0,q2⟩
    |none=>
     rw [hx,Option.none_or,zz,yr]at h2
     split at h2
     ·cases h2
     ·cases hy:lk st.b t with
      |none=>rw [hy]at h2;cases h2
      |some cs0=>exact⟨cs0,rfl⟩
   have hB0: ∀t,noB t=false→yp st.b (ZW rs Ts ms st st').b bk bk t:=fun t _ ⟨cs,hcs⟩=>⟨hBs t cs hcs,rfl⟩
   have hDk: ∀k d,lk (yx rs) k=some d→Kc w' w' st'.r (ZW rs Ts ms st st').r hd2 hd3 k d:=fun k d h R' hR'=>by
    have hl:=ub hi1 h
    have hbk:=WC hbo d k (vP hl)
    cases hm:ms.contains d with
    |true=>
     obtain⟨k2,R1,q1,q2,q3⟩:=hkm d R' hm hR'
     rw [hl]at q1
     cases q1
     refine⟨R1,q2,by rw [hhd3];simp only [hm,if_true,hl],fun p hp=>⟨by rw [q3]at hp;exact hp,rfl⟩⟩
    |false=>
     have hR:=hkr d R' hm hR'
     rw [hm,hR]at hbk
     simp only [Bool.false_eq_true,if_false]at hbk
     cases hx:lk st'.r k with
     |none=>rw [hx]at hbk;exact hbk.elim
     |some R1=>
      rw [hx]at hbk
      obtain⟨q1,q2⟩:=hbk
      have hp:=hr2.pin k R1 k hx q1
      subst hw1
      simp only [if_neg (show ¬999999≤k from by have :=hnum _ _ hl hm;omega),h,Option.map_some,Option.some.injEq]at hp
      refine⟨R1,rfl,by rw [hhd3];simp only [hm];exact hp,fun p hp2=>⟨by rw [q2];exact hp2,rfl⟩⟩
   have hBk: ∀k t,lk (yx Ts) k=some t→(∃cs,lk (ZW rs Ts ms st st').b t=some cs)→(∃cs,lk st'.b k=some cs)∧bk t=bk2 k:=fun k t h ⟨cs,hcs⟩=>by
    have hl:=ub hi2 h
    refine⟨?_,(hbig t k hl).symm⟩
    have h2:lk (wM (yx rs) (yx Ts) st.b st'.b Ts++wh (AV.killL ms.contains noB) (rm (fun t=>(lk Ts t).isSome) st.b)) t=some cs:=hcs
    rw [qB]at h2
    cases hx:lk (wM (yx rs) (yx Ts) st.b st'.b Ts) t with
    |some c0=>
     obtain⟨k2,cs0,cs1,q1,-,q3,-⟩:=VV hx
     have :=hinT _ _ q1
     rw [hl]at this
     cases this
     exact⟨cs1,q3⟩
    |none=>
     rw [hx,Option.none_or,zz,yr,hl]at h2
     simp at h2
   have hback:ze τ lo w0 ow3 hd3 bk (ZW rs Ts ms st st') a w':=by
    refine⟨hr.big,hr.defers,hr.size,hr2.low,hr.below.step ?_ ?_ ?_ hsz (fun b hb hf=> ?_),fun b p hlt hb hp=> ?_,fun b hb=> ?_,fun k v hv=> ?_,fun d R hR=> ?_,fun t us hus=> ?_,fun d R i hR hi=> ?_⟩
    ·have :=hr2.below.os;subst hw1;exact this
    ·have :=hr2.below.tape;subst hw1;exact this
    ·have :=hr2.below.output;subst hw1;exact this
    ·refine hsame b hb ?_
     cases ho:ow1 b with
     |none=>rfl
     |some p=>
      obtain⟨-,q,hq,hqe⟩:=how1s b p ho
      exact absurd (hr.ge b q hb hq hqe).2 hf
    ·rw [how3]at hb
     simp only at hb
     split at hb
     ·rename_i hx
      exact hr.ge b p hx.1 hb hp
     ·rename_i hx
      have key: ∀p2,ow2 b=some p2→p2≠ .ext→lo≤b∧w0.fre b:=fun p2 h2 hp2=>by
       refine⟨(hr2.ge b p2 hlt h2 hp2).1,?_⟩
       by_cases hb2:b<w.heap.size
       ·have hne:=(how2 b p2 h2 hp2).2 hb2
        cases ho:ow1 b with
        |none=>exact absurd ho hne
        |some p3=>
         obtain⟨-,q,hq,hqe⟩:=how1s b p3 ho
         exact(hr.ge b q hb2 hq hqe).2
       ·exact fun hlt0=>by have :=hr.below.size;omega
      split at hb
      ·rename_i h2;exact key _ h2 (by simp)
      ·rename_i h2;exact key _ h2 (by simp)
      ·cases hb
    ·rw [how3]
     simp only [if_neg (show ¬(b<w.heap.size∧ow1 b=none)from fun hx=>by omega),hr2.new b hb]
    ·have hv2:lk (wh (AV.kill ms.contains noB) st.s) k=some v:=hv
     rw [zz]at hv2
     cases hk:lk st.s k with
     |none=>rw [hk]at hv2;cases hv2
     |some v0=>rw [hk]at hv2;cases hv2;exact yl hD0 hB0 v0 _ (hr.slot k v0 hk)
    ·cases hm:ms.contains d with
     |true=>
      obtain⟨k,R1,q1,q2,q3⟩:=hkm d R hm hR
      have hbk:=WC hbo d k (vP q1)
      rw [hm,q2]at hbk
      simp only [if_true]at hbk
      have hrp:=hr2.root k R1 q2
      rw [q3,hhd3]
      simp only [hm,if_true,q1]
      simp only [hbk,md]at hrp⊢
      exact zDa (fun b q hbq=>how3r b d k q hm q1 hbq) _ [] _ hrp
     |false=>
      have hR0:=hkr d R hm hR
      rw [hhd3]
      simp only [hm,Bool.false_eq_true,if_false]
      refine yE _ _ hsz _ _ _ (fun b hb hrl=> ?_) (hr.root d R hR0)
      have ho1:ow1 b=none:=by
       cases ho:R.o<;>rw [ho]at hrl<;>simp only [md,rel]at hrl
       ·exact how1n b hrl
       ·obtain⟨q,hq⟩:=hrl
        rw [how1]
        simp only [hq,hm]
        rfl
       ·rcases hrl with hrl|hrl
        ·exact how1n b hrl
        ·rw [how1]
         simp only [hrl,hm]
         rfl
      exact⟨hsame b hb ho1,how3o b hb ho1⟩
    ·have h2:lk (wM (yx rs) (yx Ts) st.b st'.b Ts++wh (AV.killL ms.contains noB) (rm (fun t=>(lk Ts t).isSome) st.b)) t=some us:=hus
     rw [qB]at h2
     cases hx:lk (wM (yx rs) (yx Ts) st.b st'.b Ts) t with
     |some c0=>
      rw [hx]at h2
      cases h2
      obtain⟨k,cs0,cs1,q1,q2,q3,rfl⟩:=VV hx
      have hl:=hinT _ _ q1
      obtain⟨ds,dty,p1,p2,p3⟩:=hr2.box k cs1 q3
      rw [hbig t k hl]at p1 p2
      refine⟨ds,dty,p1,?_,Zj hDk hBk _ _ p3⟩
      have hne:=(how2 _ _ p2 (by simp)).2
      rw [how3]
      simp only [if_neg (fun hx:bk t<w.heap.size∧ow1 (bk t)=none=>hne hx.1 hx.2),p2,vm hi2 hl,Option.map_some]
     |none=>
      rw [hx,Option.none_or,zz,yr]at h2
      split at h2
      ·cases h2
      ·rename_i hn
       cases hy:lk st.b t with
       |none=>rw [hy]at h2;cases h2
       |some cs0=>
        rw [hy]at h2
        cases h2
        obtain⟨ds,dty,p1,p2,p3⟩:=hr.box t cs0 hy
        have hlt:bk t<w.heap.size:=(Array.getElem?_eq_some_iff.1 p1).1
        have ho1:ow1 (bk t)=none:=by
         rw [how1]
         simp only [p2]
         cases hz:lk Ts t with
         |none=>rfl
         |some k=>rw [hz]at hn;exact absurd rfl hn
        exact⟨ds,dty,by rw [hsame _ hlt ho1];exact p1,by rw [how3o _ hlt ho1];exact p2,yA hD0 hB0 _ _ p3⟩
    ·cases hm:ms.contains d with
     |true=>
      obtain⟨k,R1,q1,q2,q3⟩:=hkm d R hm hR
      rw [q3]at hi
      cases hi
     |false=>
      rw [hhd3]
      simp only [hm]
      exact hr.pin d R i (hkr d R hm hR) hi
   exact yb hback hd9 (by simp only [AvR])
  rcases he with rfl|rfl<;>exact hpost
 unfold Oper.wp
 rw [hexec]
 simp only [Oper.upon]
 refine hC.mono fun e w' hpost=> ?_
 obtain⟨z,rfl,st',hK1,hrel⟩:=hpost
 exact hK _ z w' hK1 hrel
def VD (P:Program)(τ:Ty)(al:List Nat)(F:TypeId)(X:Oper→(St→Prop)→St→Prop)(t:Nat)(K:St→Prop):List Oper→St→Prop
 | [],st=>K st
 |o::os,st=>
  match o.guard with
  |none=>
   match mkF o with
   |some (f,caps)=>VD P τ al F X t K os (st.put o.dst (.fn f (caps.map (ev st))))
   |none=>if o.dst=some t then X o (VD P τ al F X t K os) st else aopF P τ al F o (VD P τ al F X t K os) st
  |some (j,want)=>False
theorem YB (hτ:zx P τ)(hpos:yL τ){al:List Nat}{F:TypeId}(hF:zAd P F=true){X:Oper→(St→Prop)→St→Prop}(hX:QX P τ X){t:Nat}{all:List Oper}{K:St→Prop}{Q:Exit→Act→World→Prop}(hQ: ∀st a w,K st→Rel τ lo w0 st a w→Q .normal a w):
  ∀(os:List Oper) (st:St) (a:Act) (w:World),yn a.tmps.size os=true→Rel τ lo w0 st a w→VD P τ al F X t K os st→wpList P all.toArray Q os a w
 | [],st,a,w,_,h,ha=>wpList_nil (hQ st a w ha h)
 |o::os,st,a,w,hd,h,ha=>by
  have hd1: ∀k,o.dst=some k→k<a.tmps.size:=fun k hk=>by
   have :=List.all_eq_true.1 hd o (by simp)
   rw [hk]at this
   simpa using this
  have hd2:yn a.tmps.size os=true:=List.all_eq_true.2 fun x hx=>List.all_eq_true.1 hd x (by simp [hx])
  refine wpList_step fun K' hK'=> ?_
  simp only [VD]at ha
  split at ha
  ·rename_i hg
   rw [if_pos (by simp [Region.wanted,hg])]
   split at ha
   ·rename_i f caps hm
    obtain⟨ow,hd',bk,hr⟩:=h
    obtain⟨z,hz,hv⟩:=zFe (P:=P) hr hm
    unfold Oper.wp
    rw [hz]
    exact hK' _ _ (YB hτ hpos hF hX hQ os _ _ w (by rw [xH];exact hd2) (yb hr hd1 hv) ha)
   ·split at ha
    ·exact hX hd1 h ha fun st' x w' h2 h3=>hK' _ _ (YB hτ hpos hF hX hQ os st' _ w' (by rw [xH];exact hd2) h3 h2)
    ·exact zDg hτ hpos hF hd1 h ha fun st' x w' h2 h3=>hK' _ _ (YB hτ hpos hF hX hQ os st' _ w' (by rw [xH];exact hd2) h3 h2)
  ·exact ha.elim
theorem vk {Q:Exit→St→Prop}(F:TypeId)(hF:zAd P F=true)(X:Oper→(St→Prop)→St→Prop)(hX:QX P τ X)(t:Nat)(hτ:zx P τ)(hpos:yL τ)(al:List Nat){id:Nat}{ops:List Oper}(hd:yn st.n ops=true)(h:VD P τ al F X t (Q .normal) ops st):awp P τ (.region id ops.toArray false) Q st:=fun lo w0 a w hr=>by
 have hn:a.tmps.size=st.n:=by obtain⟨ow,hd,bk,h⟩:=hr;exact h.size
 refine wp_region_lit (YB hτ hpos hF hX (fun st a w h1 h2=>⟨st,h2,h1⟩) ops st a w (by rw [hn];exact hd) hr h)
end
section
variable {τ:Ty} {w:World} {rr rr':List (Nat×zr)} {bb:List (Nat×List AV)} {hd:Nat→Value} {bk:Nat→Nat}
mutual
theorem Ui (hD: ∀d R',lk rr' d=some R'→∃R,lk rr d=some R∧R.xs=R'.xs): ∀(v:AV) (x:Value),AvR τ w rr bb hd bk v x→AvR τ w rr' bb hd bk v x
 | .int k n,x,h=>by simpa only [AvR]using h
 | .bool b,x,h=>by simpa only [AvR]using h
 | .nil,x,h=>by simpa only [AvR]using h
 | .dead,x,h=>by simp only [AvR]
 | .raw u,x,h=>by simpa only [AvR]using h
 | .sl d p off len e,x,h=>by
  simp only [AvR]at h⊢
  refine⟨h.1,fun R' hR' hp=> ?_⟩
  obtain⟨R,hR,e1⟩:=hD d R' hR'
  exact h.2 R hR (by rw [e1];exact hp)
 | .ep d p i,x,h=>by
  simp only [AvR]at h⊢
  refine⟨h.1,fun R' hR' hp=> ?_⟩
  obtain⟨R,hR,e1⟩:=hD d R' hR'
  exact h.2 R hR (by rw [e1];exact hp)
 | .bp t i,x,h=>by simpa only [AvR]using h
 | .agg vs,x,h=>by
  simp only [AvR]at h⊢
  obtain⟨cs,e,h⟩:=h
  exact⟨cs,e,YK hD vs cs h⟩
 | .tup vs,x,h=>by
  simp only [AvR]at h⊢
  obtain⟨cs,e,h⟩:=h
  exact⟨cs,e,YK hD vs cs h⟩
 | .fn f vs,x,h=>by
  simp only [AvR]at h⊢
  obtain⟨cs,e,h⟩:=h
  exact⟨cs,e,YK hD vs cs h⟩
theorem YK (hD: ∀d R',lk rr' d=some R'→∃R,lk rr d=some R∧R.xs=R'.xs): ∀(vs:List AV) (xs:List Value),zY τ w rr bb hd bk vs xs→zY τ w rr' bb hd bk vs xs
 | [],xs,h=>by simpa only [zY]using h
 |v::vs,xs,h=>by
  simp only [zY]at h⊢
  obtain⟨x,xs',h1,h2,h3⟩:=h
  exact⟨x,xs',h1,Ui hD v x h2,YK hD vs xs' h3⟩
end
end
theorem zEp {P:Program}{τ:Ty}{st:St}(d:Nat){R:zr}(hR:lk st.r d=some R)(ho:R.o= .ex){c:Code}{Q:Exit→St→Prop}(hK:awp P τ c Q {st with r:=(d,⟨.sh,R.e,R.xs,R.pin⟩)::rm (fun x=>x==d) st.r}):awp P τ c Q st:=fun lo w0 a w hr=>by
 obtain⟨ow,hd,bk,h⟩:=hr
 obtain⟨ow',how'⟩: ∃g:Nat→Option Pl,g=fun b=>match ow b with|some (.root k p)=>if k=d then none else some (.root k p)|x=>x:=⟨_,rfl⟩
 have hlk: ∀k R',lk ((d,(⟨.sh,R.e,R.xs,R.pin⟩:zr))::rm (fun x=>x==d) st.r) k=some R'→(k=d∧R'=⟨.sh,R.e,R.xs,R.pin⟩)∨(k≠d∧lk st.r k=some R'):=fun k R' h8=>by
  rw [zd]at h8
  split at h8
  ·rename_i e;cases h8;exact .inl ⟨e.symm,rfl⟩
  ·rename_i e
   rw [yr]at h8
   split at h8
   ·cases h8
   ·exact .inr ⟨fun e9=>e e9.symm,h8⟩
 have hD: ∀k R',lk ((d,(⟨.sh,R.e,R.xs,R.pin⟩:zr))::rm (fun x=>x==d) st.r) k=some R'→∃R0,lk st.r k=some R0∧R0.xs=R'.xs:=fun k R' h9=>by
  rcases hlk k R' h9 with⟨rfl,rfl⟩|⟨-,h8⟩
  ·exact⟨R,hR,rfl⟩
  ·exact⟨R',h8,rfl⟩
 have hsub: ∀b p,ow' b=some p→ow b=some p:=fun b p h9=>by
  rw [how']at h9
  simp only at h9
  split at h9
  ·rename_i k q e
   split at h9
   ·cases h9
   ·rw [e];exact h9
  ·exact h9
 refine hK lo w0 a w ⟨ow',hd,bk,h.big,h.defers,h.size,h.low,h.below,fun b p hlt hb hp=>h.ge b p hlt (hsub b p hb) hp,fun b hb=> ?_,fun k v hv=>Ui hD v _ (h.slot k v hv),fun k R' hR'=> ?_,fun t vs hv=> ?_,fun k R' i hR' hi=> ?_⟩
 ·rw [how']
  simp only [h.new b hb]
 ·rcases hlk k R' hR' with⟨rfl,rfl⟩|⟨hne,h8⟩
  ·have h7:=h.root k R hR
   rw [ho]at h7
   simp only [md]at h7⊢
   refine Qz _ _ _ _ _ (fun b hb hrl=> ?_) h7
   obtain⟨q,hq⟩:=hrl
   rw [how']
   simp only [hq,if_true]
  ·refine yE _ _ (Nat.le_refl _) _ _ _ (fun b hb hrl=>⟨rfl,?_⟩) (h.root k R' h8)
   cases ho:R'.o<;>rw [ho]at hrl<;>simp only [md,rel]at hrl
   ·rw [how'];simp only [hrl]
   ·obtain⟨q,hq⟩:=hrl
    rw [how'];simp only [hq,if_neg hne]
   ·rcases hrl with hrl|hrl
    ·rw [how'];simp only [hrl]
    ·rw [how'];simp only [hrl,if_neg hne]
 ·obtain⟨cs,ty,h1,h2,h3⟩:=h.box t vs hv
  exact⟨cs,ty,h1,by rw [how'];simp only [h2],YK hD vs cs h3⟩
 ·rcases hlk k R' hR' with⟨rfl,rfl⟩|⟨-,h8⟩
  ·exact h.pin k R i hR hi
  ·exact h.pin k R' i h8 hi
attribute [push_cast] aopF AV.rk AV.rkL yx XK XA wq wM WB ZW Qq VD
open Nat renaming reduceMod → zA, reduceMul → zB, reduceDiv → zC, reduceAdd → zD, reduceSub → zE, reduceEqDiff → zF, reduceBEq → zG, reduceLT → zH, reduceLeDiff → zI
def zIM (n:Nat)(v:Int)(ord:List Int):St:=⟨n,[(0, .int .i64 v),(1, .bp 1000000 0)],[(1000000,[.sl 16000000 [] 0 ord.length 2])],[(16000000,⟨.ex,2,dI ord,none⟩)]⟩
def Yw (ord:List Int)(st:St):Prop:=lk st.b 1000000=some [.sl 16000000 [] 0 ord.length 2]∧lk st.r 16000000=some ⟨.ex,2,dI ord,none⟩
def Kf (f:FuncId):Prop:= ∃fn:Func,Try.prog.funcs[f]? =some fn∧(fn.name== "runtime.NumGoroutine")=false∧fn.body.isSome=true∧fn.results= #[]∧2≤fn.ntmps∧∀(v:Int) (ord:List Int) (K:St→Prop),ord.length<1048576→(∀st,Yw (ord++ [v]) st→K st)→awp Try.prog tyT (fn.body.getD .skip) (Jv K) (zIM fn.ntmps v ord)
set_option maxRecDepth 20000 in
set_option maxHeartbeats 4000000 in
theorem zGE (v:Int)(ord:List Int)(K0:St→Prop)(ho:ord.length<1048576)(hK0: ∀st,Yw (ord++ [v]) st→K0 st):awp Try.prog tyT (Try.f71.body.getD .skip) (Jv K0) ⟨7,[(0, .int .i64 v),(1, .bp 1000000 0)],[(1000000,[.sl 16000000 [] 0 ord.length 2])],[(16000000,⟨.ex,2,dI ord,none⟩)]⟩:=by
 refine zAp rfl ?_
 (try simp only [push_cast,↓zK,↓zJ,↓reduceIte,zA,zB,zC,zD,zE,zF,zG,zH,zI,reduceCtorEq])
 refine zM zQ zO [] rfl ?_
 simp only [push_cast,↓zK,↓zJ,↓reduceIte,zA,zB,zC,zD,zE,zF,zG,zH,zI,reduceCtorEq]
 repeat' apply And.intro
 all_goals try exact gB
 all_goals first|exact Or.inr rfl|(refine hK0 _ ?_;unfold Yw;(try simp only [push_cast,↓zK,↓zJ,↓reduceIte,zA,zB,zC,zD,zE,zF,zG,zH,zI,reduceCtorEq]);(try simp only [List.length_append,List.length_cons,List.length_nil]);first|done|exact⟨rfl,rfl⟩)
theorem zHp :Kf 71:=⟨Try.f71,Try.func71,by kernel_rfl,rfl,rfl,by decide,fun v ord K ho hK=>by
 have h:=zGE v ord K ho hK
 exact h⟩
set_option maxRecDepth 20000 in
set_option maxHeartbeats 4000000 in
theorem zGF (v:Int)(ord:List Int)(K0:St→Prop)(ho:ord.length<1048576)(hK0: ∀st,Yw (ord++ [v]) st→K0 st):awp Try.prog tyT (Try.f72.body.getD .skip) (Jv K0) ⟨7,[(0, .int .i64 v),(1, .bp 1000000 0)],[(1000000,[.sl 16000000 [] 0 ord.length 2])],[(16000000,⟨.ex,2,dI ord,none⟩)]⟩:=by
 refine zAp rfl ?_
 (try simp only [push_cast,↓zK,↓zJ,↓reduceIte,zA,zB,zC,zD,zE,zF,zG,zH,zI,reduceCtorEq])
 refine zM zQ zO [] rfl ?_
 simp only [push_cast,↓zK,↓zJ,↓reduceIte,zA,zB,zC,zD,zE,zF,zG,zH,zI,reduceCtorEq]
 repeat' apply And.intro
 all_goals try exact gB
 all_goals first|exact Or.inr rfl|(refine hK0 _ ?_;unfold Yw;(try simp only [push_cast,↓zK,↓zJ,↓reduceIte,zA,zB,zC,zD,zE,zF,zG,zH,zI,reduceCtorEq]);(try simp only [List.length_append,List.length_cons,List.length_nil]);first|done|exact⟨rfl,rfl⟩)
theorem zHq :Kf 72:=⟨Try.f72,Try.func72,by kernel_rfl,rfl,rfl,by decide,fun v ord K ho hK=>by
 have h:=zGF v ord K ho hK
 exact h⟩
def jt (n:Nat)(to:List (List Int))(win:List Bool)(s:List Bool×List Int)(st:St):Prop:=
 lk st.b 1000000=some [.sl 16000000 [] 0 n 4]∧lk st.b 1000001=some [.sl 2 [] 0 n 4]∧lk st.b 1000002=some [.fn 70 [.bp 1000000 0, .bp 1000001 0, .bp 1000002 0]]∧lk st.b 1000003=some [.sl 16000048 [] 0 s.2.length 2]∧
 lk st.r 0=some ⟨.sh,22,dII to,some 0⟩∧lk st.r 2=some ⟨.sh,4,dB win,some 2⟩∧lk st.r 16000000=some ⟨.ex,4,dB s.1,none⟩∧lk st.r 16000048=some ⟨.ex,2,dI s.2,none⟩
def zEc (n:Nat)(to:List (List Int))(win:List Bool)(fT:FuncId)(f:Nat):Prop:=
 ∀(v:Nat) (Γ:Nat→Prop) (s:List Bool×List Int) (K:St→Prop),vU to win n Γ s.1 s.2→v<n→gb win v=true→gb s.1 v=false→und s.1≤f→s.2.length+und s.1≤n→(∀st,jt n to win (vis to win f v s) st→K st)→
  awp Try.prog tyT (Try.f70.body.getD .skip) (Jv K) ⟨43,[(0, .int .i64 v),(1, .sl 0 [] 0 n 22),(2, .fn fT [.bp 1000003 0]),(3, .bp 1000000 0),(4, .bp 1000001 0),(5, .bp 1000002 0)],[(1000000,[.sl 16000000 [] 0 n 4]),(1000001,[.sl 2 [] 0 n 4]),(1000002,[.fn 70 [.bp 1000000 0, .bp 1000001 0, .bp 1000002 0]]),(1000003,[.sl 16000048 [] 0 s.2.length 2])],[(0,⟨.sh,22,dII to,some 0⟩),(2,⟨.sh,4,dB win,some 2⟩),(16000000,⟨.ex,4,dB s.1,none⟩),(16000048,⟨.ex,2,dI s.2,none⟩)]⟩
theorem uV {to:List (List Int)}{win:List Bool}{f:Nat}{us:List Int}{s:List Bool×List Int}{k:Nat}(hk:k<us.length):(us.take (k+1)).foldl (stV to win f) s=stV to win f ((us.take k).foldl (stV to win f) s) (gi us k):=by
 rw [List.take_add_one,List.foldl_append]
 have e:us[k]? =some (gi us k):=by unfold gi;rw [List.getD_eq_getElem?_getD,List.getElem?_eq_getElem hk];rfl
 rw [e]
 rfl
theorem zK2 {α:Type}(f:Nat→Bool)(k:Nat)(v:α)(l:List (Nat×α)):rm f ((k,v)::l)=if f k=true then rm f l else(k,v)::rm f l:=by
 unfold rm
 rw [List.filter_cons]
 cases f k<;>rfl
theorem zK3 {α:Type}(f:Nat→Bool):rm f ([]:List (Nat×α))= []:=rfl
attribute [push_cast] zK2 zK3
attribute [-push_cast] rm
attribute [push_cast] Option.isSome_some Option.isSome_none
attribute [local irreducible] wj
set_option maxRecDepth 20000 in
set_option maxHeartbeats 8000000 in
theorem zEN (n:Nat)(to:List (List Int))(win:List Bool)(fT:FuncId)(f:Nat)(hgr:Gr n to win)(hn:n≤1000000)(hrl: ∀x,(gl to x).length≤1048576)(hT:Kf fT)(hVis:zEc n to win fT f)(v:Nat)(Γ:Nat→Prop)(done:List Bool)(ord:List Int)(K0:St→Prop)(hI:vU to win n Γ done ord)(hv:v<n)(hvw:gb win v=true)(hvd:gb done v=false)(hf:und done≤f+1)(hrm:ord.length+und done≤n)(hK0: ∀st,jt n to win (vis to win (f+1) v (done,ord)) st→K0 st):awp Try.prog tyT (Try.f70.body.getD .skip) (Jv K0) ⟨43,[(0, .int .i64 v),(1, .sl 0 [] 0 n 22),(2, .fn fT [.bp 1000003 0]),(3, .bp 1000000 0),(4, .bp 1000001 0),(5, .bp 1000002 0)],[(1000000,[.sl 16000000 [] 0 n 4]),(1000001,[.sl 2 [] 0 n 4]),(1000002,[.fn 70 [.bp 1000000 0, .bp 1000001 0, .bp 1000002 0]]),(1000003,[.sl 16000048 [] 0 ord.length 2])],[(0,⟨.sh,22,dII to,some 0⟩),(2,⟨.sh,4,dB win,some 2⟩),(16000000,⟨.ex,4,dB done,none⟩),(16000048,⟨.ex,2,dI ord,none⟩)]⟩:=by
 have htl:=hgr.tl
 have hrlv:=hrl v
 have hwl:=hgr.wl
 have hdl:=hI.len
 have hus:=Yv (by rw [hdl];exact hv) hvd
 have hFo:=fun k=>zCl hgr (Wp hgr f) (s:=(done,ord)) hI hv hvw hvd hf (us:=(gl to v).take k) (fun u hu=>List.mem_of_mem_take hu)
 have hvs:((vis to win (f+1) v (done,ord))=_):=Ue to win f v (done,ord)
 simp only at hvs
 refine zAp rfl ?_
 (try simp only [push_cast,↓zK,↓zJ,↓reduceIte,zA,zB,zC,zD,zE,zF,zG,zH,zI,reduceCtorEq])
 refine zL fun K hK=> ?_
 refine zM zQ zO [] rfl ?_
 simp only [push_cast,↓zK,↓zJ,↓reduceIte,zA,zB,zC,zD,zE,zF,zG,zH,zI,reduceCtorEq]
 repeat' apply And.intro
 all_goals try exact gB
 all_goals first|(refine hK _ ?_;clear hK K)|(simp only [push_cast];done)
 refine zL fun K1 hK1=> ?_
 refine zL fun K hK=> ?_
 refine zM zQ zO [] rfl ?_
 simp only [push_cast,↓zK,↓zJ,↓reduceIte,zA,zB,zC,zD,zE,zF,zG,zH,zI,reduceCtorEq]
 repeat' apply And.intro
 all_goals try exact gB
 all_goals first|(refine hK _ ?_;clear hK K)|(simp only [push_cast];done)
 refine zT ?_
 refine zh [10,11,12,13,19,20,21,22,23,24,25,26,27,28,29,30,31,32,33,34,35,36,37,38,39,1000003] [16000000,16000048] (fun(k:Nat)=> [(19, .int .i64 k)]) (fun k=> [(1000003,[.sl 16000048 [] 0 (((gl to v).take k).foldl (stV to win f) (done.set v true,ord)).2.length 2])]) (fun k=> [(16000000,⟨.ex,4,dB (((gl to v).take k).foldl (stV to win f) (done.set v true,ord)).1,none⟩),(16000048,⟨.ex,2,dI (((gl to v).take k).foldl (stV to win f) (done.set v true,ord)).2,none⟩)]) (fun k=>k≤(gl to v).length) (fun k=>(gl to v).length - k) 0 ?_ (by omega) ?_
 ·
  refine zX rfl ?_ ?_ ?_<;>simp only [zg,zf,push_cast,↓zK,↓zJ,↓reduceIte,zA,zB,zC,zD,zE,zF,zG,zH,zI,reduceCtorEq]
  all_goals(try simp only [List.foldl_nil])
  all_goals first|done|exact⟨trivial,trivial⟩
 ·rintro k hk KL0 hL0
  obtain⟨hF1,hF2,hF3,-⟩:=hFo k
  have hSl:=hF1.len
  have hSu:=hF2.un
  have hSr:=hF2.room
  simp only at hSl hSu hSr
  generalize hSk:((gl to v).take k).foldl (stV to win f) (done.set v true,ord)=sk at*
  obtain⟨sd,so⟩:=sk
  simp only at hSl hSu hSr hF1 hF2 hF3
  simp only [push_cast,↓zK,↓zJ,↓reduceIte,zA,zB,zC,zD,zE,zF,zG,zH,zI,reduceCtorEq]
  refine zL fun K hK=> ?_
  refine zM zQ zO [] rfl ?_
  simp only [push_cast,↓zK,↓zJ,↓reduceIte,zA,zB,zC,zD,zE,zF,zG,zH,zI,reduceCtorEq]
  repeat' apply And.intro
  all_goals try exact gB
  all_goals first|(refine hK _ ?_;clear hK K)|(simp only [push_cast];done)
  refine zL fun K2 hK2=> ?_
  refine zU rfl (fun hc=> ?_) (fun hc=> ?_)<;>(try simp only [push_cast]at hc)
  ·
   refine zV ?_
   (try simp only [zR,zS,reduceIte,zF]);refine hK2 _ ?_
   refine zL fun K3 hK3=> ?_
   refine zT ?_
   refine zL fun K hK=> ?_
   refine zM zQ zO [] rfl ?_
   simp only [push_cast,↓zK,↓zJ,↓reduceIte,zA,zB,zC,zD,zE,zF,zG,zH,zI,reduceCtorEq]
   repeat' apply And.intro
   all_goals try exact gB
   all_goals first|(refine hK _ ?_;clear hK K)|(simp only [push_cast];done)
   obtain⟨hu0,hu1⟩:=hgr.rng v (gi (gl to v) k) (Qc (by omega))
   by_cases hq:gb win (gi (gl to v) k).toNat=true∧gb sd (gi (gl to v) k).toNat=false
   ·
    refine zL fun K hK=> ?_
    refine za false zQ zO ?_ rfl ?_
    ·kernel_rfl
    all_goals simp only [push_cast,↓zK,↓zJ,↓reduceIte,zA,zB,zC,zD,zE,zF,zG,zH,zI,reduceCtorEq]
    all_goals repeat'(first|(apply zP<;>(intro hg;(try simp only [push_cast]at hg)))|apply And.intro|(intro hg;(try simp only [push_cast]at hg)))
    all_goals try exact gA
    all_goals first|(refine hK _ ?_;clear hK K)|(simp only [push_cast];done)
    all_goals first|exact absurd (hq.1.symm.trans hg) (by decide)|skip
    all_goals(
      refine zU rfl (fun hc=> ?_) (fun hc=> ?_)
      rotate_left
      ·exfalso;first|(cases hc;done)|(simp [hq.2]at hc;done)
      refine vk 106 (by kernel_rfl) (wj Try.prog tyT [(0,0),(2,2),(16000000,16000000),(16000048,16000048)] [(1000000,1000000),(1000001,1000001),(1000002,1000002),(1000003,1000003)] [16000000,16000048]) (ZQ zQ zO) 38 zQ zO [] rfl ?_
      all_goals simp only [push_cast,↓zK,↓zJ,↓reduceIte,zA,zB,zC,zD,zE,zF,zG,zH,zI,reduceCtorEq]
      all_goals repeat'(first|(apply zP<;>(intro hg;(try simp only [push_cast]at hg)))|apply And.intro|(intro hg;(try simp only [push_cast]at hg)))
      all_goals try exact gA
      refine XR (fn:=Try.f70) rfl (by kernel_rfl) Try.func70 (by kernel_rfl) rfl rfl (by rw [Try.ntmps70];exact Nat.le_of_ble_eq_true rfl) ?_
      rw [Try.ntmps70]
      simp only [push_cast,↓zK,↓zJ,↓reduceIte,zA,zB,zC,zD,zE,zF,zG,zH,zI,reduceCtorEq]
      have hcu:(((gi (gl to v) k).toNat:Nat):Int)=gi (gl to v) k:=Int.toNat_of_nonneg hu0
      have hV:=fun K=>hVis (gi (gl to v) k).toNat _ (sd,so) K hF1 (by omega) hq.1 hq.2 (by simp only;omega) (by simp only;omega)
      simp only [hcu]at hV
      refine hV _ fun st hP=> ?_
      obtain⟨p1,p2,p3,p4,p5,p6,p7,p8⟩:=hP
      simp only [p1,p2,p3,p4,p5,p6,p7,p8]
      simp only [push_cast,↓zK,↓zJ,↓reduceIte,zA,zB,zC,zD,zE,zF,zG,zH,zI,reduceCtorEq]
      first|refine⟨⟨⟨rfl,rfl⟩,⟨rfl,rfl⟩,rfl,rfl⟩,?_⟩|skip
      (try simp only [zR,zS,reduceIte,zF]);refine hK3 _ ?_
      refine zM zQ zO [] rfl ?_
      simp only [push_cast,↓zK,↓zJ,↓reduceIte,zA,zB,zC,zD,zE,zF,zG,zH,zI,reduceCtorEq]
      repeat' apply And.intro
      all_goals try exact gB
      have hS1:((gl to v).take (k+1)).foldl (stV to win f) (done.set v true,ord)=vis to win f (gi (gl to v) k).toNat (sd,so):=by rw [uV (by omega),hSk,Yu (s:=(sd,so)) hq.1 hq.2]
      refine hL0 _ ⟨k+1,by omega,by omega,?_⟩
      refine zX rfl ?_ ?_ ?_<;>simp only [zg,zf,push_cast,↓zK,↓zJ,↓reduceIte,zA,zB,zC,zD,zE,zF,zG,zH,zI,reduceCtorEq]
      all_goals first|(rw [hS1];done)|(rw [hS1];exact⟨rfl,rfl⟩))
   ·
    refine zL fun K hK=> ?_
    refine za false zQ zO ?_ rfl ?_
    ·kernel_rfl
    all_goals simp only [push_cast,↓zK,↓zJ,↓reduceIte,zA,zB,zC,zD,zE,zF,zG,zH,zI,reduceCtorEq]
    all_goals repeat'(first|(apply zP<;>(intro hg;(try simp only [push_cast]at hg)))|apply And.intro|(intro hg;(try simp only [push_cast]at hg)))
    all_goals try exact gA
    all_goals first|(refine hK _ ?_;clear hK K)|(simp only [push_cast];done)
    all_goals(
      refine zU rfl (fun hc=> ?_) (fun hc=> ?_)
      skip
      ·exfalso;first|(cases hc;done)|(exact hq ⟨hg,by simpa using hc⟩)
      refine zV ?_
      (try simp only [zR,zS,reduceIte,zF]);refine hK3 _ ?_
      refine zM zQ zO [] rfl ?_
      simp only [push_cast,↓zK,↓zJ,↓reduceIte,zA,zB,zC,zD,zE,zF,zG,zH,zI,reduceCtorEq]
      repeat' apply And.intro
      all_goals try exact gB
      have hS1:((gl to v).take (k+1)).foldl (stV to win f) (done.set v true,ord)=(sd,so):=by rw [uV (by omega),hSk,Qp (s:=(sd,so)) hq]
      refine hL0 _ ⟨k+1,by omega,by omega,?_⟩
      refine zX rfl ?_ ?_ ?_<;>simp only [zg,zf,push_cast,↓zK,↓zJ,↓reduceIte,zA,zB,zC,zD,zE,zF,zG,zH,zI,reduceCtorEq]
      all_goals first|(rw [hS1];done)|(rw [hS1];exact⟨rfl,rfl⟩))
  ·
   refine zm ?_
   (try simp only [zR,zS,reduceIte,zF]);refine hK1 _ ?_
   refine vk 106 (by kernel_rfl) (wj Try.prog tyT [(16000048,16000000)] [(1000003,1000000)] [16000048]) (ZQ zQ zO) 42 zQ zO [] rfl ?_
   all_goals simp only [push_cast,↓zK,↓zJ,↓reduceIte,zA,zB,zC,zD,zE,zF,zG,zH,zI,reduceCtorEq]
   all_goals repeat'(first|(apply zP<;>(intro hg;(try simp only [push_cast]at hg)))|apply And.intro|(intro hg;(try simp only [push_cast]at hg)))
   all_goals try exact gA
   obtain⟨fn,t1,t2,t3,t4,t5,t6⟩:=hT
   refine XR (fn:=fn) rfl (by kernel_rfl) t1 t2 t3 t4 t5 ?_
   simp only [push_cast,↓zK,↓zJ,↓reduceIte,zA,zB,zC,zD,zE,zF,zG,zH,zI,reduceCtorEq]
   have hT6:=fun K=>t6 v so K (by omega)
   unfold zIM at hT6
   refine hT6 _ fun st hP=> ?_
   obtain⟨p1,p2⟩:=hP
   simp only [p1,p2]
   simp only [push_cast,↓zK,↓zJ,↓reduceIte,zA,zB,zC,zD,zE,zF,zG,zH,zI,reduceCtorEq]
   first|refine⟨rfl,hK0 _ ?_⟩|skip
   have hS2:vis to win (f+1) v (done,ord)=(sd,so++ [(v:Int)]):=by rw [hvs,←List.take_of_length_le (l:=gl to v) (i:=k) (by omega),hSk]
   refine⟨Or.inr rfl,hK0 _ ?_⟩
   rw [hS2]
   unfold jt
   (try simp only [push_cast,↓zK,↓zJ,↓reduceIte,zA,zB,zC,zD,zE,zF,zG,zH,zI,reduceCtorEq])
   (try simp only [List.length_append,List.length_cons,List.length_nil])
theorem kr (n:Nat)(to:List (List Int))(win:List Bool)(fT:FuncId)(hgr:Gr n to win)(hn:n≤1000000)(hrl: ∀x,(gl to x).length≤1048576)(hT:Kf fT): ∀f,zEc n to win fT f
 |0=>fun v Γ s K hI hv hvw hvd hf hrm hK=>by
  have :=Yv (by rw [hI.len];exact hv) hvd
  omega
 |f+1=>fun v Γ s K hI hv hvw hvd hf hrm hK=>zEN n to win fT f hgr hn hrl hT (kr n to win fT hgr hn hrl hT f) v Γ s.1 s.2 K hI hv hvw hvd hf hrm hK
open Go.Shelf
def UJ :Go.Shelf.Ren:=⟨fun|6=>74|15=>85|14=>86|28=>99|29=>100|20=>101|21=>102|22=>103|23=>104|24=>105|25=>106|26=>107|27=>108|46=>116|47=>112|48=>113|49=>117|50=>118|57=>120|n=>n,fun|22=>23|24=>22|25=>110|3=>3|39=>92|0=>0|53=>129|55=>47|4=>4|46=>121|45=>120|50=>126|5=>5|9=>9|66=>137|70=>141|76=>145|77=>146|n=>n,fun|n=>n⟩
theorem Vx :Go.Proofs.SlLaysF.n6 Try.prog UJ:={
 mixed:=by kernel_rfl
 f6:=⟨Try.f74.name,by decide,Try.func74.trans (congrArg some (by kernel_rfl))⟩
 f14:=⟨Try.f86.name,by decide,Try.func86.trans (congrArg some (by kernel_rfl))⟩
 f15:=Try.func85.trans (congrArg some (by kernel_rfl))
 f20:=⟨Try.f101.name,by decide,Try.func101.trans (congrArg some (by kernel_rfl))⟩
 f21:=⟨Try.f102.name,by decide,Try.func102.trans (congrArg some (by kernel_rfl))⟩
 f22:=⟨Try.f103.name,by decide,Try.func103.trans (congrArg some (by kernel_rfl))⟩
 f23:=⟨Try.f104.name,by decide,Try.func104.trans (congrArg some (by kernel_rfl))⟩
 f24:=⟨Try.f105.name,by decide,Try.func105.trans (congrArg some (by kernel_rfl))⟩
 f25:=⟨Try.f106.name,by decide,Try.func106.trans (congrArg some (by kernel_rfl))⟩
 f26:=⟨Try.f107.name,by decide,Try.func107.trans (congrArg some (by kernel_rfl))⟩
 f27:=⟨Try.f108.name,by decide,Try.func108.trans (congrArg some (by kernel_rfl))⟩
 f28:=Try.func99.trans (congrArg some (by kernel_rfl))
 f29:=Try.func100.trans (congrArg some (by kernel_rfl))
 f46:=⟨Try.f116.name,by decide,Try.func116.trans (congrArg some (by kernel_rfl))⟩
 f47:=Try.func112.trans (congrArg some (by kernel_rfl))
 f48:=Try.func113.trans (congrArg some (by kernel_rfl))
 f49:=⟨Try.f117.name,by decide,Try.func117.trans (congrArg some (by kernel_rfl))⟩
 f50:=⟨Try.f118.name,by decide,Try.func118.trans (congrArg some (by kernel_rfl))⟩
 f57:=⟨Try.f120.name,by decide,Try.func120.trans (congrArg some (by kernel_rfl))⟩
 t0:=Try.underlying0
 a0:=Try.isAgg0
 z0:=Try.sizeOf0
 v0:=Try.zeroValue0
 t3:=Try.underlying3
 a3:=Try.isAgg3
 z3:=Try.sizeOf3
 v3:=Try.zeroValue3
 t4:=Try.underlying4
 a4:=Try.isAgg4
 z4:=Try.sizeOf4
 v4:=Try.zeroValue4
 t5:=Try.underlying5
 a5:=Try.isAgg5
 z5:=Try.sizeOf5
 v5:=Try.zeroValue5
 t9:=Try.underlying9
 a9:=Try.isAgg9
 z9:=Try.sizeOf9
 v9:=Try.zeroValue9
 t22:=Try.underlying23
 a22:=Try.isAgg23
 z22:=Try.sizeOf23
 v22:=Try.zeroValue23
 a24:=Try.isAgg22
 z24:=Try.sizeOf22
 t25:=Try.underlying110
 a25:=Try.isAgg110
 z25:=Try.sizeOf110
 v25:=Try.zeroValue110
 t39:=Try.underlying92
 a39:=Try.isAgg92
 z39:=Try.sizeOf92
 v39:=Try.zeroValue92
 t45:=Try.underlying120
 a45:=Try.isAgg120
 z45:=Try.sizeOf120
 v45:=Try.zeroValue120
 t46:=Try.underlying121
 a46:=Try.isAgg121
 z46:=Try.sizeOf121
 v46:=Try.zeroValue121
 t50:=Try.underlying126
 a50:=Try.isAgg126
 z50:=Try.sizeOf126
 v50:=Try.zeroValue126
 t53:=Try.underlying129
 a53:=Try.isAgg129
 z53:=Try.sizeOf129
 v53:=Try.zeroValue129
 t55:=Try.underlying47
 a55:=Try.isAgg47
 z55:=Try.sizeOf47
 v55:=Try.zeroValue47
 t66:=Try.underlying137
 a66:=Try.isAgg137
 z66:=Try.sizeOf137
 v66:=Try.zeroValue137
 t70:=Try.underlying141
 a70:=Try.isAgg141
 z70:=Try.sizeOf141
 v70:=Try.zeroValue141
 t76:=Try.underlying145
 a76:=Try.isAgg145
 z76:=Try.sizeOf145
 v76:=Try.zeroValue145
 t77:=Try.underlying146
 a77:=Try.isAgg146
 z77:=Try.sizeOf146
 v77:=Try.zeroValue146}
def zBk :Go.Shelf.Ren:=⟨fun|5=>87|7=>109|n=>n,fun|22=>2|3=>3|4=>4|n=>n,fun|n=>n⟩
theorem zIR :Go.Proofs.SlLaysC2.n5 Try.prog zBk:={
 mixed:=by kernel_rfl
 f5:=⟨Try.f87.name,by decide,Try.func87.trans (congrArg some (by kernel_rfl))⟩
 f7:=⟨Try.f109.name,by decide,Try.func109.trans (congrArg some (by kernel_rfl))⟩
 t3:=Try.underlying3
 a3:=Try.isAgg3
 z3:=Try.sizeOf3
 v3:=Try.zeroValue3
 t4:=Try.underlying4
 a4:=Try.isAgg4
 z4:=Try.sizeOf4
 v4:=Try.zeroValue4
 t22:=Try.underlying2
 a22:=Try.isAgg2
 z22:=Try.sizeOf2
 v22:=Try.zeroValue2}
end Go.Proofs.Ytggpbepdeilpgaa
