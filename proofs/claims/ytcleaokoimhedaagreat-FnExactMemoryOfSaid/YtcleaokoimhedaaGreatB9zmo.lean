/- A call whose callee is walked in place: the callee works in the caller's own state. -/
import Derived.Test.YtcleaokoimhedaaGreatGEzmo
namespace Go.Proofs.YtcleaokoimhedaaGreat
open Go.RowKit
set_option linter.unusedVariables false
set_option linter.unusedSimpArgs false
def jL :Nat→List AV→List (Nat×AV)
 |_,[]=> []
 |i,v::vs=>(i,v)::jL (i+1) vs
theorem zDL : ∀(vs:List AV) (i k:Nat) (v:AV),lk (jL i vs) k=some v→∃j,vs[j]? =some v∧k=i+j
 | [],i,k,v,h=>by simp [jL,lk]at h
 |u::vs,i,k,v,h=>by
  simp only [jL,zi]at h
  split at h
  ·rename_i e
   cases h
   exact⟨0,rfl,by omega⟩
  ·obtain⟨j,h1,h2⟩:=zDL vs (i+1) k v h
   exact⟨j+1,by simpa using h1,by omega⟩
def VJ :Nat→Bool:=fun _=>true
def Yl (T:Nat):Nat→Bool:=fun t=>t==T||t==1000000
def othB (T:Nat):Nat→Bool:=fun t=> !(t==T)
def covR (r':List (Nat×zq)):List (Nat×zq)→Prop
 | []=>True
 |(d,R)::l=>(lk r' d=some R∧R.pin=none)∧covR r' l
theorem jG {r':List (Nat×zq)}: ∀{l:List (Nat×zq)},covR r' l→∀d R,lk l d=some R→lk r' d=some R∧R.pin=none
 | [],_,d,R,h=>by simp [lk]at h
 |(k,R0)::l,h,d,R,hl=>by
  rw [zi]at hl
  split at hl
  ·rename_i e;subst e;cases hl;exact h.1
  ·exact jG h.2 d R hl
def zGa (r:List (Nat×zq)):Bool:=r.all fun x=>match x.2.pin with|some i=>i !=999999|none=>true
def RetI (τ:Ty)(rs:List ResultVar)(K:AV→List AV→List (Nat×zq)→Prop)(e:Exit)(st:St):Prop:=(e= .ret∨e= .normal)∧
 match zo τ st rs,lk st.b 1000000 with
 |some (vs,ob),some cs=>ob∧∃r,covR st.r r∧K (qJ vs) cs r
 |_,_=>False
def un (T:Nat)(st:St)(cs:List AV)(r:List (Nat×zq)):St:=⟨st.n,vx (AV.kill VJ (othB T)) st.s,[(T,AV.killL noB VJ cs)],r⟩
def Wj (n T:Nat)(vs cells:List AV)(st:St):St:=⟨n,jL 0 (AV.killL noB (Yl T) vs),(1000000,AV.killL noB (Yl T) cells)::vx (AV.killL noB (Yl T)) (rm (Yl T) st.b),st.r⟩
def WF (P:Program)(τ:Ty)(T:Nat)(o:Oper)(K:St→Prop)(st:St):Prop:=
 match yH o,lk st.b T with
 |some (f,args,_),some cells=>T≠1000000∧zGa st.r=true∧∃(fn:Func) (rs:List ResultVar),P.funcs[f]? =some fn∧(fn.name== "runtime.NumGoroutine")=false∧fn.body.isSome=true∧fn.results=rs.toArray∧args.toList.length≤fn.ntmps∧
   awp P τ (fn.body.getD .skip) (RetI τ rs fun v cs r=>K ((un T st cs r).put o.dst (AV.kill noB VJ v))) (Wj fn.ntmps T (args.toList.map (ev st)) cells st)
 |_,_=>False
theorem zGx {P:Program}{τ:Ty}{T:Nat}{o:Oper}{K:St→Prop}{st:St}{fn:Func}{rs:List ResultVar}{f:FuncId}{args:Array Operand}{ts:Array TypeId}{cells:List AV}(h1:yH o=some (f,args,ts))(h2:lk st.b T=some cells)(h3:T≠1000000)(h4:zGa st.r=true)(h5:P.funcs[f]? =some fn)(h6:(fn.name== "runtime.NumGoroutine")=false)(h7:fn.body.isSome=true)(h8:fn.results=rs.toArray)(h9:args.toList.length≤fn.ntmps)
  (h:awp P τ (fn.body.getD .skip) (RetI τ rs fun v cs r=>K ((un T st cs r).put o.dst (AV.kill noB VJ v))) (Wj fn.ntmps T (args.toList.map (ev st)) cells st)):WF P τ T o K st:=by
 unfold WF
 rw [h1,h2]
 exact⟨h3,h4,fn,rs,h5,h6,h7,h8,h9,h⟩
theorem zNN {P:Program}{τ:Ty}{fn:Func}{c:Code}{Q:Exit→St→Prop}{st:St}(hb:fn.body=some c)(h:awp P τ c Q st):awp P τ (fn.body.getD .skip) Q st:=by rw [hb];exact h
section
variable {P:Program} {τ:Ty} {lo:Nat} {w0:Fz} {st:St} {a:Act} {w:World}
theorem zCR (hτ:zz P τ)(hpos:yW τ){T:Nat}{o:Oper}{K:St→Prop}{Q:Exit→Act→World→Prop}{K':Act→World→Prop}(hd: ∀k,o.dst=some k→k<a.tmps.size)(h:Rel τ lo w0 st a w)(ha:WF P τ T o K st)
  (hK: ∀st' x w',K st'→Rel τ lo w0 st' (a.put o.dst x) w'→K' (a.put o.dst x) w'):o.wp P a w K' Q:=by
 obtain⟨ow,hd',bk,hr⟩:=h
 unfold WF at ha
 split at ha
 rotate_left
 ·exact ha.elim
 rename_i f args ts cells hc hT
 obtain⟨hT6,hpin,fn,rs,hfn,hname,hb,hres,hn,hbody⟩:=ha
 obtain⟨bcs,bty,g1,g2,g3⟩:=hr.box T cells hT
 have hglt:bk T<w.heap.size:=(Array.getElem?_eq_some_iff.1 g1).1
 have hpinD: ∀d R i,lk st.r d=some R→R.pin=some i→i≠999999:=fun d R i hR hi=>by
  have :=List.all_eq_true.1 hpin _ (WW hR)
  simp only [hi]at this
  simpa using this
 have hev:ze τ w st.r st.b hd' bk (args.toList.map (ev st)) (args.toList.map a.eval):=zp.2 ⟨by simp,fun i v x hv hx=>by
  rw [List.getElem?_map]at hv hx
  cases hk:args.toList[i]? with
  |none=>rw [hk]at hv;cases hv
  |some p=>rw [hk]at hv hx;cases hv;cases hx;exact zk hr p⟩
 generalize hvs:args.toList.map a.eval=vs at hev
 have hvl:vs.length=args.toList.length:=by rw [←hvs,List.length_map]
 -- the callee's frame,owners and boxes
 obtain⟨w1,hw1⟩: ∃w1:Fz,w1=⟨w0.w,w0.kp,fun i=>if i=999999 then some (.pointer (some ⟨bk T,0,none⟩))else w0.pin i⟩:=⟨_,rfl⟩
 have hkeep1: ∀{w},xR w0 w→xR w1 w:=fun h=>by subst hw1;exact⟨h.os,h.tape,h.output,h.size,h.block⟩
 have hkeep0: ∀{w},xR w1 w→xR w0 w:=fun h=>by subst hw1;exact⟨h.os,h.tape,h.output,h.size,h.block⟩
 have hfre: ∀b,w1.fre b↔w0.fre b:=fun b=>by subst hw1;exact Iff.rfl
 obtain⟨bk1,hbk1⟩: ∃f:Nat→Nat,f=upd bk 1000000 (bk T):=⟨_,rfl⟩
 have hboxes: ∀t cs,lk (Wj fn.ntmps T (args.toList.map (ev st)) cells st).b t=some cs→(t=1000000∧cs=AV.killL noB (Yl T) cells)∨(t≠1000000∧t≠T∧∃cs0,lk st.b t=some cs0∧cs=AV.killL noB (Yl T) cs0):=fun t cs h=>by
  have h2:lk ((1000000,AV.killL noB (Yl T) cells)::vx (AV.killL noB (Yl T)) (rm (Yl T) st.b)) t=some cs:=h
  rw [zi]at h2
  split at h2
  ·rename_i e
   cases h2
   exact .inl ⟨e.symm,rfl⟩
  ·rename_i e
   rw [yC,xU]at h2
   by_cases h3:Yl T t=true
   ·rw [if_pos h3]at h2;cases h2
   ·rw [if_neg h3]at h2
    have h4:t≠T:=fun e=>h3 (by subst e;simp [Yl])
    cases hx:lk st.b t with
    |none=>rw [hx]at h2;cases h2
    |some cs0=>rw [hx]at h2;cases h2;exact .inr ⟨fun e2=>e e2.symm,h4,cs0,rfl,rfl⟩
 have hB: ∀t,Yl T t=false→xK st.b (Wj fn.ntmps T (args.toList.map (ev st)) cells st).b bk bk1 t:=fun t ht ⟨cs,hcs⟩=>by
  have h1:t≠1000000:=fun e=>by subst e;simp [Yl]at ht
  rcases hboxes t cs hcs with⟨e,-⟩|⟨-,-,cs0,h2,-⟩
  ·exact absurd e h1
  ·exact⟨⟨cs0,h2⟩,by rw [hbk1];exact yo _ _ h1⟩
 have hDs: ∀d,noB d=false→xL w w st.r st.r hd' hd' d:=fun d _ R hR=>⟨R,hR,rfl,fun p hp=>⟨hp,rfl⟩⟩
 have hown1: ∀(m:Md) b,rel m (ow b)→upd ow (bk T) (some (.box 1000000)) b=ow b:=fun m b hrl=>by
  by_cases e:b=bk T
  ·subst e
   rw [g2]at hrl
   cases m<;>simp [rel]at hrl
  ·exact yo _ _ e
 have hstart:Rel τ lo w1 (Wj fn.ntmps T (args.toList.map (ev st)) cells st) {tmps:=vs.toArray++Array.replicate (fn.ntmps - vs.toArray.size) undef,defers:= []} w:=by
  refine⟨upd ow (bk T) (some (.box 1000000)),hd',bk1,fun j ad hj had=> ?_,rfl,?_,hr.low,hkeep1 hr.below,fun b p hlt hb hp=> ?_,fun b hb=> ?_,fun k v hv=> ?_,fun d R hR=> ?_,fun t cs hcs=> ?_,fun d R i hR hi=> ?_⟩
  ·subst hw1
   by_cases e:j=0
   ·subst e
    simp only [Nat.add_zero,if_true]at had
    cases had
    rw [hbk1]
    exact yB _ _ _
   ·simp only [if_neg (show ¬999999+j=999999 from by omega)]at had
    rw [hbk1,yo _ _ (by omega)]
    exact hr.big j ad hj had
  ·show(vs.toArray++Array.replicate (fn.ntmps - vs.toArray.size) undef).size=fn.ntmps
   simp only [Array.size_append,List.size_toArray,Array.size_replicate]
   omega
  ·by_cases e:b=bk T
   ·subst e
    have :=hr.ge _ _ hglt g2 (by simp)
    exact⟨this.1,(hfre _).2 this.2⟩
   ·rw [yo _ _ e]at hb
    have :=hr.ge b p hlt hb hp
    exact⟨this.1,(hfre _).2 this.2⟩
  ·rw [yo _ _ (by omega)]
   exact hr.new b hb
  ·obtain⟨j,hj,hkj⟩:=zDL _ _ _ _ hv
   rw [Nat.zero_add]at hkj
   subst hkj
   have hevk:=yE (τ:=τ) hDs hB _ _ hev
   obtain⟨h1,h2⟩:=zp.1 hevk
   have hlt:k<vs.length:=by rw [h1];exact(List.getElem?_eq_some_iff.1 hj).1
   have hget:(vs.toArray++Array.replicate (fn.ntmps - vs.toArray.size) undef).getD k undef=vs[k]:=by
    rw [Array.getD_eq_getD_getElem?,Array.getElem?_append_left (by simpa using hlt)]
    simp [hlt]
   show AvR τ w st.r _ hd' bk1 v ((vs.toArray++Array.replicate (fn.ntmps - vs.toArray.size) undef).getD k undef)
   rw [hget]
   exact h2 k v _ hj (List.getElem?_eq_getElem hlt)
  ·exact yM _ _ (Nat.le_refl _) _ _ _ (fun b hb hrl=>⟨rfl,hown1 _ b hrl⟩) (hr.root d R hR)
  ·rcases hboxes t cs hcs with⟨rfl,rfl⟩|⟨h1,h2,cs0,h3,rfl⟩
   ·exact⟨bcs,bty,by rw [hbk1,yB];exact g1,by rw [hbk1,yB,yB],yE hDs hB _ _ g3⟩
   ·obtain⟨ds,dty,q1,q2,q3⟩:=hr.box t cs0 h3
    have hne:bk t≠bk T:=fun e=>by
     rw [e,g2]at q2
     cases q2
     exact h2 rfl
    exact⟨ds,dty,by rw [hbk1,yo _ _ h1];exact q1,by rw [hbk1,yo _ _ h1,yo _ _ hne];exact q2,yE hDs hB _ _ q3⟩
  ·subst hw1
   have :=hpinD d R i hR hi
   simp only [if_neg this]
   exact hr.pin d R i hR hi
 have hC:Calls P f vs.toArray w (fun e w'=> ∃z,e= .returned z∧∃st',K st'∧Rel τ lo w0 st' (a.put o.dst z) w'):=by
  obtain⟨c,hbc⟩:=Option.isSome_iff_exists.1 hb
  have hget:fn.body.getD .skip=c:=by rw [hbc];rfl
  rw [hget]at hbody
  refine calls_of_wp hfn hbc (Go.wp_mono (hbody lo w1 _ w hstart) fun e a' w' ⟨st',⟨ow2,hd2,bk2,hr2⟩,he,hret⟩=> ?_)
  have hpost:a'.defers= []∧∃v,(results fn a'.tmps).run P w'= .ok v w'∧(∃z,Ending.returned v= .returned z∧∃st',K st'∧Rel τ lo w0 st' (a.put o.dst z) w'):=by
   split at hret
   ·rename_i avs ob0 cs hrv hcs
    obtain⟨hob0,r,hcov,hK0⟩:=hret
    obtain⟨xs,hrun,hv⟩:=vU hτ hpos hr2 hres hrv hob0
    refine⟨hr2.defers,_,hrun,_,rfl,_,hK0,?_⟩
    have hbig:bk2 1000000=bk T:=hr2.big 0 ⟨bk T,0,none⟩ (by decide) (by subst hw1;simp)
    obtain⟨ds,dty,q1,q2,q3⟩:=hr2.box 1000000 cs hcs
    rw [hbig]at q1 q2
    have hown2: ∀(m:Md) b,rel m (ow2 b)→upd ow2 (bk T) (some (.box T)) b=ow2 b:=fun m b hrl=>by
     by_cases e:b=bk T
     ·subst e
      rw [q2]at hrl
      cases m<;>simp [rel]at hrl
     ·exact yo _ _ e
    have hsz:w.heap.size≤w'.heap.size∨True:= .inr trivial
    have hlt2:bk T<w'.heap.size:=(Array.getElem?_eq_some_iff.1 q1).1
    have hD2: ∀d,noB d=false→xL w' w' st'.r r hd2 hd2 d:=fun d _ R hR=>⟨R,(jG hcov d R hR).1,rfl,fun p hp=>⟨hp,rfl⟩⟩
    have hB2: ∀t,VJ t=false→xK st'.b (un T st cs r).b bk2 bk t:=fun t h=>by cases h
    have hback:zl τ lo w0 (upd ow2 (bk T) (some (.box T))) hd2 bk (un T st cs r) a w':=by
     refine⟨hr.big,hr.defers,hr.size,hr2.low,hkeep0 hr2.below,fun b p hlt hb hp=> ?_,fun b hb=> ?_,fun k v hv=> ?_,fun d R hR=> ?_,fun t us hus=> ?_,fun d R i hR hi=> ?_⟩
     ·by_cases e:b=bk T
      ·subst e
       exact hr.ge _ _ hglt g2 (by simp)
      ·rw [yo _ _ e]at hb
       have :=hr2.ge b p hlt hb hp
       exact⟨this.1,(hfre _).1 this.2⟩
     ·rw [yo _ _ (by omega)]
      exact hr2.new b hb
     ·have hv2:lk (vx (AV.kill VJ (othB T)) st.s) k=some v:=hv
      rw [yC]at hv2
      cases hk:lk st.s k with
      |none=>rw [hk]at hv2;cases hv2
      |some v0=>
       rw [hk]at hv2
       cases hv2
       refine xE (fun d h=>(by cases h)) (fun t h=> ?_) v0 _ (hr.slot k v0 hk)
       have e:t=T:=by simpa [othB]using h
       subst e
       exact fun _=>⟨⟨cells,hT⟩,rfl⟩
     ·exact yM _ _ (Nat.le_refl _) _ _ _ (fun b hb hrl=>⟨rfl,hown2 _ b hrl⟩) (hr2.root d R (jG hcov d R hR).1)
     ·have hus2:lk [(T,AV.killL noB VJ cs)] t=some us:=hus
      rw [zi]at hus2
      split at hus2
      ·rename_i e
       subst e
       cases hus2
       exact⟨ds,dty,q1,yB _ _ _,yE hD2 hB2 _ _ q3⟩
      ·cases hus2
     ·rw [(jG hcov d R hR).2]at hi
      cases hi
    exact xQ hback hd (xE hD2 hB2 _ _ (QE hv))
   ·exact hret.elim
  rcases he with rfl|rfl<;>exact hpost
 unfold Oper.wp
 rw [YZ hr hc ⟨fn,hfn,hname,by cases hbb:fn.body with|none=>rw [hbb]at hb;cases hb|some c=>rfl⟩,hvs]
 simp only [Oper.upon]
 refine hC.mono fun e w' hpost=> ?_
 obtain⟨z,rfl,st',hK1,hrel⟩:=hpost
 exact hK _ z w' hK1 hrel
def Wy (P:Program)(τ:Ty)(al:List Nat)(t T:Nat)(K:St→Prop):List Oper→St→Prop
 | [],st=>K st
 |o::os,st=>
  match o.guard with
  |none=>
   match mkF o with
   |some (f,caps)=>Wy P τ al t T K os (st.put o.dst (.fn f (caps.map (ev st))))
   |none=>if o.dst=some t then WF P τ T o (Wy P τ al t T K os) st else aop P τ al o (Wy P τ al t T K os) st
  |some (j,want)=>False
theorem XE (hτ:zz P τ)(hpos:yW τ){al:List Nat}{t T:Nat}{all:List Oper}{K:St→Prop}{Q:Exit→Act→World→Prop}(hQ: ∀st a w,K st→Rel τ lo w0 st a w→Q .normal a w):
  ∀(os:List Oper) (st:St) (a:Act) (w:World),yv a.tmps.size os=true→Rel τ lo w0 st a w→Wy P τ al t T K os st→wpList P all.toArray Q os a w
 | [],st,a,w,_,h,ha=>wpList_nil (hQ st a w ha h)
 |o::os,st,a,w,hd,h,ha=>by
  have hd1: ∀k,o.dst=some k→k<a.tmps.size:=fun k hk=>by
   have :=List.all_eq_true.1 hd o (by simp)
   rw [hk]at this
   simpa using this
  have hd2:yv a.tmps.size os=true:=List.all_eq_true.2 fun x hx=>List.all_eq_true.1 hd x (by simp [hx])
  refine wpList_step fun K' hK'=> ?_
  simp only [Wy]at ha
  split at ha
  ·rename_i hg
   rw [if_pos (by simp [Region.wanted,hg])]
   split at ha
   ·rename_i f caps hm
    obtain⟨ow,hd',bk,hr⟩:=h
    obtain⟨z,hz,hv⟩:=Kh (P:=P) hr hm
    unfold Oper.wp
    rw [hz]
    exact hK' _ _ (XE hτ hpos hQ os _ _ w (by rw [yw];exact hd2) (xQ hr hd1 hv) ha)
   ·split at ha
    ·exact zCR hτ hpos hd1 h ha fun st' x w' h2 h3=>hK' _ _ (XE hτ hpos hQ os st' _ w' (by rw [yw];exact hd2) h3 h2)
    ·exact wo hτ hpos hd1 h ha fun st' x w' h2 h3=>hK' _ _ (XE hτ hpos hQ os st' _ w' (by rw [yw];exact hd2) h3 h2)
  ·exact ha.elim
end
theorem zEN {P:Program}{τ:Ty}{Q:Exit→St→Prop}{st:St}(t T:Nat)(hτ:zz P τ)(hpos:yW τ)(al:List Nat){id:Nat}{ops:List Oper}(hd:yv st.n ops=true)(h:Wy P τ al t T (Q .normal) ops st):awp P τ (.region id ops.toArray false) Q st:=fun lo w0 a w hr=>by
 have hn:a.tmps.size=st.n:=by obtain⟨ow,hd,bk,h⟩:=hr;exact h.size
 refine wp_region_lit (XE hτ hpos (fun st a w h1 h2=>⟨st,h2,h1⟩) ops st a w (by rw [hn];exact hd) hr h)
mutual
def AV.rnb (t T:Nat):AV→AV
 | .int k n=> .int k n
 | .bool b=> .bool b
 | .sl d p off len e=> .sl d p off len e
 | .nil=> .nil
 | .ep d p i=> .ep d p i
 | .bp k i=>if k=t then .bp T i else if k=T then .dead else .bp k i
 | .agg vs=> .agg (AV.rnbL t T vs)
 | .tup vs=> .tup (AV.rnbL t T vs)
 | .fn f vs=> .fn f (AV.rnbL t T vs)
 | .dead=> .dead
 | .raw u=> .raw u
def AV.rnbL (t T:Nat):List AV→List AV
 | []=> []
 |v::vs=>AV.rnb t T v::AV.rnbL t T vs
end
def Kr (t T:Nat):List (Nat×List AV)→List (Nat×List AV)
 | []=> []
 |(k,vs)::l=>(if k=t then T else k,AV.rnbL t T vs)::Kr t T l
def St.renB (t T:Nat)(st:St):St:=⟨st.n,vx (AV.rnb t T) st.s,Kr t T st.b,st.r⟩
theorem zAO {t T:Nat}(hne:t≠T): ∀{l:List (Nat×List AV)} {k:Nat} {cs:List AV},lk l T=none→lk (Kr t T l) k=some cs→(k=T∧∃cs0,lk l t=some cs0∧cs=AV.rnbL t T cs0)∨(k≠T∧k≠t∧∃cs0,lk l k=some cs0∧cs=AV.rnbL t T cs0)
 | [],k,cs,_,h=>by simp [Kr,lk]at h
 |(j,vs)::l,k,cs,hn,h=>by
  rw [zi]at hn
  split at hn
  ·cases hn
  rename_i hjT
  simp only [Kr,zi]at h
  by_cases hj:j=t
  ·rw [if_pos hj]at h
   split at h
   ·rename_i e
    cases h
    exact .inl ⟨e.symm,vs,by rw [zi,if_pos hj],rfl⟩
   ·rename_i e
    rcases zAO hne hn h with⟨e1,-⟩|⟨h1,h2,cs0,h3,h4⟩
    ·exact absurd e1.symm e
    ·exact .inr ⟨h1,h2,cs0,by rw [zi,if_neg (fun e2=>h2 (by rw [←e2,hj]))];exact h3,h4⟩
  ·rw [if_neg hj]at h
   split at h
   ·rename_i e
    cases h
    exact .inr ⟨fun e2=>hjT (e.trans e2),fun e2=>hj (e.trans e2),vs,by rw [zi,if_pos e],rfl⟩
   ·rename_i e
    rcases zAO hne hn h with⟨e1,cs0,h3,h4⟩|⟨h1,h2,cs0,h3,h4⟩
    ·exact .inl ⟨e1,cs0,by rw [zi,if_neg hj];exact h3,h4⟩
    ·exact .inr ⟨h1,h2,cs0,by rw [zi,if_neg e];exact h3,h4⟩
section
variable {P:Program} {τ:Ty} {lo:Nat} {w0:Fz} {st:St} {w:World} {rr:List (Nat×zq)} {bb bb':List (Nat×List AV)} {hd:Nat→Value} {bk bk':Nat→Nat} {t T:Nat}
mutual
theorem zEs (h1:(∃cs,lk bb' T=some cs)→(∃cs,lk bb t=some cs)∧bk' T=bk t)(h2: ∀k,k≠t→k≠T→(∃cs,lk bb' k=some cs)→(∃cs,lk bb k=some cs)∧bk' k=bk k): ∀(v:AV) (x:Value),AvR τ w rr bb hd bk v x→AvR τ w rr bb' hd bk' (v.rnb t T) x
 | .int k n,x,h=>by simpa only [AV.rnb,AvR]using h
 | .bool b,x,h=>by simpa only [AV.rnb,AvR]using h
 | .sl d p off len e,x,h=>by simpa only [AV.rnb,AvR]using h
 | .nil,x,h=>by simpa only [AV.rnb,AvR]using h
 | .ep d p i,x,h=>by simpa only [AV.rnb,AvR]using h
 | .bp k i,x,h=>by
  simp only [AV.rnb]
  split
  ·rename_i e
   subst e
   simp only [AvR]at h⊢
   exact⟨h.1,fun hl=>by rw [(h1 hl).2];exact h.2 (h1 hl).1⟩
  ·rename_i e
   split
   ·simp only [AvR]
   ·rename_i e2
    simp only [AvR]at h⊢
    exact⟨h.1,fun hl=>by rw [(h2 k e e2 hl).2];exact h.2 (h2 k e e2 hl).1⟩
 | .agg vs,x,h=>by
  simp only [AV.rnb,AvR]at h⊢
  obtain⟨cs,e,h⟩:=h
  exact⟨cs,e,Yn h1 h2 vs cs h⟩
 | .tup vs,x,h=>by
  simp only [AV.rnb,AvR]at h⊢
  obtain⟨cs,e,h⟩:=h
  exact⟨cs,e,Yn h1 h2 vs cs h⟩
 | .fn f vs,x,h=>by
  simp only [AV.rnb,AvR]at h⊢
  obtain⟨cs,e,h⟩:=h
  exact⟨cs,e,Yn h1 h2 vs cs h⟩
 | .dead,x,h=>by simp only [AV.rnb,AvR]
 | .raw u,x,h=>by simpa only [AV.rnb,AvR]using h
theorem Yn (h1:(∃cs,lk bb' T=some cs)→(∃cs,lk bb t=some cs)∧bk' T=bk t)(h2: ∀k,k≠t→k≠T→(∃cs,lk bb' k=some cs)→(∃cs,lk bb k=some cs)∧bk' k=bk k): ∀(vs:List AV) (xs:List Value),ze τ w rr bb hd bk vs xs→ze τ w rr bb' hd bk' (AV.rnbL t T vs) xs
 | [],xs,h=>by simpa only [AV.rnbL,ze]using h
 |v::vs,xs,h=>by
  simp only [AV.rnbL,ze]at h⊢
  obtain⟨x,xs',e,h3,h4⟩:=h
  exact⟨x,xs',e,zEs h1 h2 v x h3,Yn h1 h2 vs xs' h4⟩
end
theorem zIy (t T:Nat){c:Code}{Q:Exit→St→Prop}(hn:(t==T||decide (1000000≤T)||t==1000000)=false)(hT:lk st.b T=none)(h:awp P τ c Q (st.renB t T)):awp P τ c Q st:=fun lo w0 a w hr=>by
 obtain⟨ow,hd,bk,hr⟩:=hr
 simp only [Bool.or_eq_false_iff,beq_eq_false_iff_ne,decide_eq_false_iff_not]at hn
 obtain⟨⟨n1,n2⟩,n3⟩:=hn
 have hsh:=fun{k cs} h=>zAO n1 (l:=st.b) (k:=k) (cs:=cs) hT h
 have h1:(∃cs,lk (Kr t T st.b) T=some cs)→(∃cs,lk st.b t=some cs)∧upd bk T (bk t) T=bk t:=fun⟨cs,hcs⟩=>by
  rcases hsh hcs with⟨-,cs0,h3,-⟩|⟨h1,-⟩
  ·exact⟨⟨cs0,h3⟩,yB _ _ _⟩
  ·exact absurd rfl h1
 have h2: ∀k,k≠t→k≠T→(∃cs,lk (Kr t T st.b) k=some cs)→(∃cs,lk st.b k=some cs)∧upd bk T (bk t) k=bk k:=fun k hkt hkT ⟨cs,hcs⟩=>by
  rcases hsh hcs with⟨e,-⟩|⟨-,-,cs0,h3,-⟩
  ·exact absurd e hkT
  ·exact⟨⟨cs0,h3⟩,yo _ _ hkT⟩
 obtain⟨ow',how⟩: ∃f:Nat→Option Pl,f=fun b=>match ow b with|some (.box k)=>if k=t then some (.box T)else some (.box k)|p=>p:=⟨_,rfl⟩
 have hsame: ∀(m:Md) b,rel m (ow b)→ow' b=ow b:=fun m b hrl=>by
  rw [how]
  simp only
  split
  ·rename_i e
   rw [e]at hrl
   cases m<;>simp [rel]at hrl
  ·rfl
 refine h lo w0 a w ⟨ow',hd,upd bk T (bk t),fun j ad hj had=> ?_,hr.defers,hr.size,hr.low,hr.below,fun b p hlt hb hp=> ?_,fun b hb=> ?_,fun k v hv=> ?_,fun d R hR=> ?_,fun k cs hcs=> ?_,hr.pin⟩
 ·rw [yo _ _ (by omega)]
  exact hr.big j ad hj had
 ·rw [how]at hb
  simp only at hb
  split at hb
  ·rename_i e
   exact hr.ge b _ hlt e (by simp)
  ·exact hr.ge b p hlt hb hp
 ·rw [how]
  simp only [hr.new b hb]
 ·have hv2:lk (vx (AV.rnb t T) st.s) k=some v:=hv
  rw [yC]at hv2
  cases hk:lk st.s k with
  |none=>rw [hk]at hv2;cases hv2
  |some v0=>rw [hk]at hv2;cases hv2;exact zEs h1 h2 v0 _ (hr.slot k v0 hk)
 ·exact yM _ _ (Nat.le_refl _) _ _ _ (fun b hb hrl=>⟨rfl,hsame _ b hrl⟩) (hr.root d R hR)
 ·rcases hsh hcs with⟨rfl,cs0,h3,rfl⟩|⟨e1,e2,cs0,h3,rfl⟩
  ·obtain⟨ds,dty,q1,q2,q3⟩:=hr.box t cs0 h3
   exact⟨ds,dty,by rw [yB];exact q1,by rw [yB,how];simp only [q2];rfl,Yn h1 h2 _ _ q3⟩
  ·obtain⟨ds,dty,q1,q2,q3⟩:=hr.box k cs0 h3
   refine⟨ds,dty,by rw [yo _ _ e1];exact q1,?_,Yn h1 h2 _ _ q3⟩
   rw [yo _ _ e1,how]
   simp only
   rw [q2]
   exact if_neg e2
end
attribute [push_cast] AV.rnb AV.rnbL Kr St.renB
attribute [push_cast] Wy jL Wj un VJ Yl othB covR zGa
section
variable {P:Program} {np:Bool} {τ:Ty} {lo:Nat} {w0:Fz} {ow:Nat→Option Pl} {hd:Nat→Value} {bk:Nat→Nat} {st:St} {a:Act} {w:World}
def Jf (τ:Ty)(st:St):List Nat→List AV→Prop
 | [],us=>us= []
 |_::_,[]=>False
 |i::pm,u::us=>(match u with
  | .sl d [] 0 len e=>d=zc 0 i∧(match lk st.r d with|some R=>R.pin=some d∧R.e=e∧len*sz τ e=R.xs.length|none=>False)∧0<sz τ e
  |_=>False)∧Jf τ st pm us
theorem kT (h:zl τ lo w0 ow hd bk st a w){pin:Nat→Value}(hpin: ∀id,w0.pin id=some (pin id)): ∀{pm:List Nat} {us:List AV} {cs:List Value},Jf τ st pm us→ze τ w st.r st.b hd bk us cs→cs.length=pm.length∧∀(i j:Nat) (c:Value),pm[i]? =some j→cs[i]? =some c→c=pin (zc 0 j)
 | [],us,cs,ho,hv=>by
  simp only [Jf]at ho
  subst ho
  simp only [ze]at hv
  subst hv
  exact⟨rfl,fun i j c h=>by simp at h⟩
 |j0::pm,[],cs,ho,hv=>by simp only [Jf]at ho
 |j0::pm,u::us,cs,ho,hv=>by
  simp only [ze]at hv
  obtain⟨c0,cs',rfl,h1,h2⟩:=hv
  simp only [Jf]at ho
  obtain⟨k1,k2⟩:=kT h hpin ho.2 h2
  refine⟨by simp [k1],fun i j c hj hc=> ?_⟩
  cases i with
  |succ i=>exact k2 i j c (by simpa using hj) (by simpa using hc)
  |zero=>
   simp at hc hj
   subst hc;subst hj
   have ho1:=ho.1
   split at ho1
   ·rename_i d len e
    obtain⟨rfl,q1,q2⟩:=ho1
    split at q1
    ·rename_i R hR
     obtain⟨p1,p2,p3⟩:=q1
     simp only [AvR]at h1
     obtain⟨-,hx⟩:=h1
     obtain⟨hv2,hin,A,n,c,A',c',hnw,e1,e2,hle,hlc,hmx,hf0,hA⟩:=hx R hR (by simp [zn])
     simp only [yK,Option.some.injEq]at hin
     obtain⟨rfl,rfl⟩:=hf0 rfl
     have hp:=h.pin _ R _ hR p1
     rw [hpin]at hp
     have hp':pin (zc 0 j0)=hd (zc 0 j0):=Option.some.inj hp
     have hroot:=h.root _ R hR
     rw [hin,e1]at hroot
     obtain⟨A2,n2,c2,hf,hlen,-⟩:=xI hroot
     cases hf
     rw [p2]at hlen
     have :len=n:=Nat.eq_of_mul_eq_mul_right q2 (by omega)
     subst this
     rw [hp',hin,e1,e2]
    ·exact q1.elim
   ·exact ho1.elim
def RetT (τ:Ty)(rs:List ResultVar)(pm:List Nat)(ress:List D)(e:Exit)(st:St):Prop:=(e= .ret∨e= .normal)∧
 match zo τ st rs with
 |some ([.agg us],ob)=>ob∧pm.length≤us.length∧Jf τ st pm (us.take pm.length)∧(match vV τ st ress (us.drop pm.length)with|some (is,ob2)=>XN is=true∧ob2|none=>False)
 |_=>False
theorem zMb (hτ:zz P τ)(hpos:yW τ){f:FuncId}{fn:Func}{c:Code}{rs:List ResultVar}{ds0:List D}{args:List VT}{pm:List Nat}{ress:List D}(hfn:P.funcs[f]? =some fn)(hname:(fn.name== "runtime.NumGoroutine")=false)(hb:fn.body=some c)(hres:fn.results=rs.toArray)(hn:(.agg ds0::args:List VT).length≤fn.ntmps)(hfew:few (.agg ds0::args)=true)(hs:szA τ (.agg ds0::args))(hm:(pm.all fun i=>decide (i<ds0.length))=true)
  (h:awp P τ c (RetT τ rs pm ress) (wt τ fn.ntmps (.agg ds0::args))):FnT P τ f (.agg ds0::args) pm ress:=by
 refine⟨⟨fn,hfn,hname,by rw [hb];rfl⟩,fun w cargs hargs=> ?_⟩
 have hstart:Rel τ w.heap.size _ (wt τ fn.ntmps (.agg ds0::args)) {tmps:=cargs.toArray++Array.replicate (fn.ntmps - cargs.toArray.size) undef,defers:= []} w:=⟨_,_,_,zCZ hs hfew hn hargs⟩
 obtain⟨v0,vs0,hc0,⟨cs0,rfl,hr0⟩,-⟩:=id hargs
 refine calls_of_wp hfn hb (Go.wp_mono (h w.heap.size _ _ w hstart) fun e a' w' ⟨st',⟨ow,hd,bk,hr⟩,he,hret0⟩=> ?_)
 have hpost:a'.defers= []∧∃v,(results fn a'.tmps).run P w'= .ok v w'∧zFr τ w pm ress cargs (.returned v) w':=by
  split at hret0
  ·rename_i us ob0 hrv
   obtain⟨hob0,hml,hsh,hret⟩:=hret0
   obtain⟨xs,hrun,hv⟩:=vU hτ hpos hr hres hrv hob0
   simp only [ze,AvR]at hv
   obtain⟨x,xs',rfl,⟨cs,rfl,hcs⟩,rfl⟩:=hv
   refine⟨hr.defers,_,hrun,?_⟩
   obtain⟨s1,s2⟩:=uQ pm.length hcs
   obtain⟨p1,p2⟩:=kT hr (fun id=>rfl) hsh s1
   split at hret
   ·rename_i is ob hcells
    obtain⟨m1,m2⟩:=vQ hr hcells hret.2 hret.1 s2
    have hlen0:cs0.length=ds0.length:=by
     have key: ∀(ds:List D) (cs:List Value),RpS (sz τ) w.heap.size w (fun _=>none) ds cs→cs.length=ds.length:=by
      intro ds
      induction ds with
      |nil=>intro cs h;simp only [RpS]at h;subst h;rfl
      |cons d ds ih=>intro cs h;simp only [RpS]at h;obtain⟨c,cs',rfl,-,h2⟩:=h;simp [ih cs' h2]
     exact key _ _ hr0
    have htake:cs.take pm.length=Ze pm undef cs0:=by
     refine List.ext_getElem? fun i=> ?_
     rcases Nat.lt_or_ge i pm.length with hi|hi
     ·have hu:(cs.take pm.length)[i]? =some ((cs.take pm.length)[i]'(by omega)):=List.getElem?_eq_getElem _
      have hpi:pm[i]? =some pm[i]:=List.getElem?_eq_getElem hi
      have :=p2 i _ _ hpi hu
      have hlt:pm[i]<ds0.length:=by simpa using List.all_eq_true.1 hm pm[i] (List.getElem_mem hi)
      have hsel:(Ze pm undef cs0)[i]? =some (cs0.getD pm[i] undef):=by unfold Ze;rw [List.getElem?_map,hpi];rfl
      rw [hu,this,hsel]
      have h16:ds0.length≤16:=by exact of_decide_eq_true (List.all_eq_true.1 hfew (.agg ds0) (by simp))
      have e1:zc 0 pm[i] / 16=0:=by unfold zc;omega
      have e2:zc 0 pm[i]%16=pm[i]:=by unfold zc;omega
      simp only [yO,e1,e2,hc0,List.getElem?_cons_zero]
      have hic:pm[i]<cs0.length:=by omega
      rw [List.getD_eq_getElem?_getD,List.getElem?_eq_getElem hic]
      simp [hic]
     ·rw [List.getElem?_eq_none (by omega),List.getElem?_eq_none (by unfold Ze;rw [List.length_map];exact hi)]
    refine⟨cs0,cs.drop pm.length,xV ow is,by rw [hc0];rfl,by rw [←htake,List.take_append_drop];rfl,⟨hr.below.os,hr.below.tape,hr.below.output,hr.below.size,fun b hb=>hr.below.block b hb trivial⟩,fun b hlt=> ?_,fun b p hp=> ?_,zGu m1 fun i d c hd hc=>by rw [Nat.zero_add];exact m2 i d c hd hc⟩
    ·unfold xV
     split
     ·rename_i d q ho
      have :=(hr.ge b _ (by have :=hr.below.size;simp only at this;omega) ho (by simp)).1
      omega
     ·rfl
    ·unfold xV at hp
     split at hp
     ·rename_i d q ho
      split at hp
      ·cases hp
       refine⟨?_,by simp⟩
       rcases Nat.lt_or_ge b w'.heap.size with h'|h'
       ·exact h'
       ·rw [hr.new b h']at ho;cases ho
      ·cases hp
     ·cases hp
   ·exact hret.elim
  ·exact hret0.elim
 rcases he with rfl|rfl<;>exact hpost
def uf (P:Program)(τ:Ty)(o:Oper)(st:St)(K:Dl→Prop):Prop:=
 match yH o with
 |some (f,args,ts)=>
  match yu τ st ts.toList (args.toList.map (ev st)),args.toList.map (ev st)with
  |some (as9,ob), .agg us::_=>ob∧∃pm ress,FnT P τ f as9 pm ress∧(pm.all fun i=>decide (i<us.length))=true∧szL τ ress∧ress.length≤16∧K ⟨.agg (Ze pm .dead us++yd τ (zw o) 0 ress),vA (zw o) 0 ress,[],[]⟩
  |_,_=>False
 |none=>False
theorem zAw {o:Oper}{K:Dl→Prop}(h:uf P τ o st K): ∃δ,qT P np τ o st δ∧K δ:=by
 unfold uf at h
 cases hc:yH o with
 |none=>rw [hc]at h;exact h.elim
 |some x=>
  obtain⟨f,args,ts⟩:=x
  rw [hc]at h
  simp only at h
  split at h
  ·rename_i as9 ob us vs hargs hevs
   obtain⟨hob,pm,ress,h1,h2,h3,h4,h5⟩:=h
   refine⟨_, .inr (.inl ?_),h5⟩
   unfold kW
   rw [hc]
   simp only
   rw [hargs,hevs]
   exact⟨hob,pm,ress,h1,fun i hi=>by simpa using List.all_eq_true.1 h2 i hi,h3,h4,rfl⟩
  ·exact h.elim
theorem zCd (hτ:zz P τ)(hpos:yW τ)(hmix:P.follows .mixedOrders=true){A:List (List Nat)}{Q:Exit→St→Prop}{id:Nat}{ops:List Oper}(hs:Yj np ops A=true)(hd:yv st.n ops=true)(hlex':kw P np τ ops A (fun st'=> ∃s,Eqv st' s∧Q .normal s) ops 0 [] (st.start np ops)):awp P τ (.region id ops.toArray true) Q st:=fun lo w0 a w hr=>by
 simp only [Yj,Bool.and_eq_true]at hs
 obtain⟨h1,h2,h3⟩:=hs
 have hn:a.tmps.size=st.n:=by obtain⟨ow,hd,bk,h⟩:=hr;exact h.size
 have hrc:Rel τ lo w0 (st.clean np ops) a {w with drawn:=w.drawn+1}:=by
  obtain⟨ow,hd,bk,h⟩:=kc hr (fun d=>((ops.filter (yj np)).map zw).contains (d / 16)) (fun t=>((ops.filter (yj np)).map zw).contains t)
  exact⟨ow,hd,bk,Jz h⟩
 have hr':Rel τ lo w0 (st.start np ops) a {w with drawn:=w.drawn+1}:=by
  unfold St.start
  split
  ·exact Up hrc
  ·exact hrc
 have hpf:np=true→PF (st.start np ops):=fun e=>by unfold St.start;rw [if_pos e];exact Qi _
 refine wp_region_any hmix ?_
 have hany:=Qa (fun st st' he ⟨s,h1,h2⟩=>⟨s,he.symm.trans h1,h2⟩) h1 ops 0 [] (Array.replicate ops.length false) _ (by simp) (fun j o _ hj=>by
  rw [Array.getD_eq_getD_getElem?,Array.getElem?_replicate]at hj
  split at hj<;>simp at hj) h3 hlex'
 have :=YU (Q':=fun e a' w'=> ∃st',Rel τ lo w0 st' a' w'∧Q e st') hτ hpos h2 (fun st' a w ⟨s,he,hq⟩ hr=>⟨s,xg hr he.cov,hq⟩) ops.length [] (Array.replicate ops.length false) (st.start np ops) a {w with drawn:=w.drawn+1} (by rw [hn];exact hd) (fun j o ho _ hm=>by
  have hfc:yR (own (zw o)) (st.clean np ops):=by
   refine Xg (fun d hdt=> ?_) (YJ ho hm)
   rw [hdt];exact YJ ho hm
  unfold St.start
  split
  ·exact kg hfc
  ·exact hfc) hpf hr' hany
 simpa using this
end
def xw (st:St)(ls:List yy):St:={st with r:=Xx ls st.r}
section
variable {P:Program} {np:Bool} {τ:Ty} {lo:Nat} {w0:Fz} {ow:Nat→Option Pl} {hd:Nat→Value} {bk:Nat→Nat} {st:St} {a:Act} {w:World}
theorem zBh (h:zl τ lo w0 ow hd bk st a w){vs:List AV}{cv:List Value}(hv:ze τ w st.r st.b hd bk vs cv){own:List Nat}{outs:List Out}{ls:List yy}{ob2:Prop}
  (hbad: ∀d,(∃x∈ls,x.d=d)→YO d st) (hl:xv τ st vs outs own=some (ls,ob2)) (hob2:ob2) (hsep:vE ls) (hnd:own.Nodup) {t:Nat} {w':World} {ow':Nat→Option Pl}
  (hk:xR ⟨w,fun b=>yx ow ls b=none,fun _=>none⟩ w') (hlow: ∀b,b<w.heap.size→yx ow ls b=none→ow' b=none) (hnew: ∀b p,ow' b=some p→b<w'.heap.size∧lo≤b∧∃d q,p= .root d q)
  (hout: ∀x∈outs,Rp (sz τ) lo w' ow' (.ex (ZW x.1) []) (.lst x.2.1 x.2.2) (yO cv x.1)):
  zl τ lo w0 (xP ow ls w.heap.size t ow') hd bk (xw st ls) a w':=by
 obtain⟨l1,l2⟩:=Xw hl hob2
 have hok: ∀x∈ls,∃len R,uR τ st vs outs x len R:=fun x hx=>by
  obtain⟨ob,e1,e2⟩:=l1 x hx;exact KY e1 e2
 have hids:(ls.map (·.id)).Nodup:=by rw [l2];exact hnd
 have old: ∀b,b<w.heap.size→yx ow ls b=none→w'.heap[b]? =w.heap[b]? ∧xP ow ls w.heap.size t ow' b=ow b:=fun b hb hn=>
  ⟨hk.block b hb hn,by unfold xP;rw [if_pos ⟨hb,by rw [hn];rfl⟩]⟩
 have back: ∀x∈ls,∀b q,ow' b=some (.root (ZW x.id) q)→xP ow ls w.heap.size t ow' b=some (.root x.d (x.p++q)):=fun x hx b q hb=>by
  have : ¬(b<w.heap.size∧(yx ow ls b).isNone=true):=fun⟨h1,h2⟩=>by
   rw [hlow b h1 (by cases ho:yx ow ls b with|none=>rfl|some p=>rw [ho]at h2;cases h2)]at hb;cases hb
  unfold xP
  rw [if_neg this,hb]
  simp only
  rw [if_pos (by unfold ZW;omega),show ZW x.id - 1000000=x.id from by unfold ZW;omega]
  exact ke hids x hx
 have hge: ∀b p,xP ow ls w.heap.size t ow' b=some p→p≠ .ext→b<w'.heap.size→lo≤b∧w0.fre b:=fun b p hb hp hlt=>by
  by_cases hc:b<w.heap.size∧(yx ow ls b).isNone=true
  ·unfold xP at hb;rw [if_pos hc]at hb;exact h.ge b p hc.1 hb hp
  ·unfold xP at hb
   rw [if_neg hc]at hb
   have ho': ∃p',ow' b=some p':=by
    cases ho:ow' b with
    |none=>rw [ho]at hb;cases hb
    |some p'=>exact⟨p',rfl⟩
   obtain⟨p',ho'⟩:=ho'
   refine⟨(hnew b p' ho').2.1,fun hlt0=> ?_⟩
   have hbw:b<w.heap.size:=Nat.lt_of_lt_of_le hlt0 h.below.size
   cases hoi:yx ow ls b with
   |none=>exact absurd ⟨hbw,by rw [hoi];rfl⟩ hc
   |some p2=>
    obtain⟨d,q,ho,-⟩:=qR hoi
    exact(h.ge b _ hbw ho (by simp)).2 hlt0
 have hc:=h
 have hr: ∀d,lk (xw st ls).r d=if vy d ls=true then none else(lk st.r d).map fun R=>{R with xs:=qX d R.xs ls}:=fun d=>Qs ls st.r d
 have hrel: ∀(d:Nat) (R:zq),(∀x∈ls,x.d≠d)→∀b,b<w.heap.size→rel (md R.o d) (ow b)→w'.heap[b]? =w.heap[b]? ∧xP ow ls w.heap.size t ow' b=ow b:=fun d R hn b hb hr=>old b hb (JW hn hr)
 have h0: ∀d,(∃x∈ls,x.d=d)→Wq st.r (xw st ls).r hd hd d:=fun d _ R' hR'=>by
  rw [hr]at hR'
  split at hR'
  ·cases hR'
  ·cases hx:lk st.r d with
   |none=>rw [hx]at hR';cases hR'
   |some R=>exact⟨R,rfl,rfl⟩
 have hD: ∀d,¬(∃x∈ls,x.d=d)→xL w w' st.r (xw st ls).r hd hd d:=fun d hn R' hR'=>by
  have hn': ∀x∈ls,x.d≠d:=fun x hx e=>hn ⟨x,hx,e⟩
  rw [hr,ku hn']at hR'
  simp only [Bool.false_eq_true,if_false]at hR'
  cases hx:lk st.r d with
  |none=>rw [hx]at hR';cases hR'
  |some R=>
   rw [hx]at hR'
   simp only [Option.map_some,Option.some.injEq]at hR'
   subst hR'
   refine⟨R,rfl,rfl,fun p hp=> ?_⟩
   simp only [Qv hn']at hp⊢
   exact⟨hp,xu p _ _ _ _ (h.root d R hx) hp (fun b o A n c hb hrl hcell=>by
    rw [qp (hrel d R hn' b hb hrl).1];exact hcell)⟩
 have hB: ∀t,xK st.b (xw st ls).b bk bk t:=fun t hl=>⟨hl,rfl⟩
 refine⟨h.big,h.defers,h.size,Nat.le_trans h.low hk.size,h.below.step hk.os hk.tape hk.output hk.size (fun b hb hf=> ?_),fun b p hlt hb hp=>hge b p hb hp hlt,fun b hb=> ?_,fun k v hv'=> ?_,fun d R' hR'=> ?_,fun k us hv'=> ?_,fun d R' i hR' hp=> ?_⟩
 ·refine hk.block b hb ?_
  show yx ow ls b=none
  cases hoi:yx ow ls b with
  |none=>rfl
  |some p=>
   obtain⟨d,q,ho,-⟩:=qR hoi
   exact absurd (h.ge b _ hb ho (by simp)).2 hf
 ·have hb':w.heap.size≤b:=Nat.le_trans hk.size hb
  unfold xP
  rw [if_neg (fun hh=>by omega)]
  cases ho:ow' b with
  |none=>rfl
  |some p=>have :=(hnew b p ho).1;omega
 ·exact Ju h0 hD hB v _ (fun d hd' hb=>(hbad d hb).s k v hv' hd') (hc.slot k v hv')
 ·rw [hr]at hR'
  split at hR'
  ·cases hR'
  ·rename_i hg
   have hg:vy d ls=false:=by simpa using hg
   cases hx:lk st.r d with
   |none=>rw [hx]at hR';cases hR'
   |some R=>
    rw [hx]at hR'
    simp only [Option.map_some,Option.some.injEq]at hR'
    subst hR'
    by_cases hin: ∃x∈ls,x.d=d
    ·have hex:R.o= .ex:=by
      obtain⟨x,hxm,rfl⟩:=hin
      obtain⟨len,R2,ho⟩:=hok x hxm
      have :=ho.root;rw [hx]at this;cases this
      exact ho.ex
     simp only [hex]
     by_cases hroot: ∃x∈ls,x.d=d∧x.p= []
     ·obtain⟨x,hxm,rfl,hp⟩:=hroot
      obtain⟨ys,hys⟩:=JH hg x hxm rfl
      obtain⟨len,R2,ho⟩:=hok x hxm
      have :=ho.root;rw [hx]at this;cases this
      obtain⟨q1,-⟩:=Qq h hv ho
      rw [hp]at q1
      simp only [yK,Option.some.injEq]at q1
      have he:=ho.elem
      rw [hp]at he
      simp only [vJ]at he
      simp only [JS hsep x hxm rfl hp hys]
      have :=hout _ (ho.out ys hys)
      simp only at this
      rw [←q1,←he]at this
      exact qN _ _ _ _ _ [] [] _ (fun b q _ hb=>by
       have :=back x hxm b q (by simpa using hb)
       rw [hp]at this
       simpa using this) this
     ·have hone: ∀x∈ls,x.d=d→∃j ys,x.p= [j]∧x.out=some ys:=fun x hxm e=>by
       obtain⟨len,R2,ho⟩:=hok x hxm
       rcases ho.short with hs|hs
       ·exact absurd ⟨x,hxm,e,hs⟩ hroot
       ·exact hs
      have hone': ∀x∈ls,x.d=d→∃j,x.p= [j]:=fun x hxm e=>by obtain⟨j,ys,h1,-⟩:=hone x hxm e;exact⟨j,h1⟩
      have hrt:=h.root d R hx
      rw [hex]at hrt
      obtain⟨zs,k1,k5⟩:=(zy _ _).1 hrt
      have hlen:(qX d R.xs ls).length=R.xs.length:=VO hone'
      have hnil: ∀b,ow b=some (.root d [])→yx ow ls b=none:=fun b hb=>by
       cases hoi:yx ow ls b with
       |none=>rfl
       |some p=>
        obtain⟨d',q,h1,x,hxm,h2,q',h3,-⟩:=qR hoi
        rw [hb]at h1;cases h1
        obtain⟨j,hj⟩:=hone' x hxm h2
        rw [hj]at h3;simp at h3
      have k1':Hd (sz τ) lo w' (xP ow ls w.heap.size t ow') (.ex d []) R.e (hd d) R.xs.length zs:=by
       obtain⟨m1,N,m2,m3,m4⟩:=k1
       refine⟨m1,N,m2,⟨m3.1,?_⟩,fun b hb=> ?_⟩
       ·rcases m3.2 with hn|⟨g,cap,cur,hv2,hb2,hg2,rest⟩
        ·exact .inl hn
        ·have hgo:=m4 g (by rw [hv2];rfl)
         have hglt:g<w.heap.size:=(Array.getElem?_eq_some_iff.1 hg2).1
         exact .inr ⟨g,cap,cur,hv2,hb2,by rw [(old g hglt (hnil g hgo)).1];exact hg2,rest⟩
       ·have hgo:=m4 b hb
        rw [(old b (m3.lt b hb).2 (hnil b hgo)).2];exact hgo
      refine(zy _ _).2 ⟨zs,by rw [hlen];exact k1',fun i y u hy hu=> ?_⟩
      have hi:i<R.xs.length:=by rw [←hlen];exact(List.getElem?_eq_some_iff.1 hy).1
      by_cases hsel: ∃x∈ls,x.d=d∧x.p= [i]
      ·obtain⟨x,hxm,rfl,hp⟩:=hsel
       obtain⟨j,ys,hj,hys⟩:=hone x hxm rfl
       obtain⟨len,R2,ho⟩:=hok x hxm
       have :=ho.root;rw [hx]at this;cases this
       rw [kz hi hsep hone' x hxm rfl hp hys]at hy
       cases hy
       obtain⟨q1,-⟩:=Qq h hv ho
       rw [hp]at q1
       obtain⟨b1,o1,n1,c1,hv',hN,hb1,hr1,hc1⟩:=qM k1 hu
       rw [hv']at q1
       simp only [yK,hc1,Option.bind_some,Option.some.injEq]at q1
       have :=hout _ (ho.out ys hys)
       simp only at this
       rw [←q1]at this
       refine qN _ _ _ _ _ [] ([]++ [i]) _ (fun b q _ hb=> ?_) this
       have :=back x hxm b q (by simpa using hb)
       rw [hp]at this
       simpa using this
      ·rw [Ki (fun x hxm e=>by
        obtain⟨j,hj⟩:=hone' x hxm e
        exact⟨j,hj,fun e2=>hsel ⟨x,hxm,e,by rw [hj,e2]⟩⟩)]at hy
       refine yM _ _ hk.size _ _ _ (fun b hb hr=>old b hb ?_) (k5 i y u hy hu)
       obtain⟨q,hq⟩:=hr
       cases hoi:yx ow ls b with
       |none=>rfl
       |some p=>
        obtain⟨d',q',h1,x,hxm,h2,q2,h3,-⟩:=qR hoi
        rw [hq]at h1
        simp only [Option.some.injEq,Pl.root.injEq,List.nil_append]at h1
        obtain⟨rfl,rfl⟩:=h1
        obtain⟨j,hj⟩:=hone' x hxm h2
        rw [hj]at h3
        simp only [List.cons_append,List.nil_append,List.cons.injEq]at h3
        exact absurd ⟨x,hxm,h2,by rw [hj,h3.1]⟩ hsel
    ·have hn': ∀x∈ls,x.d≠d:=fun x hx e=>hin ⟨x,hx,e⟩
     simp only [Qv hn']
     exact yM _ _ hk.size _ _ _ (fun b hb hr=>hrel d R hn' b hb hr) (h.root d R hx)
 ·obtain⟨cs,ty,q1,q2,q3⟩:=hc.box k us hv'
  have hlt:bk k<w.heap.size:=(Array.getElem?_eq_some_iff.1 q1).1
  have hno:yx ow ls (bk k)=none:=by unfold yx;rw [q2]
  exact⟨cs,ty,by rw [(old _ hlt hno).1];exact q1,by rw [(old _ hlt hno).2];exact q2,ZI h0 hD hB us cs (fun d hd' hb=>(hbad d hb).b k us hv' hd') q3⟩
 ·rw [hr]at hR'
  split at hR'
  ·cases hR'
  ·cases hx:lk st.r d with
   |none=>rw [hx]at hR';cases hR'
   |some R=>
    rw [hx]at hR'
    simp only [Option.map_some,Option.some.injEq]at hR'
    subst hR'
    exact h.pin d R i hx hp
theorem Kp (h:zl τ lo w0 ow hd bk st a w){vs:List AV}{cv:List Value}(hv:ze τ w st.r st.b hd bk vs cv){own:List Nat}{outs:List Out}{ls:List yy}{ob2:Prop}
  (hbad: ∀d,(∃x∈ls,x.d=d)→YO d st) (hl:xv τ st vs outs own=some (ls,ob2)) (hob2:ob2) (hsep:vE ls) (hnd:own.Nodup) {t:Nat} {ress:List VT} (hs:szL τ (zr ress)) (hfl:(zr ress).length≤1000000) {e:Ending} {w':World} (hp:zBo τ lo w (yx ow ls) outs ress cv e w'):
  ∃z ow' hd',e= .returned z∧zl τ lo w0 ow' hd' bk (yf t 0 (zr ress) (xw st ls)) a w'∧AvR τ w' (yf t 0 (zr ress) (xw st ls)).r (yf t 0 (zr ress) (xw st ls)).b hd' bk (qJ (xO τ t 0 ress)) z:=by
 obtain⟨rs,ow',he,hk,hlow,hnew,hres,hout⟩:=hp
 have h1:=zBh h hv hbad hl hob2 hsep hnd (t:=t) hk hlow hnew hout
 have e2: ∀b j q,j<1000000→ow' b=some (.root j q)→xP ow ls w.heap.size t ow' b=some (.root (zc t j) q):=fun b j q hj hq=>by
  have : ¬(b<w.heap.size∧(yx ow ls b).isNone=true):=fun⟨h1,h2⟩=>by
   rw [hlow b h1 (by cases ho:yx ow ls b with|none=>rfl|some p=>rw [ho]at h2;cases h2)]at hq;cases hq
  unfold xP
  rw [if_neg this,hq]
  simp only
  rw [if_neg (by omega)]
 obtain⟨cs,k1,k2,k3⟩:=XV (bk:=bk) (τ:=τ) (rr:=(yf t 0 (zr ress) (xw st ls)).r) (bb:=(yf t 0 (zr ress) (xw st ls)).b) (t:=t) hres
 have k2': ∀(i:Nat) (d:D) (c:Value),(zr ress)[i]? =some d→cs[i]? =some c→Rp (sz τ) lo w' (xP ow ls w.heap.size t ow') (.ex (zc t (0+i)) []) d c:=fun i d c hd hc=>by
  have hi:i<1000000:=Nat.lt_of_lt_of_le (List.getElem?_eq_some_iff.1 hd).1 hfl
  exact qN _ _ _ _ _ [] [] _ (fun b q _ e=>e2 b _ q (by omega) e) (k2 i d c hd hc)
 obtain⟨hd',r1,r2,r3⟩:=QD t (zr ress) 0 (xw st ls) hd cs h1 k1 k2'
 exact⟨wc rs,_,hd',he,r1,QE (k3 w' hd' (vL (ow:=xP ow ls w.heap.size t ow') (lo:=lo) t (zr ress) 0 cs k1 hs (fun i d c h1 h2=>⟨_,k2' i d c h1 h2⟩) (fun i e xs c h1 h2=>(r3 i e xs c h1 h2).2)))⟩
def ud (P:Program)(τ:Ty)(id:Nat)(o:Oper)(st:St)(K:Dl→Prop):Prop:=
 match yH o with
 |some (f,args,ts)=>
  match yu τ st ts.toList (args.toList.map (ev st)),wV (args.toList.map (ev st)) id with
  |some (as9,ob), .sl d [] 0 len e=>
   match lk st.r d with
   |some R=>R.o.isEx=true∧(0<sz τ e∧R.e=e∧len*sz τ e=R.xs.length)∧(ZD [id] 0 (args.toList.map (ev st))).all (fun n=> !(2*d==n))=true∧few as9=true∧ob∧∃k n ys,FnG P τ f as9 [id] [(id,e,ys)] [.c (.int k n)]∧K ⟨.int k n,[(d,{R with xs:=ys})],[],[]⟩
   |none=>False
  |_,_=>False
 |none=>False
theorem zG9 {vs:List AV}{id d len:Nat}{e:TypeId}(h:wV vs id= .sl d [] 0 len e):2*d∈AV.nmL vs:=by
 unfold wV at h
 have get: ∀(us:List AV) (i:Nat),us.getD i .dead= .sl d [] 0 len e→AV.sl d [] 0 len e∈us:=fun us i h=>by
  rw [List.getD_eq_getElem?_getD]at h
  cases hu:us[i]? with
  |none=>rw [hu]at h;cases h
  |some u=>rw [hu]at h;simp only [Option.getD_some]at h;subst h;exact List.mem_of_getElem? hu
 have top: ∀(us:List AV) (i:Nat) (v:AV),us.getD i .dead=v→v≠ .dead→v∈us:=fun us i v h hn=>by
  rw [List.getD_eq_getElem?_getD]at h
  cases hu:us[i]? with
  |none=>rw [hu]at h;exact absurd h.symm hn
  |some u=>rw [hu]at h;simp only [Option.getD_some]at h;subst h;exact List.mem_of_getElem? hu
 split at h
 ·rename_i us hv
  exact yG.2 ⟨_,top _ _ _ hv (by simp),by simp only [AV.nm];exact yG.2 ⟨_,get _ _ h,by simp [AV.nm]⟩⟩
 ·rename_i f us hv
  exact yG.2 ⟨_,top _ _ _ hv (by simp),by simp only [AV.nm];exact yG.2 ⟨_,get _ _ h,by simp [AV.nm]⟩⟩
 ·split at h
  ·exact yG.2 ⟨_,get _ _ h,by simp [AV.nm]⟩
  ·cases h
theorem zAv {id:Nat}{o:Oper}{K:Dl→Prop}(h:ud P τ id o st K): ∃δ,qT P true τ o st δ∧K δ:=by
 unfold ud at h
 cases hc:yH o with
 |none=>rw [hc]at h;exact h.elim
 |some x=>
  obtain⟨f,args,ts⟩:=x
  rw [hc]at h
  simp only at h
  split at h
  rotate_left
  ·exact h.elim
  rename_i as9 ob d len e hargs hcell
  split at h
  rotate_left
  ·exact h.elim
  rename_i R hR
  obtain⟨h1,⟨h2,h3,h4⟩,h5,h6,h7,k,n,ys,hF,hK⟩:=h
  have hex:R.o= .ex:=by cases ho:R.o<;>rw [ho]at h1<;>first|rfl|cases h1
  have hin:2*d∈fp o st:=by
   obtain⟨v,hv,hm⟩:=yG.1 (zG9 hcell)
   obtain⟨x,hx,rfl⟩:=List.mem_map.1 hv
   exact List.mem_append_left _ (yG.2 ⟨_,List.mem_map.2 ⟨x,vG hc x (by simpa using hx),rfl⟩,hm⟩)
  refine⟨_, .inl ⟨trivial,trivial, .inl ⟨k,n,rfl⟩,rfl,rfl, .inr ⟨d,{R with xs:=ys},R,rfl,hR,rfl,hin⟩,fun st' hag hpf lo w0 a w Q K' hdn hrel hK'=> ?_⟩,hK⟩
  have h2v:AgV st st' (.agg (args.toList.map (ev st))):=by
   refine⟨fun d hd=> ?_,fun t ht=> ?_⟩
   ·obtain⟨v,hv,hm⟩:=yG.1 hd
    obtain⟨x,hx,rfl⟩:=List.mem_map.1 hv
    exact(hag.v (vG hc x (by simpa using hx))).1 d hm
   ·obtain⟨v,hv,hm⟩:=yG.1 ht
    obtain⟨x,hx,rfl⟩:=List.mem_map.1 hv
    exact(hag.v (vG hc x (by simpa using hx))).2 t hm
  have hargs':yu τ st' ts.toList (args.toList.map (ev st'))=some (as9,ob):=by rw [hag.args hc,Qc h2v];exact hargs
  have hcell':wV (args.toList.map (ev st')) id= .sl d [] 0 len e:=by rw [hag.args hc];exact hcell
  have hR':lk st'.r d=some R:=by rw [hag.r d hin];exact hR
  have hlend:xv τ st' (args.toList.map (ev st')) [(id,e,ys)] [id]=some ([⟨id,d,[],e,some ys⟩],(R.e=e∧len*sz τ e=R.xs.length∧e=e)∧True):=by
   simp only [xv,Qp,hcell',hR',h1,h2,je,if_true,and_self]
  have hap:apart (ZD [id] 0 (args.toList.map (ev st'))) [⟨id,d,[],e,some ys⟩]=true:=by
   unfold apart
   rw [hag.args hc]
   rw [List.all_eq_true]at h5⊢
   intro n hn
   have :=h5 n hn
   simpa using this
  have hob2:(R.e=e∧len*sz τ e=R.xs.length∧e=e)∧True:=⟨⟨h3,h4,rfl⟩,trivial⟩
  have hsep:vE [(⟨id,d,[],e,some ys⟩:yy)]:=⟨trivial,trivial⟩
  obtain⟨ow,hd',bk,hr⟩:=hrel
  have hev:ze τ w st'.r st'.b hd' bk (args.toList.map (ev st')) (args.toList.map a.eval):=zp.2 ⟨by simp,fun i v x hv hx=>by
   rw [List.getElem?_map]at hv hx
   cases hk:args.toList[i]? with
   |none=>rw [hk]at hv;cases hv
   |some p=>rw [hk]at hv hx;cases hv;cases hx;exact zk hr p⟩
  have hA:=Vg hr hev hargs' h7 hlend hob2 hsep hap h6
  obtain⟨hcl,hcall⟩:=hF
  have hC:=hcall lo w (yx ow [⟨id,d,[],e,some ys⟩]) _ hr.low (fun b p hb=>by
   obtain⟨d,q,ho,x,hx,-,q',-,hp⟩:=qR hb
   have hlt:b<w.heap.size:=by
    rcases Nat.lt_or_ge b w.heap.size with h'|h'
    ·exact h'
    ·rw [hr.new b h']at ho;cases ho
   exact⟨hlt,(hr.ge b _ hlt ho (by simp)).1,_,_,hp⟩) hA
  unfold Oper.wp
  rw [YZ hr hc hcl]
  simp only [Oper.upon]
  refine hC.mono fun e' w' hpost=> ?_
  have hbad9: ∀d9,(∃x∈ [(⟨id,d,[],e,some ys⟩:yy)],x.d=d9)→YO d9 st':=fun d9 ⟨x,hx,e9⟩=>by
   simp only [List.mem_singleton]at hx
   subst hx
   subst e9
   exact hpf rfl d R hR' (by cases ho:R.o<;>rw [ho]at h1<;>first|rfl|cases h1)
  obtain⟨z,ow',hd2,he,r1,r2⟩:=Kp hr hev hbad9 hlend hob2 hsep (by simp) (t:=zw o) (by simp [szL,zr,VT.cells]) (by simp [zr,VT.cells]) hpost
  subst he
  have hrel:=xQ r1 hdn r2
  refine hK' z w' (xg hrel ⟨?_,fun k2 v hv=> .inr ?_,fun k2 us hus=> ?_,fun k2 R2 hR2=> ?_⟩)
  ·rw [jE,zGd];rfl
  ·rw [Zo]at hv
   cases hdd:o.dst with
   |none=>rw [hdd]at hv;simpa [St.put,yf,zr,VT.cells,xw]using hv
   |some d0=>
    rw [hdd]at hv
    simp only [St.put,zi,yf,zr,VT.cells,xw,xO,yd,qJ,List.append_nil,List.nil_append,List.headD_cons]
    simpa using hv
  ·rw [wd]at hus
   have e0:lk ((yf (zw o) 0 (zr [.c (.int k n)]) (xw st' [⟨id,d,[],e,some ys⟩])).put o.dst (qJ (xO τ (zw o) 0 [.c (.int k n)]))).b k2=lk st'.b k2:=by
    cases o.dst<;>rfl
   rw [e0]
   simpa [xA]using hus
  ·rw [we]at hR2
   have e0:lk ((yf (zw o) 0 (zr [.c (.int k n)]) (xw st' [⟨id,d,[],e,some ys⟩])).put o.dst (qJ (xO τ (zw o) 0 [.c (.int k n)]))).r k2=lk (Xx [⟨id,d,[],e,some ys⟩] st'.r) k2:=by
    cases o.dst<;>rfl
   rw [e0,Qs]
   by_cases hk2:d=k2
   ·subst hk2
    simp only [zi,if_true,Option.some_or,Option.some.injEq]at hR2
    subst hR2
    simp [vy,qX,hR']
   ·have h9: ¬k2=d:=fun e=>hk2 e.symm
    simp [zi,xA,hk2,h9]at hR2
    simp [vy,qX,hk2,h9,hR2]
def inDl :List Nat→Option Tmp→Bool
 |x::xs,some d=>if x=d then true else inDl xs (some d)
 |_,_=>false
def wD (X:Oper→St→(Dl→Prop)→Prop)(P:Program)(np:Bool)(τ:Ty)(t:List Nat)(all:List Oper)(E:List Rec→St→Prop):List Oper→Nat→List Rec→St→Prop
 | [],_,cs,st=>E cs st
 |o::os,k,cs,st=>
  match o.guard with
  |none=>if inDl t o.dst=true then X o st fun δ=>wD X P np τ t all E os (k+1) (⟨k,fp o st,δ.wr⟩::cs) (st.app o.dst δ)else wl P np τ o st fun δ=>wD X P np τ t all E os (k+1) (⟨k,fp o st,δ.wr⟩::cs) (st.app o.dst δ)
  |some _=>False
theorem Kb {X:Oper→St→(Dl→Prop)→Prop}(hX: ∀o st K,X o st K→∃δ,qT P np τ o st δ∧K δ){t:List Nat}{all:List Oper}{A:List (List Nat)}{Q:St→Prop}: ∀(os:List Oper) (k:Nat) (cs:List Rec) (st:St),wD X P np τ t all (fun cs st=>chk all A cs=true∧Q st) os k cs st→chk all A cs=true∧kw P np τ all A (fun st'=> ∃s,Eqv st' s∧Q s) os k cs st
 | [],k,cs,st,h=>⟨h.1,st,Eqv.refl _,h.2⟩
 |o::os,k,cs,st,h=>by
  have go:(∃δ,xW P np τ all o st δ∧wD X P np τ t all (fun cs st=>chk all A cs=true∧Q st) os (k+1) (⟨k,fp o st,δ.wr⟩::cs) (st.app o.dst δ))→chk all A cs=true∧kw P np τ all A (fun st'=> ∃s,Eqv st' s∧Q s) (o::os) k cs st:=by
   rintro⟨δ,h1,h2⟩
   obtain⟨h3,h4⟩:=Kb hX os _ _ _ h2
   simp only [chk,Bool.and_eq_true]at h3
   exact⟨h3.2,δ,h1,h3.1,h4⟩
  simp only [wD]at h
  split at h
  ·rename_i hg
   split at h
   ·obtain⟨δ,h1,h2⟩:=hX _ _ _ h
    exact go ⟨δ,by unfold xW;rw [hg];exact h1,h2⟩
   ·obtain⟨δ,h1,h2⟩:=wm h
    exact go ⟨δ,by unfold xW;rw [hg];exact h1,h2⟩
  ·exact h.elim
theorem zDK {X:Oper→St→(Dl→Prop)→Prop}{t:List Nat}{all:List Oper}(E:List Rec→St→Prop)(l2:List Oper): ∀(l1:List Oper) (k:Nat) (cs:List Rec) (st:St),wD X P np τ t all E (l1++l2) k cs st=wD X P np τ t all (fun cs st=>wD X P np τ t all E l2 (k+l1.length) cs st) l1 k cs st
 | [],k,cs,st=>rfl
 |o::os,k,cs,st=>by
  have e: ∀cs st,wD X P np τ t all E (os++l2) (k+1) cs st=wD X P np τ t all (fun cs st=>wD X P np τ t all E l2 (k+(o::os).length) cs st) os (k+1) cs st:=fun cs st=>by
   rw [zDK E l2 os (k+1) cs st,List.length_cons,show k+1+os.length=k+(os.length+1)from by omega]
  simp only [List.cons_append,wD,e]
theorem Zx (n:Nat){X:Oper→St→(Dl→Prop)→Prop}{t:List Nat}{all:List Oper}{E:List Rec→St→Prop}{os:List Oper}{k:Nat}{cs:List Rec}{st:St}(hn:n≤os.length)(h: ∀K:List Rec→St→Prop,(∀cs st,wD X P np τ t all E (os.drop n) (k+n) cs st→K cs st)→wD X P np τ t all K (os.take n) k cs st):wD X P np τ t all E os k cs st:=by
 have :=h _ fun _ _ h=>h
 have hl:(os.take n).length=n:=by rw [List.length_take];omega
 have e:wD X P np τ t all (fun cs st=>wD X P np τ t all E (os.drop n) (k+(os.take n).length) cs st) (os.take n) k cs st:=by rw [hl];exact this
 rw [←zDK,List.take_append_drop]at e
 exact e
theorem YX (np:Bool)(X:Oper→St→(Dl→Prop)→Prop)(t:List Nat)(hX: ∀o st K,X o st K→∃δ,qT P np τ o st δ∧K δ){Q:Exit→St→Prop}{st:St}(hτ:zz P τ)(hpos:yW τ)(hmix:P.follows .mixedOrders=true){id:Nat}{ops:List Oper}(hs:Yj np ops (Zb ops)=true)(hd:yv st.n ops=true)(h: ∀E:List Rec→St→Prop,(∀cs st,chk ops (Zb ops) cs=true→Q .normal st→E cs st)→wD X P np τ t ops E ops 0 [] (st.start np ops)):awp P τ (.region id ops.toArray true) Q st:=
 zCd hτ hpos hmix hs hd (Kb hX (Q:=Q .normal) ops 0 [] _ (h _ fun cs st h1 h2=>⟨h1,h2⟩)).2
def uK (X:Oper→St→(Dl→Prop)→Prop)(P:Program)(np:Bool)(τ:Ty)(t:List Nat)(all:List Oper)(Q:St→Prop):List Oper→St→Prop
 | [],st=>Q st
 |o::os,st=>
  match o.guard with
  |none=>if inDl t o.dst=true then X o st fun δ=>uK X P np τ t all Q os (st.app o.dst δ)else wl P np τ o st fun δ=>uK X P np τ t all Q os (st.app o.dst δ)
  |some _=>False
theorem Uj (hτ:zz P τ)(hpos:yW τ){X:Oper→St→(Dl→Prop)→Prop}(hX: ∀o st K,X o st K→∃δ,qT P np τ o st δ∧K δ){t:List Nat}{all:List Oper}(hm:vw np all=true){Q:St→Prop}{Q':Exit→Act→World→Prop}(hQ: ∀st a w,Q st→Rel τ lo w0 st a w→Q' .normal a w):
  ∀(os:List Oper) (k:Nat) (st:St) (a:Act) (w:World),(∀j,os[j]? =all[k+j]?)→yv a.tmps.size all=true→(∀j o,k≤j→all[j]? =some o→yj np o=true→yR (own (zw o)) st)→(np=true→PF st)→Rel τ lo w0 st a w→uK X P np τ t all Q os st→wpList P all.toArray Q' os a w
 | [],k,st,a,w,_,_,_,_,hr,h=>wpList_nil (hQ _ _ _ h hr)
 |o::os,k,st,a,w,hl,hd,hinv,hpf,hr,h=>by
  have ho:all[k]? =some o:=by simpa using (hl 0).symm
  have hd1: ∀j,o.dst=some j→j<a.tmps.size:=fun j hj=>by
   have :=List.all_eq_true.1 hd o (List.mem_of_getElem? ho)
   rw [hj]at this
   simpa using this
  refine wpList_step fun K' hK'=> ?_
  simp only [uK]at h
  split at h
  rotate_left
  ·exact h.elim
  rename_i hg
  obtain⟨δ,h1,h2⟩: ∃δ,qT P np τ o st δ∧uK X P np τ t all Q os (st.app o.dst δ):=by
   split at h
   ·exact hX _ _ _ h
   ·exact wm h
  rw [if_pos (by simp [Region.wanted,hg])]
  have hf:yj np o=true→yR (own (zw o)) st:=hinv k o (Nat.le_refl _) ho
  have hstep:xW P np τ all o st δ:=by unfold xW;rw [hg];exact h1
  refine Xp hτ hpos hd1 hr hf hpf h1 fun x w' hr'=>hK' _ _ (Uj hτ hpos hX hm hQ os (k+1) _ _ w' (fun j=>by have :=hl (j+1);simpa [Nat.add_assoc,Nat.add_comm 1 j]using this) (by rw [yw];exact hd) (fun j oj hkj hj hmk=> ?_) (fun e=>by subst e;exact zAd (hpf rfl) hf hstep) hr' h2)
  refine VX (hinv j oj (by omega) hj hmk) (fun hmo n hn=> ?_) hstep
  have hkl:k<all.length:=(List.getElem?_eq_some_iff.1 ho).1
  have hjl:j<all.length:=(List.getElem?_eq_some_iff.1 hj).1
  have h1:=List.all_eq_true.1 (List.all_eq_true.1 hm k (List.mem_range.2 hkl)) j (List.mem_range.2 hjl)
  rw [ho,hj]at h1
  simp only [hmo,hmk,Bool.and_self,Bool.not_true,Bool.or_false,Bool.or_eq_true,beq_iff_eq,bne_iff_ne,ne_eq]at h1
  rcases h1 with h1|h1
  ·omega
  ·exact UU h1 n hn
theorem zCc (np:Bool)(X:Oper→St→(Dl→Prop)→Prop)(t:List Nat)(hX: ∀o st K,X o st K→∃δ,qT P np τ o st δ∧K δ)(hτ:zz P τ)(hpos:yW τ){Q:Exit→St→Prop}{id:Nat}{ops:List Oper}(hs:vw np ops=true)(hd:yv st.n ops=true)(h:uK X P np τ t ops (Q .normal) ops (st.start np ops)):awp P τ (.region id ops.toArray false) Q st:=fun lo w0 a w hr=>by
 have hn:a.tmps.size=st.n:=by obtain⟨ow,hd,bk,h⟩:=hr;exact h.size
 refine wp_region_lit (Uj (np:=np) hτ hpos hX hs (fun st a w h1 h2=>⟨st,h2,h1⟩) ops 0 (st.start np ops) a w (by simp) (by rw [hn];exact hd) (fun j o _ ho hm=>ZX ho hm) (fun e=>by unfold St.start;rw [if_pos e];exact Qi _) (YA hr ops) h)
end
attribute [push_cast] uf ud inDl wD uK Ze
end Go.Proofs.YtcleaokoimhedaaGreat
