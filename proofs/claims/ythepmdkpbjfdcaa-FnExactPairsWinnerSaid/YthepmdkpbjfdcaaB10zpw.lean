/- A call whose callee is walked in place: the callee works in the caller's own state. -/
import Derived.Test.YthepmdkpbjfdcaaGEzpw
namespace Go.Proofs.Ythepmdkpbjfdcaa
open Go.RowKit
set_option linter.unusedVariables false
set_option linter.unusedSimpArgs false
def Wz :Nat→List AV→List (Nat×AV)
 |_,[]=> []
 |i,v::vs=>(i,v)::Wz (i+1) vs
theorem zAX : ∀(vs:List AV) (i k:Nat) (v:AV),lk (Wz i vs) k=some v→∃j,vs[j]? =some v∧k=i+j
 | [],i,k,v,h=>by simp [Wz,lk]at h
 |u::vs,i,k,v,h=>by
  simp only [Wz,zc]at h
  split at h
  ·rename_i e
   cases h
   exact⟨0,rfl,by omega⟩
  ·obtain⟨j,h1,h2⟩:=zAX vs (i+1) k v h
   exact⟨j+1,by simpa using h1,by omega⟩
def XW :Nat→Bool:=fun _=>true
def Zh (T:Nat):Nat→Bool:=fun t=>t==T||t==1000000
def othB (T:Nat):Nat→Bool:=fun t=> !(t==T)
def covR (r':List (Nat×zn)):List (Nat×zn)→Prop
 | []=>True
 |(d,R)::l=>(lk r' d=some R∧R.pin=none)∧covR r' l
theorem Wu {r':List (Nat×zn)}: ∀{l:List (Nat×zn)},covR r' l→∀d R,lk l d=some R→lk r' d=some R∧R.pin=none
 | [],_,d,R,h=>by simp [lk]at h
 |(k,R0)::l,h,d,R,hl=>by
  rw [zc]at hl
  split at hl
  ·rename_i e;subst e;cases hl;exact h.1
  ·exact Wu h.2 d R hl
def zDL (r:List (Nat×zn)):Bool:=r.all fun x=>match x.2.pin with|some i=>i !=999999|none=>true
def RetI (τ:Ty)(rs:List ResultVar)(K:AV→List AV→List (Nat×zn)→Prop)(e:Exit)(st:St):Prop:=(e= .ret∨e= .normal)∧
 match yE τ st rs,lk st.b 1000000 with
 |some (vs,ob),some cs=>ob∧∃r,covR st.r r∧K (qL vs) cs r
 |_,_=>False
def Kr (T:Nat)(st:St)(cs:List AV)(r:List (Nat×zn)):St:=⟨st.n,vC (AV.kill XW (othB T)) st.s,[(T,AV.killL noB XW cs)],r⟩
def Qk (n T:Nat)(vs cells:List AV)(st:St):St:=⟨n,Wz 0 (AV.killL noB (Zh T) vs),(1000000,AV.killL noB (Zh T) cells)::vC (AV.killL noB (Zh T)) (rm (Zh T) st.b),st.r⟩
def QM (P:Program)(τ:Ty)(T:Nat)(o:Oper)(K:St→Prop)(st:St):Prop:=
 match zz o,lk st.b T with
 |some (f,args,_),some cells=>T≠1000000∧zDL st.r=true∧∃(fn:Func) (rs:List ResultVar),P.funcs[f]? =some fn∧(fn.name== "runtime.NumGoroutine")=false∧fn.body.isSome=true∧fn.results=rs.toArray∧args.toList.length≤fn.ntmps∧
   awp P τ (fn.body.getD .skip) (RetI τ rs fun v cs r=>K ((Kr T st cs r).put o.dst (AV.kill noB XW v))) (Qk fn.ntmps T (args.toList.map (ev st)) cells st)
 |_,_=>False
theorem zDh {P:Program}{τ:Ty}{T:Nat}{o:Oper}{K:St→Prop}{st:St}{fn:Func}{rs:List ResultVar}{f:FuncId}{args:Array Operand}{ts:Array TypeId}{cells:List AV}(h1:zz o=some (f,args,ts))(h2:lk st.b T=some cells)(h3:T≠1000000)(h4:zDL st.r=true)(h5:P.funcs[f]? =some fn)(h6:(fn.name== "runtime.NumGoroutine")=false)(h7:fn.body.isSome=true)(h8:fn.results=rs.toArray)(h9:args.toList.length≤fn.ntmps)
  (h:awp P τ (fn.body.getD .skip) (RetI τ rs fun v cs r=>K ((Kr T st cs r).put o.dst (AV.kill noB XW v))) (Qk fn.ntmps T (args.toList.map (ev st)) cells st)):QM P τ T o K st:=by
 unfold QM
 rw [h1,h2]
 exact⟨h3,h4,fn,rs,h5,h6,h7,h8,h9,h⟩
theorem zJL {P:Program}{τ:Ty}{fn:Func}{c:Code}{Q:Exit→St→Prop}{st:St}(hb:fn.body=some c)(h:awp P τ c Q st):awp P τ (fn.body.getD .skip) Q st:=by rw [hb];exact h
section
variable {P:Program} {τ:Ty} {lo:Nat} {w0:Fz} {st:St} {a:Act} {w:World}
theorem Ua (hτ:zv P τ)(hpos:yO τ){T:Nat}{o:Oper}{K:St→Prop}{Q:Exit→Act→World→Prop}{K':Act→World→Prop}(hd: ∀k,o.dst=some k→k<a.tmps.size)(h:Rel τ lo w0 st a w)(ha:QM P τ T o K st)
  (hK: ∀st' x w',K st'→Rel τ lo w0 st' (a.put o.dst x) w'→K' (a.put o.dst x) w'):o.wp P a w K' Q:=by
 obtain⟨ow,hd',bk,hr⟩:=h
 unfold QM at ha
 split at ha
 rotate_left
 ·exact ha.elim
 rename_i f args ts cells hc hT
 obtain⟨hT6,hpin,fn,rs,hfn,hname,hb,hres,hn,hbody⟩:=ha
 obtain⟨bcs,bty,g1,g2,g3⟩:=hr.box T cells hT
 have hglt:bk T<w.heap.size:=(Array.getElem?_eq_some_iff.1 g1).1
 have hpinD: ∀d R i,lk st.r d=some R→R.pin=some i→i≠999999:=fun d R i hR hi=>by
  have :=List.all_eq_true.1 hpin _ (Qc hR)
  simp only [hi]at this
  simpa using this
 have hev:za τ w st.r st.b hd' bk (args.toList.map (ev st)) (args.toList.map a.eval):=zm.2 ⟨by simp,fun i v x hv hx=>by
  rw [List.getElem?_map]at hv hx
  cases hk:args.toList[i]? with
  |none=>rw [hk]at hv;cases hv
  |some p=>rw [hk]at hv hx;cases hv;cases hx;exact zg hr p⟩
 generalize hvs:args.toList.map a.eval=vs at hev
 have hvl:vs.length=args.toList.length:=by rw [←hvs,List.length_map]
 -- the callee's frame,owners and boxes
 obtain⟨w1,hw1⟩: ∃w1:Fz,w1=⟨w0.w,w0.kp,fun i=>if i=999999 then some (.pointer (some ⟨bk T,0,none⟩))else w0.pin i⟩:=⟨_,rfl⟩
 have hkeep1: ∀{w},yy w0 w→yy w1 w:=fun h=>by subst hw1;exact⟨h.os,h.tape,h.output,h.size,h.block⟩
 have hkeep0: ∀{w},yy w1 w→yy w0 w:=fun h=>by subst hw1;exact⟨h.os,h.tape,h.output,h.size,h.block⟩
 have hfre: ∀b,w1.fre b↔w0.fre b:=fun b=>by subst hw1;exact Iff.rfl
 obtain⟨bk1,hbk1⟩: ∃f:Nat→Nat,f=upd bk 1000000 (bk T):=⟨_,rfl⟩
 have hboxes: ∀t cs,lk (Qk fn.ntmps T (args.toList.map (ev st)) cells st).b t=some cs→(t=1000000∧cs=AV.killL noB (Zh T) cells)∨(t≠1000000∧t≠T∧∃cs0,lk st.b t=some cs0∧cs=AV.killL noB (Zh T) cs0):=fun t cs h=>by
  have h2:lk ((1000000,AV.killL noB (Zh T) cells)::vC (AV.killL noB (Zh T)) (rm (Zh T) st.b)) t=some cs:=h
  rw [zc]at h2
  split at h2
  ·rename_i e
   cases h2
   exact .inl ⟨e.symm,rfl⟩
  ·rename_i e
   rw [zy,xB]at h2
   by_cases h3:Zh T t=true
   ·rw [if_pos h3]at h2;cases h2
   ·rw [if_neg h3]at h2
    have h4:t≠T:=fun e=>h3 (by subst e;simp [Zh])
    cases hx:lk st.b t with
    |none=>rw [hx]at h2;cases h2
    |some cs0=>rw [hx]at h2;cases h2;exact .inr ⟨fun e2=>e e2.symm,h4,cs0,rfl,rfl⟩
 have hB: ∀t,Zh T t=false→yr st.b (Qk fn.ntmps T (args.toList.map (ev st)) cells st).b bk bk1 t:=fun t ht ⟨cs,hcs⟩=>by
  have h1:t≠1000000:=fun e=>by subst e;simp [Zh]at ht
  rcases hboxes t cs hcs with⟨e,-⟩|⟨-,-,cs0,h2,-⟩
  ·exact absurd e h1
  ·exact⟨⟨cs0,h2⟩,by rw [hbk1];exact yd _ _ h1⟩
 have hDs: ∀d,noB d=false→yu w w st.r st.r hd' hd' d:=fun d _ R hR=>⟨R,hR,rfl,fun p hp=>⟨hp,rfl⟩⟩
 have hown1: ∀(m:Md) b,rel m (ow b)→upd ow (bk T) (some (.box 1000000)) b=ow b:=fun m b hrl=>by
  by_cases e:b=bk T
  ·subst e
   rw [g2]at hrl
   cases m<;>simp [rel]at hrl
  ·exact yd _ _ e
 have hstart:Rel τ lo w1 (Qk fn.ntmps T (args.toList.map (ev st)) cells st) {tmps:=vs.toArray++Array.replicate (fn.ntmps - vs.toArray.size) undef,defers:= []} w:=by
  refine⟨upd ow (bk T) (some (.box 1000000)),hd',bk1,fun ad had=> ?_,rfl,?_,hr.low,hkeep1 hr.below,fun b p hlt hb hp=> ?_,fun b hb=> ?_,fun k v hv=> ?_,fun d R hR=> ?_,fun t cs hcs=> ?_,fun d R i hR hi=> ?_⟩
  ·subst hw1
   simp only [if_true]at had
   cases had
   rw [hbk1,zu]
  ·show(vs.toArray++Array.replicate (fn.ntmps - vs.toArray.size) undef).size=fn.ntmps
   simp only [Array.size_append,List.size_toArray,Array.size_replicate]
   omega
  ·by_cases e:b=bk T
   ·subst e
    have :=hr.ge _ _ hglt g2 (by simp)
    exact⟨this.1,(hfre _).2 this.2⟩
   ·rw [yd _ _ e]at hb
    have :=hr.ge b p hlt hb hp
    exact⟨this.1,(hfre _).2 this.2⟩
  ·rw [yd _ _ (by omega)]
   exact hr.new b hb
  ·obtain⟨j,hj,hkj⟩:=zAX _ _ _ _ hv
   rw [Nat.zero_add]at hkj
   subst hkj
   have hevk:=zx (τ:=τ) hDs hB _ _ hev
   obtain⟨h1,h2⟩:=zm.1 hevk
   have hlt:k<vs.length:=by rw [h1];exact(List.getElem?_eq_some_iff.1 hj).1
   have hget:(vs.toArray++Array.replicate (fn.ntmps - vs.toArray.size) undef).getD k undef=vs[k]:=by
    rw [Array.getD_eq_getD_getElem?,Array.getElem?_append_left (by simpa using hlt)]
    simp [hlt]
   show AvR τ w st.r _ hd' bk1 v ((vs.toArray++Array.replicate (fn.ntmps - vs.toArray.size) undef).getD k undef)
   rw [hget]
   exact h2 k v _ hj (List.getElem?_eq_getElem hlt)
  ·exact yG _ _ (Nat.le_refl _) _ _ _ (fun b hb hrl=>⟨rfl,hown1 _ b hrl⟩) (hr.root d R hR)
  ·rcases hboxes t cs hcs with⟨rfl,rfl⟩|⟨h1,h2,cs0,h3,rfl⟩
   ·exact⟨bcs,bty,by rw [hbk1,zu];exact g1,by rw [hbk1,zu,zu],zx hDs hB _ _ g3⟩
   ·obtain⟨ds,dty,q1,q2,q3⟩:=hr.box t cs0 h3
    have hne:bk t≠bk T:=fun e=>by
     rw [e,g2]at q2
     cases q2
     exact h2 rfl
    exact⟨ds,dty,by rw [hbk1,yd _ _ h1];exact q1,by rw [hbk1,yd _ _ h1,yd _ _ hne];exact q2,zx hDs hB _ _ q3⟩
  ·subst hw1
   have :=hpinD d R i hR hi
   simp only [if_neg this]
   exact hr.pin d R i hR hi
 have hC:Calls P f vs.toArray w (fun e w'=> ∃z,e= .returned z∧∃st',K st'∧Rel τ lo w0 st' (a.put o.dst z) w'):=by
  obtain⟨c,hbc⟩:=Option.isSome_iff_exists.1 hb
  have hget:fn.body.getD .skip=c:=by rw [hbc];rfl
  rw [hget]at hbody
  refine calls_of_wp hfn hbc (Go.wp_mono (hbody lo w1 _ w hstart) fun e a' w' ⟨st',⟨ow2,hd2,bk2,hr2⟩,he,hret⟩=> ?_)
  have hpost:a'.defers= []∧∃v,(results fn a'.tmps).run P w'= .ok v w'∧(∃z,Ending.returned v= .returned z∧∃st',K st'∧Rel τ lo w0 st' (a.put o.dst z) w'):=by
   split at hret
   ·rename_i avs ob0 cs hrv hcs
    obtain⟨hob0,r,hcov,hK0⟩:=hret
    obtain⟨xs,hrun,hv⟩:=qX hτ hpos hr2 hres hrv hob0
    refine⟨hr2.defers,_,hrun,_,rfl,_,hK0,?_⟩
    have hbig:bk2 1000000=bk T:=hr2.big ⟨bk T,0,none⟩ (by subst hw1;simp)
    obtain⟨ds,dty,q1,q2,q3⟩:=hr2.box 1000000 cs hcs
    rw [hbig]at q1 q2
    have hown2: ∀(m:Md) b,rel m (ow2 b)→upd ow2 (bk T) (some (.box T)) b=ow2 b:=fun m b hrl=>by
     by_cases e:b=bk T
     ·subst e
      rw [q2]at hrl
      cases m<;>simp [rel]at hrl
     ·exact yd _ _ e
    have hsz:w.heap.size≤w'.heap.size∨True:= .inr trivial
    have hlt2:bk T<w'.heap.size:=(Array.getElem?_eq_some_iff.1 q1).1
    have hD2: ∀d,noB d=false→yu w' w' st'.r r hd2 hd2 d:=fun d _ R hR=>⟨R,(Wu hcov d R hR).1,rfl,fun p hp=>⟨hp,rfl⟩⟩
    have hB2: ∀t,XW t=false→yr st'.b (Kr T st cs r).b bk2 bk t:=fun t h=>by cases h
    have hback:zh τ lo w0 (upd ow2 (bk T) (some (.box T))) hd2 bk (Kr T st cs r) a w':=by
     refine⟨hr.big,hr.defers,hr.size,hr2.low,hkeep0 hr2.below,fun b p hlt hb hp=> ?_,fun b hb=> ?_,fun k v hv=> ?_,fun d R hR=> ?_,fun t us hus=> ?_,fun d R i hR hi=> ?_⟩
     ·by_cases e:b=bk T
      ·subst e
       exact hr.ge _ _ hglt g2 (by simp)
      ·rw [yd _ _ e]at hb
       have :=hr2.ge b p hlt hb hp
       exact⟨this.1,(hfre _).1 this.2⟩
     ·rw [yd _ _ (by omega)]
      exact hr2.new b hb
     ·have hv2:lk (vC (AV.kill XW (othB T)) st.s) k=some v:=hv
      rw [zy]at hv2
      cases hk:lk st.s k with
      |none=>rw [hk]at hv2;cases hv2
      |some v0=>
       rw [hk]at hv2
       cases hv2
       refine yk (fun d h=>(by cases h)) (fun t h=> ?_) v0 _ (hr.slot k v0 hk)
       have e:t=T:=by simpa [othB]using h
       subst e
       exact fun _=>⟨⟨cells,hT⟩,rfl⟩
     ·exact yG _ _ (Nat.le_refl _) _ _ _ (fun b hb hrl=>⟨rfl,hown2 _ b hrl⟩) (hr2.root d R (Wu hcov d R hR).1)
     ·have hus2:lk [(T,AV.killL noB XW cs)] t=some us:=hus
      rw [zc]at hus2
      split at hus2
      ·rename_i e
       subst e
       cases hus2
       exact⟨ds,dty,q1,zu _ _ _,zx hD2 hB2 _ _ q3⟩
      ·cases hus2
     ·rw [(Wu hcov d R hR).2]at hi
      cases hi
    exact xM hback hd (yk hD2 hB2 _ _ (VZ hv))
   ·exact hret.elim
  rcases he with rfl|rfl<;>exact hpost
 unfold Oper.wp
 rw [Qz hr hc ⟨fn,hfn,hname,by cases hbb:fn.body with|none=>rw [hbb]at hb;cases hb|some c=>rfl⟩,hvs]
 simp only [Oper.upon]
 refine hC.mono fun e w' hpost=> ?_
 obtain⟨z,rfl,st',hK1,hrel⟩:=hpost
 exact hK _ z w' hK1 hrel
def Qv (P:Program)(τ:Ty)(al:List Nat)(t T:Nat)(K:St→Prop):List Oper→St→Prop
 | [],st=>K st
 |o::os,st=>
  match o.guard with
  |none=>
   match mkF o with
   |some (f,caps)=>Qv P τ al t T K os (st.put o.dst (.fn f (caps.map (ev st))))
   |none=>if o.dst=some t then QM P τ T o (Qv P τ al t T K os) st else aop P τ al o (Qv P τ al t T K os) st
  |some (j,want)=>False
theorem Zt (hτ:zv P τ)(hpos:yO τ){al:List Nat}{t T:Nat}{all:List Oper}{K:St→Prop}{Q:Exit→Act→World→Prop}(hQ: ∀st a w,K st→Rel τ lo w0 st a w→Q .normal a w):
  ∀(os:List Oper) (st:St) (a:Act) (w:World),yo a.tmps.size os=true→Rel τ lo w0 st a w→Qv P τ al t T K os st→wpList P all.toArray Q os a w
 | [],st,a,w,_,h,ha=>wpList_nil (hQ st a w ha h)
 |o::os,st,a,w,hd,h,ha=>by
  have hd1: ∀k,o.dst=some k→k<a.tmps.size:=fun k hk=>by
   have :=List.all_eq_true.1 hd o (by simp)
   rw [hk]at this
   simpa using this
  have hd2:yo a.tmps.size os=true:=List.all_eq_true.2 fun x hx=>List.all_eq_true.1 hd x (by simp [hx])
  refine wpList_step fun K' hK'=> ?_
  simp only [Qv]at ha
  split at ha
  ·rename_i hg
   rw [if_pos (by simp [Region.wanted,hg])]
   split at ha
   ·rename_i f caps hm
    obtain⟨ow,hd',bk,hr⟩:=h
    obtain⟨z,hz,hv⟩:=WW (P:=P) hr hm
    unfold Oper.wp
    rw [hz]
    exact hK' _ _ (Zt hτ hpos hQ os _ _ w (by rw [xF];exact hd2) (xM hr hd1 hv) ha)
   ·split at ha
    ·exact Ua hτ hpos hd1 h ha fun st' x w' h2 h3=>hK' _ _ (Zt hτ hpos hQ os st' _ w' (by rw [xF];exact hd2) h3 h2)
    ·exact ZC hτ hpos hd1 h ha fun st' x w' h2 h3=>hK' _ _ (Zt hτ hpos hQ os st' _ w' (by rw [xF];exact hd2) h3 h2)
  ·exact ha.elim
end
theorem zBS {P:Program}{τ:Ty}{Q:Exit→St→Prop}{st:St}(t T:Nat)(hτ:zv P τ)(hpos:yO τ)(al:List Nat){id:Nat}{ops:List Oper}(hd:yo st.n ops=true)(h:Qv P τ al t T (Q .normal) ops st):awp P τ (.region id ops.toArray false) Q st:=fun lo w0 a w hr=>by
 have hn:a.tmps.size=st.n:=by obtain⟨ow,hd,bk,h⟩:=hr;exact h.size
 refine wp_region_lit (Zt hτ hpos (fun st a w h1 h2=>⟨st,h2,h1⟩) ops st a w (by rw [hn];exact hd) hr h)
mutual
def AV.rnb (t T:Nat):AV→AV
 | .int k n=> .int k n
 | .bool b=> .bool b
 | .sl d p off len e=> .sl d p off len e
 | .nil=> .nil
 | .ep d p i=> .ep d p i
 | .bp k i=>if k=t then .bp T i else if k=T then .dead else .bp k i
 | .agg vs=> .agg (AV.rnbL t T vs)
 | .tup vs=> .tup (AV.rnbL t T vs)
 | .fn f vs=> .fn f (AV.rnbL t T vs)
 | .dead=> .dead
 | .raw u=> .raw u
def AV.rnbL (t T:Nat):List AV→List AV
 | []=> []
 |v::vs=>AV.rnb t T v::AV.rnbL t T vs
end
def Wc (t T:Nat):List (Nat×List AV)→List (Nat×List AV)
 | []=> []
 |(k,vs)::l=>(if k=t then T else k,AV.rnbL t T vs)::Wc t T l
def St.renB (t T:Nat)(st:St):St:=⟨st.n,vC (AV.rnb t T) st.s,Wc t T st.b,st.r⟩
theorem kE {t T:Nat}(hne:t≠T): ∀{l:List (Nat×List AV)} {k:Nat} {cs:List AV},lk l T=none→lk (Wc t T l) k=some cs→(k=T∧∃cs0,lk l t=some cs0∧cs=AV.rnbL t T cs0)∨(k≠T∧k≠t∧∃cs0,lk l k=some cs0∧cs=AV.rnbL t T cs0)
 | [],k,cs,_,h=>by simp [Wc,lk]at h
 |(j,vs)::l,k,cs,hn,h=>by
  rw [zc]at hn
  split at hn
  ·cases hn
  rename_i hjT
  simp only [Wc,zc]at h
  by_cases hj:j=t
  ·rw [if_pos hj]at h
   split at h
   ·rename_i e
    cases h
    exact .inl ⟨e.symm,vs,by rw [zc,if_pos hj],rfl⟩
   ·rename_i e
    rcases kE hne hn h with⟨e1,-⟩|⟨h1,h2,cs0,h3,h4⟩
    ·exact absurd e1.symm e
    ·exact .inr ⟨h1,h2,cs0,by rw [zc,if_neg (fun e2=>h2 (by rw [←e2,hj]))];exact h3,h4⟩
  ·rw [if_neg hj]at h
   split at h
   ·rename_i e
    cases h
    exact .inr ⟨fun e2=>hjT (e.trans e2),fun e2=>hj (e.trans e2),vs,by rw [zc,if_pos e],rfl⟩
   ·rename_i e
    rcases kE hne hn h with⟨e1,cs0,h3,h4⟩|⟨h1,h2,cs0,h3,h4⟩
    ·exact .inl ⟨e1,cs0,by rw [zc,if_neg hj];exact h3,h4⟩
    ·exact .inr ⟨h1,h2,cs0,by rw [zc,if_neg e];exact h3,h4⟩
section
variable {P:Program} {τ:Ty} {lo:Nat} {w0:Fz} {st:St} {w:World} {rr:List (Nat×zn)} {bb bb':List (Nat×List AV)} {hd:Nat→Value} {bk bk':Nat→Nat} {t T:Nat}
mutual
theorem zBu (h1:(∃cs,lk bb' T=some cs)→(∃cs,lk bb t=some cs)∧bk' T=bk t)(h2: ∀k,k≠t→k≠T→(∃cs,lk bb' k=some cs)→(∃cs,lk bb k=some cs)∧bk' k=bk k): ∀(v:AV) (x:Value),AvR τ w rr bb hd bk v x→AvR τ w rr bb' hd bk' (v.rnb t T) x
 | .int k n,x,h=>by simpa only [AV.rnb,AvR]using h
 | .bool b,x,h=>by simpa only [AV.rnb,AvR]using h
 | .sl d p off len e,x,h=>by simpa only [AV.rnb,AvR]using h
 | .nil,x,h=>by simpa only [AV.rnb,AvR]using h
 | .ep d p i,x,h=>by simpa only [AV.rnb,AvR]using h
 | .bp k i,x,h=>by
  simp only [AV.rnb]
  split
  ·rename_i e
   subst e
   simp only [AvR]at h⊢
   exact⟨h.1,fun hl=>by rw [(h1 hl).2];exact h.2 (h1 hl).1⟩
  ·rename_i e
   split
   ·simp only [AvR]
   ·rename_i e2
    simp only [AvR]at h⊢
    exact⟨h.1,fun hl=>by rw [(h2 k e e2 hl).2];exact h.2 (h2 k e e2 hl).1⟩
 | .agg vs,x,h=>by
  simp only [AV.rnb,AvR]at h⊢
  obtain⟨cs,e,h⟩:=h
  exact⟨cs,e,Zj h1 h2 vs cs h⟩
 | .tup vs,x,h=>by
  simp only [AV.rnb,AvR]at h⊢
  obtain⟨cs,e,h⟩:=h
  exact⟨cs,e,Zj h1 h2 vs cs h⟩
 | .fn f vs,x,h=>by
  simp only [AV.rnb,AvR]at h⊢
  obtain⟨cs,e,h⟩:=h
  exact⟨cs,e,Zj h1 h2 vs cs h⟩
 | .dead,x,h=>by simp only [AV.rnb,AvR]
 | .raw u,x,h=>by simpa only [AV.rnb,AvR]using h
theorem Zj (h1:(∃cs,lk bb' T=some cs)→(∃cs,lk bb t=some cs)∧bk' T=bk t)(h2: ∀k,k≠t→k≠T→(∃cs,lk bb' k=some cs)→(∃cs,lk bb k=some cs)∧bk' k=bk k): ∀(vs:List AV) (xs:List Value),za τ w rr bb hd bk vs xs→za τ w rr bb' hd bk' (AV.rnbL t T vs) xs
 | [],xs,h=>by simpa only [AV.rnbL,za]using h
 |v::vs,xs,h=>by
  simp only [AV.rnbL,za]at h⊢
  obtain⟨x,xs',e,h3,h4⟩:=h
  exact⟨x,xs',e,zBu h1 h2 v x h3,Zj h1 h2 vs xs' h4⟩
end
theorem zFP (t T:Nat){c:Code}{Q:Exit→St→Prop}(hn:(t==T||T==1000000||t==1000000)=false)(hT:lk st.b T=none)(h:awp P τ c Q (st.renB t T)):awp P τ c Q st:=fun lo w0 a w hr=>by
 obtain⟨ow,hd,bk,hr⟩:=hr
 simp only [Bool.or_eq_false_iff,beq_eq_false_iff_ne]at hn
 obtain⟨⟨n1,n2⟩,n3⟩:=hn
 have hsh:=fun{k cs} h=>kE n1 (l:=st.b) (k:=k) (cs:=cs) hT h
 have h1:(∃cs,lk (Wc t T st.b) T=some cs)→(∃cs,lk st.b t=some cs)∧upd bk T (bk t) T=bk t:=fun⟨cs,hcs⟩=>by
  rcases hsh hcs with⟨-,cs0,h3,-⟩|⟨h1,-⟩
  ·exact⟨⟨cs0,h3⟩,zu _ _ _⟩
  ·exact absurd rfl h1
 have h2: ∀k,k≠t→k≠T→(∃cs,lk (Wc t T st.b) k=some cs)→(∃cs,lk st.b k=some cs)∧upd bk T (bk t) k=bk k:=fun k hkt hkT ⟨cs,hcs⟩=>by
  rcases hsh hcs with⟨e,-⟩|⟨-,-,cs0,h3,-⟩
  ·exact absurd e hkT
  ·exact⟨⟨cs0,h3⟩,yd _ _ hkT⟩
 obtain⟨ow',how⟩: ∃f:Nat→Option Pl,f=fun b=>match ow b with|some (.box k)=>if k=t then some (.box T)else some (.box k)|p=>p:=⟨_,rfl⟩
 have hsame: ∀(m:Md) b,rel m (ow b)→ow' b=ow b:=fun m b hrl=>by
  rw [how]
  simp only
  split
  ·rename_i e
   rw [e]at hrl
   cases m<;>simp [rel]at hrl
  ·rfl
 refine h lo w0 a w ⟨ow',hd,upd bk T (bk t),fun ad had=> ?_,hr.defers,hr.size,hr.low,hr.below,fun b p hlt hb hp=> ?_,fun b hb=> ?_,fun k v hv=> ?_,fun d R hR=> ?_,fun k cs hcs=> ?_,hr.pin⟩
 ·rw [yd _ _ (Ne.symm n2)]
  exact hr.big ad had
 ·rw [how]at hb
  simp only at hb
  split at hb
  ·rename_i e
   exact hr.ge b _ hlt e (by simp)
  ·exact hr.ge b p hlt hb hp
 ·rw [how]
  simp only [hr.new b hb]
 ·have hv2:lk (vC (AV.rnb t T) st.s) k=some v:=hv
  rw [zy]at hv2
  cases hk:lk st.s k with
  |none=>rw [hk]at hv2;cases hv2
  |some v0=>rw [hk]at hv2;cases hv2;exact zBu h1 h2 v0 _ (hr.slot k v0 hk)
 ·exact yG _ _ (Nat.le_refl _) _ _ _ (fun b hb hrl=>⟨rfl,hsame _ b hrl⟩) (hr.root d R hR)
 ·rcases hsh hcs with⟨rfl,cs0,h3,rfl⟩|⟨e1,e2,cs0,h3,rfl⟩
  ·obtain⟨ds,dty,q1,q2,q3⟩:=hr.box t cs0 h3
   exact⟨ds,dty,by rw [zu];exact q1,by rw [zu,how];simp only [q2];rfl,Zj h1 h2 _ _ q3⟩
  ·obtain⟨ds,dty,q1,q2,q3⟩:=hr.box k cs0 h3
   refine⟨ds,dty,by rw [yd _ _ e1];exact q1,?_,Zj h1 h2 _ _ q3⟩
   rw [yd _ _ e1,how]
   simp only
   rw [q2]
   exact if_neg e2
end
attribute [push_cast] AV.rnb AV.rnbL Wc St.renB
attribute [push_cast] Qv Wz Qk Kr XW Zh othB covR zDL
section
variable {P:Program} {np:Bool} {τ:Ty} {lo:Nat} {w0:Fz} {ow:Nat→Option Pl} {hd:Nat→Value} {bk:Nat→Nat} {st:St} {a:Act} {w:World}
def Vd (τ:Ty)(st:St):List Nat→List AV→Prop
 | [],us=>us= []
 |_::_,[]=>False
 |i::pm,u::us=>(match u with
  | .sl d [] 0 len e=>d=zZ 0 i∧(match lk st.r d with|some R=>R.pin=some d∧R.e=e∧len*sz τ e=R.xs.length|none=>False)∧0<sz τ e
  |_=>False)∧Vd τ st pm us
theorem Jn (h:zh τ lo w0 ow hd bk st a w){pin:Nat→Value}(hpin: ∀id,w0.pin id=some (pin id)): ∀{pm:List Nat} {us:List AV} {cs:List Value},Vd τ st pm us→za τ w st.r st.b hd bk us cs→cs.length=pm.length∧∀(i j:Nat) (c:Value),pm[i]? =some j→cs[i]? =some c→c=pin (zZ 0 j)
 | [],us,cs,ho,hv=>by
  simp only [Vd]at ho
  subst ho
  simp only [za]at hv
  subst hv
  exact⟨rfl,fun i j c h=>by simp at h⟩
 |j0::pm,[],cs,ho,hv=>by simp only [Vd]at ho
 |j0::pm,u::us,cs,ho,hv=>by
  simp only [za]at hv
  obtain⟨c0,cs',rfl,h1,h2⟩:=hv
  simp only [Vd]at ho
  obtain⟨k1,k2⟩:=Jn h hpin ho.2 h2
  refine⟨by simp [k1],fun i j c hj hc=> ?_⟩
  cases i with
  |succ i=>exact k2 i j c (by simpa using hj) (by simpa using hc)
  |zero=>
   simp at hc hj
   subst hc;subst hj
   have ho1:=ho.1
   split at ho1
   ·rename_i d len e
    obtain⟨rfl,q1,q2⟩:=ho1
    split at q1
    ·rename_i R hR
     obtain⟨p1,p2,p3⟩:=q1
     simp only [AvR]at h1
     obtain⟨-,hx⟩:=h1
     obtain⟨hv2,hin,A,n,c,A',c',hnw,e1,e2,hle,hlc,hmx,hf0,hA⟩:=hx R hR (by simp [zl])
     simp only [yA,Option.some.injEq]at hin
     obtain⟨rfl,rfl⟩:=hf0 rfl
     have hp:=h.pin _ R _ hR p1
     rw [hpin]at hp
     have hp':pin (zZ 0 j0)=hd (zZ 0 j0):=Option.some.inj hp
     have hroot:=h.root _ R hR
     rw [hin,e1]at hroot
     obtain⟨A2,n2,c2,hf,hlen,-⟩:=yz hroot
     cases hf
     rw [p2]at hlen
     have :len=n:=Nat.eq_of_mul_eq_mul_right q2 (by omega)
     subst this
     rw [hp',hin,e1,e2]
    ·exact q1.elim
   ·exact ho1.elim
def RetT (τ:Ty)(rs:List ResultVar)(pm:List Nat)(ress:List D)(e:Exit)(st:St):Prop:=(e= .ret∨e= .normal)∧
 match yE τ st rs with
 |some ([.agg us],ob)=>ob∧pm.length≤us.length∧Vd τ st pm (us.take pm.length)∧(match qY τ st ress (us.drop pm.length)with|some (is,ob2)=>YA is=true∧ob2|none=>False)
 |_=>False
theorem zIb (hτ:zv P τ)(hpos:yO τ){f:FuncId}{fn:Func}{c:Code}{rs:List ResultVar}{ds0:List D}{args:List VT}{pm:List Nat}{ress:List D}(hfn:P.funcs[f]? =some fn)(hname:(fn.name== "runtime.NumGoroutine")=false)(hb:fn.body=some c)(hres:fn.results=rs.toArray)(hn:(.agg ds0::args:List VT).length≤fn.ntmps)(hfew:few (.agg ds0::args)=true)(hs:szA τ (.agg ds0::args))(hm:(pm.all fun i=>decide (i<ds0.length))=true)
  (h:awp P τ c (RetT τ rs pm ress) (vr τ fn.ntmps (.agg ds0::args))):FnT P τ f (.agg ds0::args) pm ress:=by
 refine⟨⟨fn,hfn,hname,by rw [hb];rfl⟩,fun w cargs hargs=> ?_⟩
 have hstart:Rel τ w.heap.size _ (vr τ fn.ntmps (.agg ds0::args)) {tmps:=cargs.toArray++Array.replicate (fn.ntmps - cargs.toArray.size) undef,defers:= []} w:=⟨_,_,_,Ui hs hfew hn hargs⟩
 obtain⟨v0,vs0,hc0,⟨cs0,rfl,hr0⟩,-⟩:=id hargs
 refine calls_of_wp hfn hb (Go.wp_mono (h w.heap.size _ _ w hstart) fun e a' w' ⟨st',⟨ow,hd,bk,hr⟩,he,hret0⟩=> ?_)
 have hpost:a'.defers= []∧∃v,(results fn a'.tmps).run P w'= .ok v w'∧zCj τ w pm ress cargs (.returned v) w':=by
  split at hret0
  ·rename_i us ob0 hrv
   obtain⟨hob0,hml,hsh,hret⟩:=hret0
   obtain⟨xs,hrun,hv⟩:=qX hτ hpos hr hres hrv hob0
   simp only [za,AvR]at hv
   obtain⟨x,xs',rfl,⟨cs,rfl,hcs⟩,rfl⟩:=hv
   refine⟨hr.defers,_,hrun,?_⟩
   obtain⟨s1,s2⟩:=KZ pm.length hcs
   obtain⟨p1,p2⟩:=Jn hr (fun id=>rfl) hsh s1
   split at hret
   ·rename_i is ob hcells
    obtain⟨m1,m2⟩:=qT hr hcells hret.2 hret.1 s2
    have hlen0:cs0.length=ds0.length:=by
     have key: ∀(ds:List D) (cs:List Value),RpS (sz τ) w.heap.size w (fun _=>none) ds cs→cs.length=ds.length:=by
      intro ds
      induction ds with
      |nil=>intro cs h;simp only [RpS]at h;subst h;rfl
      |cons d ds ih=>intro cs h;simp only [RpS]at h;obtain⟨c,cs',rfl,-,h2⟩:=h;simp [ih cs' h2]
     exact key _ _ hr0
    have htake:cs.take pm.length=wd pm undef cs0:=by
     refine List.ext_getElem? fun i=> ?_
     rcases Nat.lt_or_ge i pm.length with hi|hi
     ·have hu:(cs.take pm.length)[i]? =some ((cs.take pm.length)[i]'(by omega)):=List.getElem?_eq_getElem _
      have hpi:pm[i]? =some pm[i]:=List.getElem?_eq_getElem hi
      have :=p2 i _ _ hpi hu
      have hlt:pm[i]<ds0.length:=by simpa using List.all_eq_true.1 hm pm[i] (List.getElem_mem hi)
      have hsel:(wd pm undef cs0)[i]? =some (cs0.getD pm[i] undef):=by unfold wd;rw [List.getElem?_map,hpi];rfl
      rw [hu,this,hsel]
      have h16:ds0.length≤16:=by exact of_decide_eq_true (List.all_eq_true.1 hfew (.agg ds0) (by simp))
      have e1:zZ 0 pm[i] / 16=0:=by unfold zZ;omega
      have e2:zZ 0 pm[i]%16=pm[i]:=by unfold zZ;omega
      simp only [yB,e1,e2,hc0,List.getElem?_cons_zero]
      have hic:pm[i]<cs0.length:=by omega
      rw [List.getD_eq_getElem?_getD,List.getElem?_eq_getElem hic]
      simp [hic]
     ·rw [List.getElem?_eq_none (by omega),List.getElem?_eq_none (by unfold wd;rw [List.length_map];exact hi)]
    refine⟨cs0,cs.drop pm.length,xC ow is,by rw [hc0];rfl,by rw [←htake,List.take_append_drop];rfl,⟨hr.below.os,hr.below.tape,hr.below.output,hr.below.size,fun b hb=>hr.below.block b hb trivial⟩,fun b hlt=> ?_,fun b p hp=> ?_,zDe m1 fun i d c hd hc=>by rw [Nat.zero_add];exact m2 i d c hd hc⟩
    ·unfold xC
     split
     ·rename_i d q ho
      have :=(hr.ge b _ (by have :=hr.below.size;simp only at this;omega) ho (by simp)).1
      omega
     ·rfl
    ·unfold xC at hp
     split at hp
     ·rename_i d q ho
      split at hp
      ·cases hp
       refine⟨?_,by simp⟩
       rcases Nat.lt_or_ge b w'.heap.size with h'|h'
       ·exact h'
       ·rw [hr.new b h']at ho;cases ho
      ·cases hp
     ·cases hp
   ·exact hret.elim
  ·exact hret0.elim
 rcases he with rfl|rfl<;>exact hpost
def uq (P:Program)(τ:Ty)(o:Oper)(st:St)(K:Dl→Prop):Prop:=
 match zz o with
 |some (f,args,ts)=>
  match yh τ st ts.toList (args.toList.map (ev st)),args.toList.map (ev st)with
  |some (as9,ob), .agg us::_=>ob∧∃pm ress,FnT P τ f as9 pm ress∧(pm.all fun i=>decide (i<us.length))=true∧szL τ ress∧ress.length≤16∧K ⟨.agg (wd pm .dead us++yM τ (zq o) 0 ress),qC (zq o) 0 ress,[],[]⟩
  |_,_=>False
 |none=>False
theorem zDl {o:Oper}{K:Dl→Prop}(h:uq P τ o st K): ∃δ,qI P np τ o st δ∧K δ:=by
 unfold uq at h
 cases hc:zz o with
 |none=>rw [hc]at h;exact h.elim
 |some x=>
  obtain⟨f,args,ts⟩:=x
  rw [hc]at h
  simp only at h
  split at h
  ·rename_i as9 ob us vs hargs hevs
   obtain⟨hob,pm,ress,h1,h2,h3,h4,h5⟩:=h
   refine⟨_, .inr (.inl ?_),h5⟩
   unfold Jr
   rw [hc]
   simp only
   rw [hargs,hevs]
   exact⟨hob,pm,ress,h1,fun i hi=>by simpa using List.all_eq_true.1 h2 i hi,h3,h4,rfl⟩
  ·exact h.elim
theorem Um (hτ:zv P τ)(hpos:yO τ)(hmix:P.follows .mixedOrders=true){A:List (List Nat)}{Q:Exit→St→Prop}{id:Nat}{ops:List Oper}(hs:Zf np ops A=true)(hd:yo st.n ops=true)(hlex':KK P np τ ops A (fun st'=> ∃s,Eqv st' s∧Q .normal s) ops 0 [] (st.start np ops)):awp P τ (.region id ops.toArray true) Q st:=fun lo w0 a w hr=>by
 simp only [Zf,Bool.and_eq_true]at hs
 obtain⟨h1,h2,h3⟩:=hs
 have hn:a.tmps.size=st.n:=by obtain⟨ow,hd,bk,h⟩:=hr;exact h.size
 have hrc:Rel τ lo w0 (st.clean np ops) a {w with drawn:=w.drawn+1}:=by
  obtain⟨ow,hd,bk,h⟩:=Jv hr (fun d=>((ops.filter (yY np)).map zq).contains (d / 16)) (fun t=>((ops.filter (yY np)).map zq).contains t)
  exact⟨ow,hd,bk,Vq h⟩
 have hr':Rel τ lo w0 (st.start np ops) a {w with drawn:=w.drawn+1}:=by
  unfold St.start
  split
  ·exact jg hrc
  ·exact hrc
 have hpf:np=true→PF (st.start np ops):=fun e=>by unfold St.start;rw [if_pos e];exact WE _
 refine wp_region_any hmix ?_
 have hany:=Yw (fun st st' he ⟨s,h1,h2⟩=>⟨s,he.symm.trans h1,h2⟩) h1 ops 0 [] (Array.replicate ops.length false) _ (by simp) (fun j o _ hj=>by
  rw [Array.getD_eq_getD_getElem?,Array.getElem?_replicate]at hj
  split at hj<;>simp at hj) h3 hlex'
 have :=ZU (Q':=fun e a' w'=> ∃st',Rel τ lo w0 st' a' w'∧Q e st') hτ hpos h2 (fun st' a w ⟨s,he,hq⟩ hr=>⟨s,xL hr he.cov,hq⟩) ops.length [] (Array.replicate ops.length false) (st.start np ops) a {w with drawn:=w.drawn+1} (by rw [hn];exact hd) (fun j o ho _ hm=>by
  have hfc:yF (own (zq o)) (st.clean np ops):=by
   refine YQ (fun d hdt=> ?_) (ZJ ho hm)
   rw [hdt];exact ZJ ho hm
  unfold St.start
  split
  ·exact Jy hfc
  ·exact hfc) hpf hr' hany
 simpa using this
end
def qR (st:St)(ls:List yn):St:={st with r:=VN ls st.r}
section
variable {P:Program} {np:Bool} {τ:Ty} {lo:Nat} {w0:Fz} {ow:Nat→Option Pl} {hd:Nat→Value} {bk:Nat→Nat} {st:St} {a:Act} {w:World}
theorem ue (h:zh τ lo w0 ow hd bk st a w){vs:List AV}{cv:List Value}(hv:za τ w st.r st.b hd bk vs cv){own:List Nat}{outs:List Out}{ls:List yn}{ob2:Prop}
  (hbad: ∀d,(∃x∈ls,x.d=d)→YV d st) (hl:qj τ st vs outs own=some (ls,ob2)) (hob2:ob2) (hsep:vh ls) (hnd:own.Nodup) {t:Nat} {w':World} {ow':Nat→Option Pl}
  (hk:yy ⟨w,fun b=>qD ow ls b=none,fun _=>none⟩ w') (hlow: ∀b,b<w.heap.size→qD ow ls b=none→ow' b=none) (hnew: ∀b p,ow' b=some p→b<w'.heap.size∧lo≤b∧∃d q,p= .root d q)
  (hout: ∀x∈outs,Rp (sz τ) lo w' ow' (.ex (Xc x.1) []) (.lst x.2.1 x.2.2) (yB cv x.1)):
  zh τ lo w0 (vb ow ls w.heap.size t ow') hd bk (qR st ls) a w':=by
 obtain⟨l1,l2⟩:=VM hl hob2
 have hok: ∀x∈ls,∃len R,UL τ st vs outs x len R:=fun x hx=>by
  obtain⟨ob,e1,e2⟩:=l1 x hx;exact uN e1 e2
 have hids:(ls.map (·.id)).Nodup:=by rw [l2];exact hnd
 have old: ∀b,b<w.heap.size→qD ow ls b=none→w'.heap[b]? =w.heap[b]? ∧vb ow ls w.heap.size t ow' b=ow b:=fun b hb hn=>
  ⟨hk.block b hb hn,by unfold vb;rw [if_pos ⟨hb,by rw [hn];rfl⟩]⟩
 have back: ∀x∈ls,∀b q,ow' b=some (.root (Xc x.id) q)→vb ow ls w.heap.size t ow' b=some (.root x.d (x.p++q)):=fun x hx b q hb=>by
  have : ¬(b<w.heap.size∧(qD ow ls b).isNone=true):=fun⟨h1,h2⟩=>by
   rw [hlow b h1 (by cases ho:qD ow ls b with|none=>rfl|some p=>rw [ho]at h2;cases h2)]at hb;cases hb
  unfold vb
  rw [if_neg this,hb]
  simp only
  rw [if_pos (by unfold Xc;omega),show Xc x.id - 1000000=x.id from by unfold Xc;omega]
  exact Un hids x hx
 have hge: ∀b p,vb ow ls w.heap.size t ow' b=some p→p≠ .ext→b<w'.heap.size→lo≤b∧w0.fre b:=fun b p hb hp hlt=>by
  by_cases hc:b<w.heap.size∧(qD ow ls b).isNone=true
  ·unfold vb at hb;rw [if_pos hc]at hb;exact h.ge b p hc.1 hb hp
  ·unfold vb at hb
   rw [if_neg hc]at hb
   have ho': ∃p',ow' b=some p':=by
    cases ho:ow' b with
    |none=>rw [ho]at hb;cases hb
    |some p'=>exact⟨p',rfl⟩
   obtain⟨p',ho'⟩:=ho'
   refine⟨(hnew b p' ho').2.1,fun hlt0=> ?_⟩
   have hbw:b<w.heap.size:=Nat.lt_of_lt_of_le hlt0 h.below.size
   cases hoi:qD ow ls b with
   |none=>exact absurd ⟨hbw,by rw [hoi];rfl⟩ hc
   |some p2=>
    obtain⟨d,q,ho,-⟩:=ZK hoi
    exact(h.ge b _ hbw ho (by simp)).2 hlt0
 have hc:=h
 have hr: ∀d,lk (qR st ls).r d=if wo d ls=true then none else(lk st.r d).map fun R=>{R with xs:=qZ d R.xs ls}:=fun d=>KN ls st.r d
 have hrel: ∀(d:Nat) (R:zn),(∀x∈ls,x.d≠d)→∀b,b<w.heap.size→rel (md R.o d) (ow b)→w'.heap[b]? =w.heap[b]? ∧vb ow ls w.heap.size t ow' b=ow b:=fun d R hn b hb hr=>old b hb (jS hn hr)
 have h0: ∀d,(∃x∈ls,x.d=d)→Wn st.r (qR st ls).r hd hd d:=fun d _ R' hR'=>by
  rw [hr]at hR'
  split at hR'
  ·cases hR'
  ·cases hx:lk st.r d with
   |none=>rw [hx]at hR';cases hR'
   |some R=>exact⟨R,rfl,rfl⟩
 have hD: ∀d,¬(∃x∈ls,x.d=d)→yu w w' st.r (qR st ls).r hd hd d:=fun d hn R' hR'=>by
  have hn': ∀x∈ls,x.d≠d:=fun x hx e=>hn ⟨x,hx,e⟩
  rw [hr,zAO hn']at hR'
  simp only [Bool.false_eq_true,if_false]at hR'
  cases hx:lk st.r d with
  |none=>rw [hx]at hR';cases hR'
  |some R=>
   rw [hx]at hR'
   simp only [Option.map_some,Option.some.injEq]at hR'
   subst hR'
   refine⟨R,rfl,rfl,fun p hp=> ?_⟩
   simp only [KO hn']at hp⊢
   exact⟨hp,xf p _ _ _ _ (h.root d R hx) hp (fun b o A n c hb hrl hcell=>by
    rw [qO (hrel d R hn' b hb hrl).1];exact hcell)⟩
 have hB: ∀t,yr st.b (qR st ls).b bk bk t:=fun t hl=>⟨hl,rfl⟩
 refine⟨h.big,h.defers,h.size,Nat.le_trans h.low hk.size,h.below.step hk.os hk.tape hk.output hk.size (fun b hb hf=> ?_),fun b p hlt hb hp=>hge b p hb hp hlt,fun b hb=> ?_,fun k v hv'=> ?_,fun d R' hR'=> ?_,fun k us hv'=> ?_,fun d R' i hR' hp=> ?_⟩
 ·refine hk.block b hb ?_
  show qD ow ls b=none
  cases hoi:qD ow ls b with
  |none=>rfl
  |some p=>
   obtain⟨d,q,ho,-⟩:=ZK hoi
   exact absurd (h.ge b _ hb ho (by simp)).2 hf
 ·have hb':w.heap.size≤b:=Nat.le_trans hk.size hb
  unfold vb
  rw [if_neg (fun hh=>by omega)]
  cases ho:ow' b with
  |none=>rfl
  |some p=>have :=(hnew b p ho).1;omega
 ·exact kd h0 hD hB v _ (fun d hd' hb=>(hbad d hb).s k v hv' hd') (hc.slot k v hv')
 ·rw [hr]at hR'
  split at hR'
  ·cases hR'
  ·rename_i hg
   have hg:wo d ls=false:=by simpa using hg
   cases hx:lk st.r d with
   |none=>rw [hx]at hR';cases hR'
   |some R=>
    rw [hx]at hR'
    simp only [Option.map_some,Option.some.injEq]at hR'
    subst hR'
    by_cases hin: ∃x∈ls,x.d=d
    ·have hex:R.o= .ex:=by
      obtain⟨x,hxm,rfl⟩:=hin
      obtain⟨len,R2,ho⟩:=hok x hxm
      have :=ho.root;rw [hx]at this;cases this
      exact ho.ex
     simp only [hex]
     by_cases hroot: ∃x∈ls,x.d=d∧x.p= []
     ·obtain⟨x,hxm,rfl,hp⟩:=hroot
      obtain⟨ys,hys⟩:=KG hg x hxm rfl
      obtain⟨len,R2,ho⟩:=hok x hxm
      have :=ho.root;rw [hx]at this;cases this
      obtain⟨q1,-⟩:=KJ h hv ho
      rw [hp]at q1
      simp only [yA,Option.some.injEq]at q1
      have he:=ho.elem
      rw [hp]at he
      simp only [vF]at he
      simp only [jK hsep x hxm rfl hp hys]
      have :=hout _ (ho.out ys hys)
      simp only at this
      rw [←q1,←he]at this
      exact qQ _ _ _ _ _ [] [] _ (fun b q _ hb=>by
       have :=back x hxm b q (by simpa using hb)
       rw [hp]at this
       simpa using this) this
     ·have hone: ∀x∈ls,x.d=d→∃j ys,x.p= [j]∧x.out=some ys:=fun x hxm e=>by
       obtain⟨len,R2,ho⟩:=hok x hxm
       rcases ho.short with hs|hs
       ·exact absurd ⟨x,hxm,e,hs⟩ hroot
       ·exact hs
      have hone': ∀x∈ls,x.d=d→∃j,x.p= [j]:=fun x hxm e=>by obtain⟨j,ys,h1,-⟩:=hone x hxm e;exact⟨j,h1⟩
      have hrt:=h.root d R hx
      rw [hex]at hrt
      obtain⟨zs,k1,k5⟩:=(zt _ _).1 hrt
      have hlen:(qZ d R.xs ls).length=R.xs.length:=WX hone'
      have hnil: ∀b,ow b=some (.root d [])→qD ow ls b=none:=fun b hb=>by
       cases hoi:qD ow ls b with
       |none=>rfl
       |some p=>
        obtain⟨d',q,h1,x,hxm,h2,q',h3,-⟩:=ZK hoi
        rw [hb]at h1;cases h1
        obtain⟨j,hj⟩:=hone' x hxm h2
        rw [hj]at h3;simp at h3
      have k1':Hd (sz τ) lo w' (vb ow ls w.heap.size t ow') (.ex d []) R.e (hd d) R.xs.length zs:=by
       obtain⟨m1,N,m2,m3,m4⟩:=k1
       refine⟨m1,N,m2,⟨m3.1,?_⟩,fun b hb=> ?_⟩
       ·rcases m3.2 with hn|⟨g,cap,cur,hv2,hb2,hg2,rest⟩
        ·exact .inl hn
        ·have hgo:=m4 g (by rw [hv2];rfl)
         have hglt:g<w.heap.size:=(Array.getElem?_eq_some_iff.1 hg2).1
         exact .inr ⟨g,cap,cur,hv2,hb2,by rw [(old g hglt (hnil g hgo)).1];exact hg2,rest⟩
       ·have hgo:=m4 b hb
        rw [(old b (m3.lt b hb).2 (hnil b hgo)).2];exact hgo
      refine(zt _ _).2 ⟨zs,by rw [hlen];exact k1',fun i y u hy hu=> ?_⟩
      have hi:i<R.xs.length:=by rw [←hlen];exact(List.getElem?_eq_some_iff.1 hy).1
      by_cases hsel: ∃x∈ls,x.d=d∧x.p= [i]
      ·obtain⟨x,hxm,rfl,hp⟩:=hsel
       obtain⟨j,ys,hj,hys⟩:=hone x hxm rfl
       obtain⟨len,R2,ho⟩:=hok x hxm
       have :=ho.root;rw [hx]at this;cases this
       rw [zAd hi hsep hone' x hxm rfl hp hys]at hy
       cases hy
       obtain⟨q1,-⟩:=KJ h hv ho
       rw [hp]at q1
       obtain⟨b1,o1,n1,c1,hv',hN,hb1,hr1,hc1⟩:=xu k1 hu
       rw [hv']at q1
       simp only [yA,hc1,Option.bind_some,Option.some.injEq]at q1
       have :=hout _ (ho.out ys hys)
       simp only at this
       rw [←q1]at this
       refine qQ _ _ _ _ _ [] ([]++ [i]) _ (fun b q _ hb=> ?_) this
       have :=back x hxm b q (by simpa using hb)
       rw [hp]at this
       simpa using this
      ·rw [uP (fun x hxm e=>by
        obtain⟨j,hj⟩:=hone' x hxm e
        exact⟨j,hj,fun e2=>hsel ⟨x,hxm,e,by rw [hj,e2]⟩⟩)]at hy
       refine yG _ _ hk.size _ _ _ (fun b hb hr=>old b hb ?_) (k5 i y u hy hu)
       obtain⟨q,hq⟩:=hr
       cases hoi:qD ow ls b with
       |none=>rfl
       |some p=>
        obtain⟨d',q',h1,x,hxm,h2,q2,h3,-⟩:=ZK hoi
        rw [hq]at h1
        simp only [Option.some.injEq,Pl.root.injEq,List.nil_append]at h1
        obtain⟨rfl,rfl⟩:=h1
        obtain⟨j,hj⟩:=hone' x hxm h2
        rw [hj]at h3
        simp only [List.cons_append,List.nil_append,List.cons.injEq]at h3
        exact absurd ⟨x,hxm,h2,by rw [hj,h3.1]⟩ hsel
    ·have hn': ∀x∈ls,x.d≠d:=fun x hx e=>hin ⟨x,hx,e⟩
     simp only [KO hn']
     exact yG _ _ hk.size _ _ _ (fun b hb hr=>hrel d R hn' b hb hr) (h.root d R hx)
 ·obtain⟨cs,ty,q1,q2,q3⟩:=hc.box k us hv'
  have hlt:bk k<w.heap.size:=(Array.getElem?_eq_some_iff.1 q1).1
  have hno:qD ow ls (bk k)=none:=by unfold qD;rw [q2]
  exact⟨cs,ty,by rw [(old _ hlt hno).1];exact q1,by rw [(old _ hlt hno).2];exact q2,ZO h0 hD hB us cs (fun d hd' hb=>(hbad d hb).b k us hv' hd') q3⟩
 ·rw [hr]at hR'
  split at hR'
  ·cases hR'
  ·cases hx:lk st.r d with
   |none=>rw [hx]at hR';cases hR'
   |some R=>
    rw [hx]at hR'
    simp only [Option.map_some,Option.some.injEq]at hR'
    subst hR'
    exact h.pin d R i hx hp
theorem zAm (h:zh τ lo w0 ow hd bk st a w){vs:List AV}{cv:List Value}(hv:za τ w st.r st.b hd bk vs cv){own:List Nat}{outs:List Out}{ls:List yn}{ob2:Prop}
  (hbad: ∀d,(∃x∈ls,x.d=d)→YV d st) (hl:qj τ st vs outs own=some (ls,ob2)) (hob2:ob2) (hsep:vh ls) (hnd:own.Nodup) {t:Nat} {ress:List VT} (hs:szL τ (zr ress)) (hfl:(zr ress).length≤1000000) {e:Ending} {w':World} (hp:zCi τ lo w (qD ow ls) outs ress cv e w'):
  ∃z ow' hd',e= .returned z∧zh τ lo w0 ow' hd' bk (yf t 0 (zr ress) (qR st ls)) a w'∧AvR τ w' (yf t 0 (zr ress) (qR st ls)).r (yf t 0 (zr ress) (qR st ls)).b hd' bk (qL (xK τ t 0 ress)) z:=by
 obtain⟨rs,ow',he,hk,hlow,hnew,hres,hout⟩:=hp
 have h1:=ue h hv hbad hl hob2 hsep hnd (t:=t) hk hlow hnew hout
 have e2: ∀b j q,j<1000000→ow' b=some (.root j q)→vb ow ls w.heap.size t ow' b=some (.root (zZ t j) q):=fun b j q hj hq=>by
  have : ¬(b<w.heap.size∧(qD ow ls b).isNone=true):=fun⟨h1,h2⟩=>by
   rw [hlow b h1 (by cases ho:qD ow ls b with|none=>rfl|some p=>rw [ho]at h2;cases h2)]at hq;cases hq
  unfold vb
  rw [if_neg this,hq]
  simp only
  rw [if_neg (by omega)]
 obtain⟨cs,k1,k2,k3⟩:=XP (bk:=bk) (τ:=τ) (rr:=(yf t 0 (zr ress) (qR st ls)).r) (bb:=(yf t 0 (zr ress) (qR st ls)).b) (t:=t) hres
 have k2': ∀(i:Nat) (d:D) (c:Value),(zr ress)[i]? =some d→cs[i]? =some c→Rp (sz τ) lo w' (vb ow ls w.heap.size t ow') (.ex (zZ t (0+i)) []) d c:=fun i d c hd hc=>by
  have hi:i<1000000:=Nat.lt_of_lt_of_le (List.getElem?_eq_some_iff.1 hd).1 hfl
  exact qQ _ _ _ _ _ [] [] _ (fun b q _ e=>e2 b _ q (by omega) e) (k2 i d c hd hc)
 obtain⟨hd',r1,r2,r3⟩:=VY t (zr ress) 0 (qR st ls) hd cs h1 k1 k2'
 exact⟨wD rs,_,hd',he,r1,VZ (k3 w' hd' (qv (ow:=vb ow ls w.heap.size t ow') (lo:=lo) t (zr ress) 0 cs k1 hs (fun i d c h1 h2=>⟨_,k2' i d c h1 h2⟩) (fun i e xs c h1 h2=>(r3 i e xs c h1 h2).2)))⟩
def inDl :List Nat→Option Tmp→Bool
 |x::xs,some d=>if x=d then true else inDl xs (some d)
 |_,_=>false
def vN (X:Oper→St→(Dl→Prop)→Prop)(P:Program)(np:Bool)(τ:Ty)(t:List Nat)(all:List Oper)(E:List Rec→St→Prop):List Oper→Nat→List Rec→St→Prop
 | [],_,cs,st=>E cs st
 |o::os,k,cs,st=>
  match o.guard with
  |none=>if inDl t o.dst=true then X o st fun δ=>vN X P np τ t all E os (k+1) (⟨k,fp o st,δ.wr⟩::cs) (st.app o.dst δ)else wa P np τ o st fun δ=>vN X P np τ t all E os (k+1) (⟨k,fp o st,δ.wr⟩::cs) (st.app o.dst δ)
  |some _=>False
theorem WS {X:Oper→St→(Dl→Prop)→Prop}(hX: ∀o st K,X o st K→∃δ,qI P np τ o st δ∧K δ){t:List Nat}{all:List Oper}{A:List (List Nat)}{Q:St→Prop}: ∀(os:List Oper) (k:Nat) (cs:List Rec) (st:St),vN X P np τ t all (fun cs st=>chk all A cs=true∧Q st) os k cs st→chk all A cs=true∧KK P np τ all A (fun st'=> ∃s,Eqv st' s∧Q s) os k cs st
 | [],k,cs,st,h=>⟨h.1,st,Eqv.refl _,h.2⟩
 |o::os,k,cs,st,h=>by
  have go:(∃δ,xH P np τ all o st δ∧vN X P np τ t all (fun cs st=>chk all A cs=true∧Q st) os (k+1) (⟨k,fp o st,δ.wr⟩::cs) (st.app o.dst δ))→chk all A cs=true∧KK P np τ all A (fun st'=> ∃s,Eqv st' s∧Q s) (o::os) k cs st:=by
   rintro⟨δ,h1,h2⟩
   obtain⟨h3,h4⟩:=WS hX os _ _ _ h2
   simp only [chk,Bool.and_eq_true]at h3
   exact⟨h3.2,δ,h1,h3.1,h4⟩
  simp only [vN]at h
  split at h
  ·rename_i hg
   split at h
   ·obtain⟨δ,h1,h2⟩:=hX _ _ _ h
    exact go ⟨δ,by unfold xH;rw [hg];exact h1,h2⟩
   ·obtain⟨δ,h1,h2⟩:=wt h
    exact go ⟨δ,by unfold xH;rw [hg];exact h1,h2⟩
  ·exact h.elim
theorem zAW {X:Oper→St→(Dl→Prop)→Prop}{t:List Nat}{all:List Oper}(E:List Rec→St→Prop)(l2:List Oper): ∀(l1:List Oper) (k:Nat) (cs:List Rec) (st:St),vN X P np τ t all E (l1++l2) k cs st=vN X P np τ t all (fun cs st=>vN X P np τ t all E l2 (k+l1.length) cs st) l1 k cs st
 | [],k,cs,st=>rfl
 |o::os,k,cs,st=>by
  have e: ∀cs st,vN X P np τ t all E (os++l2) (k+1) cs st=vN X P np τ t all (fun cs st=>vN X P np τ t all E l2 (k+(o::os).length) cs st) os (k+1) cs st:=fun cs st=>by
   rw [zAW E l2 os (k+1) cs st,List.length_cons,show k+1+os.length=k+(os.length+1)from by omega]
  simp only [List.cons_append,vN,e]
theorem KL (n:Nat){X:Oper→St→(Dl→Prop)→Prop}{t:List Nat}{all:List Oper}{E:List Rec→St→Prop}{os:List Oper}{k:Nat}{cs:List Rec}{st:St}(hn:n≤os.length)(h: ∀K:List Rec→St→Prop,(∀cs st,vN X P np τ t all E (os.drop n) (k+n) cs st→K cs st)→vN X P np τ t all K (os.take n) k cs st):vN X P np τ t all E os k cs st:=by
 have :=h _ fun _ _ h=>h
 have hl:(os.take n).length=n:=by rw [List.length_take];omega
 have e:vN X P np τ t all (fun cs st=>vN X P np τ t all E (os.drop n) (k+(os.take n).length) cs st) (os.take n) k cs st:=by rw [hl];exact this
 rw [←zAW,List.take_append_drop]at e
 exact e
theorem Uk (np:Bool)(X:Oper→St→(Dl→Prop)→Prop)(t:List Nat)(hX: ∀o st K,X o st K→∃δ,qI P np τ o st δ∧K δ){Q:Exit→St→Prop}{st:St}(hτ:zv P τ)(hpos:yO τ)(hmix:P.follows .mixedOrders=true){id:Nat}{ops:List Oper}(hs:Zf np ops (wb ops)=true)(hd:yo st.n ops=true)(h: ∀E:List Rec→St→Prop,(∀cs st,chk ops (wb ops) cs=true→Q .normal st→E cs st)→vN X P np τ t ops E ops 0 [] (st.start np ops)):awp P τ (.region id ops.toArray true) Q st:=
 Um hτ hpos hmix hs hd (WS hX (Q:=Q .normal) ops 0 [] _ (h _ fun cs st h1 h2=>⟨h1,h2⟩)).2
end
attribute [push_cast] uq inDl vN wd
section
variable {P:Program} {all:List Oper} {T:List (List Nat)} {c:Nat} {Q':Exit→Act→World→Prop}
def ux (all:List Oper)(T:List (List Nat))(c:Nat):Bool:=(List.range all.length).all fun j=>decide (j<c)||(List.range c).all fun i=>Vy T j i
def JK (all:List Oper):Bool:=all.all fun o=>o.guard.isNone
def Wy (all:List Oper):Bool:=(List.range all.length).all fun j=>match all[j]? with|some o=>o.after.toList.all fun e=> !(Region.binds .any e)||decide (e.on<j)|none=>true
def xP (N:Nat)(l:Array Bool):Array Bool:=l++Array.replicate (N - l.size) false
theorem XC {N:Nat}{l:Array Bool}(i:Nat):(xP N l).getD i false=l.getD i false:=by
 unfold xP
 rw [Array.getD_eq_getD_getElem?,Array.getD_eq_getD_getElem?]
 rcases Nat.lt_or_ge i l.size with h|h
 ·rw [Array.getElem?_append_left h]
 ·rw [Array.getElem?_append_right h,Array.getElem?_eq_none h,Array.getElem?_replicate]
  split<;>rfl
theorem zJB {N:Nat}{l:Array Bool}{i:Nat}(h:i<l.size):(xP N l).getD i true=l.getD i true:=by
 unfold xP
 rw [Array.getD_eq_getD_getElem?,Array.getD_eq_getD_getElem?,Array.getElem?_append_left h]
theorem zAD {N:Nat}{l:Array Bool}{i:Nat}(h:i<l.size):(xP N l).setIfInBounds i true=xP N (l.setIfInBounds i true):=by
 unfold xP
 refine Array.ext_getElem? fun j=> ?_
 rw [Array.getElem?_setIfInBounds]
 have e1:(l.setIfInBounds i true).size=l.size:=Array.size_setIfInBounds ..
 rw [e1,Array.getElem?_append,Array.getElem?_append,e1]
 rcases Nat.lt_or_ge j l.size with hj|hj
 ·rw [if_pos hj,if_pos hj,Array.getElem?_setIfInBounds]
  split
  ·rename_i e
   rw [if_pos (by rw [Array.size_append];omega)]
  ·rfl
 ·rw [if_neg (by omega),if_neg (by omega),if_neg (by omega)]
theorem zGf {l:Array Bool}{i:Nat}(h:i<l.size):l.getD i true=l.getD i false:=by
 rw [Array.getD_eq_getD_getElem?,Array.getD_eq_getD_getElem?,Array.getElem?_eq_getElem h]
 rfl
theorem Wx (hlt:Wy all=true){j:Nat}{o:Oper}(ho:all[j]? =some o){e:Edge}(he:e∈o.after)(hb:Region.binds .any e=true):e.on<j:=by
 have hj:=(List.getElem?_eq_some_iff.1 ho).1
 have h1:=List.all_eq_true.1 hlt j (List.mem_range.2 hj)
 rw [ho]at h1
 have h2:=List.all_eq_true.1 h1 e (by simpa using he)
 simpa [hb]using h2
theorem zBD {md:Region.Mode}{ops:Array Oper}{Q:Exit→Act→World→Prop}: ∀(f:Nat) (l:Array Bool) (a:Act) (w:World),wpAny P md ops Q f l a w→wpAny P md ops Q (f+1) l a w
 |0,l,a,w,h=>⟨fun _=>h.2,fun i hi=>by rw [h.1]at hi;cases hi⟩
 |f+1,l,a,w,h=>⟨h.1,fun i hi=>wpOp_mono (fun a w h=>zBD f _ a w h) (h.2 i hi)⟩
theorem uc {md:Region.Mode}{ops:Array Oper}{Q:Exit→Act→World→Prop}{f:Nat}{l:Array Bool}{a:Act}{w:World}(h:wpAny P md ops Q f l a w): ∀k,wpAny P md ops Q (f+k) l a w
 |0=>h
 |k+1=>zBD _ _ _ _ (uc h k)
def JS (P:Program)(all:List Oper)(Q':Exit→Act→World→Prop)(f:Nat)(l:Array Bool):Exit→Act→World→Prop
 | .normal,a,w=>wpAny P .any all.toArray Q' f l a w
 |e,a,w=>Q' e a w
theorem zIX {o:Oper}{a:Act}{w:World}{K:Act→World→Prop}{f:Nat}{l:Array Bool}(h:o.wp P a w K (JS P all Q' f l)):o.wp P a w K Q':=by
 unfold Oper.wp at*
 generalize (execOp a.eval o).run P w=r at*
 cases r with
 |ok n w'=>cases n<;>exact h
 |halt b w'=>cases b<;>exact h
theorem jX (hng:JK all=true){l1:Array Bool}(hs:l1.size=c){j:Nat}(hj:j<c)(hc:c≤all.length):j∈Region.ready .any all.toArray (xP all.length l1)↔j∈Region.ready .any (all.take c).toArray l1:=by
 rw [mem_ready,mem_ready,zJB (by omega)]
 simp only [XC,List.getElem?_toArray,List.getElem?_take,if_pos hj]
theorem zDW (hA:XS all T=true)(hc:c≤all.length)(hcut:ux all T c=true)(hng:JK all=true)(hlt:Wy all=true){f2:Nat}:
  ∀(f1:Nat) (l1:Array Bool) (a:Act) (w:World),l1.size=c→Ju all (xP all.length l1)→wpAny P .any (all.take c).toArray (JS P all Q' f2 (xP all.length (Array.replicate c true))) f1 l1 a w→wpAny P .any all.toArray Q' (f1+f2) (xP all.length l1) a w:=by
 have full: ∀l1:Array Bool,l1.size=c→(∀i,i<c→l1.getD i false=true)→l1=Array.replicate c true:=fun l1 hs h=>by
  refine Array.ext_getElem? fun i=> ?_
  rw [Array.getElem?_replicate]
  split
  ·rename_i hi
   have h1:=h i hi
   rw [Array.getD_eq_getD_getElem?]at h1
   cases hx:l1[i]? with
   |none=>rw [hx]at h1;simp at h1
   |some b=>rw [hx]at h1;simp at h1;rw [h1]
  ·rw [Array.getElem?_eq_none (by omega)]
 have least: ∀l1:Array Bool,l1.size=c→¬(∀i,i<c→l1.getD i false=true)→∃i,i<c∧l1.getD i false=false∧∀k,k<i→l1.getD k false=true:=fun l1 hs h=>by
  have key: ∀n,n≤c→(∀i,i<n→l1.getD i false=true)∨∃i,i<c∧l1.getD i false=false∧∀k,k<i→l1.getD k false=true:=by
   intro n
   induction n with
   |zero=>exact fun _=> .inl fun i hi=>absurd hi (Nat.not_lt_zero i)
   |succ n ih=>
    intro hn
    rcases ih (by omega)with h1|h1
    ·cases hx:l1.getD n false with
     |true=>
      refine .inl fun i hi=> ?_
      by_cases e:i=n
      ·rw [e];exact hx
      ·exact h1 i (by omega)
     |false=>exact .inr ⟨n,by omega,hx,h1⟩
    ·exact .inr h1
  exact(key c (Nat.le_refl _)).resolve_left h
 have rdy: ∀l1:Array Bool,l1.size=c→∀i,i<c→l1.getD i false=false→(∀k,k<i→l1.getD k false=true)→i∈Region.ready .any (all.take c).toArray l1:=fun l1 hs i hi h0 hk=>by
  rw [mem_ready,zGf (by omega)]
  have ho:all[i]? =some (all[i]'(by omega)):=List.getElem?_eq_getElem (by omega)
  exact⟨h0,_,by rw [List.getElem?_toArray,List.getElem?_take,if_pos hi];exact ho,fun e he hb=>hk _ (Wx hlt ho he hb)⟩
 intro f1
 induction f1 with
 |zero=>
  intro l1 a w hs hdn h
  by_cases hall: ∀i,i<c→l1.getD i false=true
  ·rw [full l1 hs hall,Nat.zero_add]
   exact h.2
  ·obtain⟨i,hi,h0,hk⟩:=least l1 hs hall
   have :=rdy l1 hs i hi h0 hk
   rw [h.1]at this
   cases this
 |succ f1 ih=>
  intro l1 a w hs hdn h
  by_cases hall: ∀i,i<c→l1.getD i false=true
  ·have hn:Region.ready .any (all.take c).toArray l1= []:=by
    refine List.eq_nil_iff_forall_not_mem.2 fun j hj=> ?_
    obtain⟨h1,o,h2,-⟩:=mem_ready.1 hj
    have hjc:j<c:=by
     rw [List.getElem?_toArray]at h2
     have :=(List.getElem?_eq_some_iff.1 h2).1
     rw [List.length_take]at this
     omega
    rw [zGf (by omega),hall j hjc]at h1
    cases h1
   have h3:=h.1 hn
   have h4:wpAny P .any all.toArray Q' f2 (xP all.length (Array.replicate c true)) a w:=h3
   rw [full l1 hs hall,show f1+1+f2=f2+(f1+1)from by omega]
   exact uc h4 _
  ·obtain⟨i,hi,h0,hk⟩:=least l1 hs hall
   rw [show f1+1+f2=(f1+f2)+1 from by omega]
   refine⟨fun hn=> ?_,fun j hj=> ?_⟩
   ·have :=(jX hng hs hi hc).2 (rdy l1 hs i hi h0 hk)
    rw [hn]at this
    cases this
   ·have hjc:j<c:=by
     rcases Nat.lt_or_ge j c with h1|h1
     ·exact h1
     ·exfalso
      obtain⟨-,o,ho,-⟩:=mem_ready.1 hj
      rw [List.getElem?_toArray]at ho
      have hjl:=(List.getElem?_eq_some_iff.1 ho).1
      have h2:=List.all_eq_true.1 hcut j (List.mem_range.2 hjl)
      rw [Bool.or_eq_true,decide_eq_true_eq]at h2
      have h3:=List.all_eq_true.1 (h2.resolve_left (by omega)) i (List.mem_range.2 hi)
      have h4:=Qy hA hdn j i (.inr hj) h3
      rw [XC,h0]at h4
      cases h4
    have hjA:=(jX hng hs hjc hc).1 hj
    have h5:=h.2 j hjA
    have ho:all[j]? =some (all[j]'(by omega)):=List.getElem?_eq_getElem (by omega)
    have hg:(all[j]'(by omega)).guard=none:=by
     have :=List.all_eq_true.1 hng _ (List.mem_of_getElem? ho)
     simpa using this
    unfold wpOp at h5⊢
    rw [List.getElem?_toArray,List.getElem?_take,if_pos hjc,ho]at h5
    rw [List.getElem?_toArray,ho]
    simp only at h5⊢
    rw [if_pos (by simp [Region.wanted,hg])]at h5⊢
    have hnext: ∀a w,wpAny P .any (all.take c).toArray (JS P all Q' f2 (xP all.length (Array.replicate c true))) f1 (l1.setIfInBounds j true) a w→wpAny P .any all.toArray Q' (f1+f2) ((xP all.length l1).setIfInBounds j true) a w:=fun a w h6=>by
     rw [zAD (by omega)]
     refine ih _ a w (by simpa using hs) ?_ h6
     rw [←zAD (by omega)]
     exact KC hdn hj
    rcases h5 with h5|⟨h5,h6⟩
    ·exact .inl (zIX (Oper.wp_mono hnext h5))
    ·exact .inr ⟨h5,h6⟩
theorem zE0 (hA:XS all T=true)(hcut:ux all T (c+1)=true)(hng:JK all=true)(hlt:Wy all=true){oc:Oper}(hoc:all[c]? =some oc){f:Nat}{a:Act}{w:World}
  (h:oc.wp P a w (wpAny P .any all.toArray Q' f (xP all.length (Array.replicate (c+1) true))) Q'):wpAny P .any all.toArray Q' (f+1) (xP all.length (Array.replicate c true)) a w:=by
 have hcl:=(List.getElem?_eq_some_iff.1 hoc).1
 have hl: ∀i,i<c→(xP all.length (Array.replicate c true)).getD i false=true:=fun i hi=>by
  rw [XC,Array.getD_eq_getD_getElem?,Array.getElem?_replicate,if_pos hi];rfl
 have hu:(xP all.length (Array.replicate c true)).getD c true=false:=by
  unfold xP
  rw [Array.getD_eq_getD_getElem?,Array.getElem?_append_right (by simp),Array.getElem?_replicate,if_pos (by simp;omega)]
  rfl
 have hset:(xP all.length (Array.replicate c true)).setIfInBounds c true=xP all.length (Array.replicate (c+1) true):=by
  unfold xP
  refine Array.ext_getElem? fun j=> ?_
  rw [Array.getElem?_setIfInBounds,Array.getElem?_append,Array.getElem?_append]
  simp only [Array.size_replicate,Array.getElem?_replicate,Array.size_append]
  repeat' split
  all_goals first|rfl|omega
 have hr:c∈Region.ready .any all.toArray (xP all.length (Array.replicate c true)):=by
  rw [mem_ready]
  exact⟨hu,oc,by rw [List.getElem?_toArray];exact hoc,fun e he hb=>hl _ (Wx hlt hoc he hb)⟩
 refine⟨fun hn=>(by rw [hn]at hr;cases hr),fun j hj=> ?_⟩
 have hdn:Ju all (xP all.length (Array.replicate c true)):=fun k o ho hk e he hb=>by
  rw [XC,Array.getD_eq_getD_getElem?,Array.getElem?_replicate]at hk
  split at hk
  ·have :=Wx hlt ho he hb
   exact hl _ (by omega)
  ·simp at hk
 have hjc:j=c:=by
  obtain⟨h1,o,ho,-⟩:=mem_ready.1 hj
  rw [List.getElem?_toArray]at ho
  have hjl:=(List.getElem?_eq_some_iff.1 ho).1
  rcases Nat.lt_trichotomy j c with h2|h2|h2
  ·have h3:=JA (hl j h2)
   rw [h1]at h3;cases h3
  ·exact h2
  ·have h3:=List.all_eq_true.1 hcut j (List.mem_range.2 hjl)
   rw [Bool.or_eq_true,decide_eq_true_eq]at h3
   have h4:=List.all_eq_true.1 (h3.resolve_left (by omega)) c (List.mem_range.2 (by omega))
   have h5:=JA (Qy hA hdn j c (.inr hj) h4)
   rw [hu]at h5;cases h5
 subst hjc
 have hg:oc.guard=none:=by
  have :=List.all_eq_true.1 hng _ (List.mem_of_getElem? hoc)
  simpa using this
 unfold wpOp
 rw [List.getElem?_toArray,hoc]
 simp only
 rw [if_pos (by simp [Region.wanted,hg]),hset]
 exact .inl h
end
section
variable {P:Program} {τ:Ty} {lo:Nat} {w0:Fz} {st:St} {a:Act} {w:World}
def zGu (npA npB:Bool)(ops:List Oper)(c:Nat):Bool:=
 Zf npA (ops.take c) (wb (ops.take c))&&(XS ops (wb ops)&&(wx npB ops&&(decide (c<ops.length)&&(ux ops (wb ops) c&&(ux ops (wb ops) (c+1)&&(JK ops&&(Wy ops&&Yo ops (ops.drop (c+1)).length (c+1) (xP ops.length (Array.replicate (c+1) true)))))))))
theorem zBQ (npA npB:Bool)(c:Nat)(XA:Oper→St→(Dl→Prop)→Prop)(tA:List Nat)(hXA: ∀o st K,XA o st K→∃δ,qI P npA τ o st δ∧K δ)(X:Oper→(St→Prop)→St→Prop)
  (hX: ∀(lo:Nat) (w0:Fz) (st:St) (a:Act) (w:World) (o:Oper) (K:St→Prop) (Q:Exit→Act→World→Prop) (K':Act→World→Prop),(∀k,o.dst=some k→k<a.tmps.size)→Rel τ lo w0 st a w→X o K st→(∀st' x w',K st'→Rel τ lo w0 st' (a.put o.dst x) w'→K' (a.put o.dst x) w')→o.wp P a w K' Q)
  (hτ:zv P τ) (hpos:yO τ) (hmix:P.follows .mixedOrders=true) {Q:Exit→St→Prop} {id:Nat} {ops:List Oper} (hs:zGu npA npB ops c=true) (hd:yo st.n ops=true) {oc:Oper} (hoc:ops[c]? =some oc)
  (h: ∀EA:List Rec→St→Prop,(∀cs st1,chk (ops.take c) (wb (ops.take c)) cs=true→yo st1.n ops=true→X oc (fun st2=> ∀EB:List Rec→St→Prop,(∀cs st3,chk ops (wb ops) cs=true→Q .normal st3→EB cs st3)→qK P npB τ ops EB (ops.drop (c+1)) (c+1) [] (st2.start npB (ops.drop (c+1)))) st1→EA cs st1)→
   vN XA P npA τ tA (ops.take c) EA (ops.take c) 0 [] (st.start npA (ops.take c))):awp P τ (.region id ops.toArray true) Q st:=fun lo w0 a w hr=>by
 simp only [zGu,Zf,Bool.and_eq_true,decide_eq_true_eq]at hs
 obtain⟨⟨a1,a2,a3⟩,b1,b2,hcl,c1,c2,hng,hlt,b3⟩:=hs
 have hn:a.tmps.size=st.n:=by obtain⟨ow,hd,bk,h⟩:=hr;exact h.size
 have hdr:Rel τ lo w0 st a {w with drawn:=w.drawn+1}:=by
  obtain⟨ow,hd,bk,h⟩:=hr
  exact⟨ow,hd,bk,Vq h⟩
 have hr':=XO (np:=npA) hdr (ops.take c)
 refine wp_region_any hmix ?_
 have htake:(ops.take c).length=c:=by rw [List.length_take];omega
 have hdsub: ∀(l:List Oper),(∀o∈l,o∈ops)→∀m,yo m ops=true→yo m l=true:=fun l hl m hm=>List.all_eq_true.2 fun o ho=>List.all_eq_true.1 hm o (hl o ho)
 -- the first part
 have hlex:=(WS hXA (A:=wb (ops.take c)) (Q:=fun st1=>yo st1.n ops=true∧X oc (fun st2=> ∀EB:List Rec→St→Prop,(∀cs st3,chk ops (wb ops) cs=true→Q .normal st3→EB cs st3)→qK P npB τ ops EB (ops.drop (c+1)) (c+1) [] (st2.start npB (ops.drop (c+1)))) st1) (ops.take c) 0 [] _ (h _ fun cs st h1 h2 h3=>⟨h1,h2,h3⟩)).2
 have hany:=Yw (fun st st' he ⟨s,h1,h2⟩=>⟨s,he.symm.trans h1,h2⟩) a1 (ops.take c) 0 [] (Array.replicate (ops.take c).length false) _ (by simp) (fun j o _ hj=>by
  rw [Array.getD_eq_getD_getElem?,Array.getElem?_replicate]at hj
  split at hj<;>simp at hj) a3 hlex
 have hfirst:=ZU (Q':=JS P ops (fun e a' w'=> ∃st',Rel τ lo w0 st' a' w'∧Q e st') (ops.length - c) (xP ops.length (Array.replicate c true))) hτ hpos a2 (fun st1 a1 w1 hq hr1=>by
   obtain⟨s,he,hds,hx⟩:=hq
   have hrs:Rel τ lo w0 s a1 w1:=xL hr1 he.cov
   show wpAny P .any ops.toArray _ (ops.length - c) _ a1 w1
   rw [show ops.length - c=(ops.length - c - 1)+1 from by omega]
   refine zE0 b1 c2 hng hlt hoc ?_
   have hna:a1.tmps.size=s.n:=by obtain⟨ow,hd,bk,h⟩:=hrs;exact h.size
   have hdo: ∀k,oc.dst=some k→k<a1.tmps.size:=fun k hk=>by
    have :=List.all_eq_true.1 hds oc (List.mem_of_getElem? hoc)
    rw [hk]at this
    rw [hna]
    simpa using this
   refine hX lo w0 s a1 w1 oc _ _ _ hdo hrs hx fun st2 x w2 hK hr2=> ?_
   have hr2':=XO (np:=npB) hr2 (ops.drop (c+1))
   have hB:=hK (fun cs st=>chk ops (wb ops) cs=true∧Q .normal st) fun cs st h1 h2=>⟨h1,h2⟩
   rw [kC (fun cs=>chk ops (wb ops) cs=true) (Q .normal)]at hB
   have hlexB:=(WR (ops.drop (c+1)) (c+1) [] _ _ (Eqv.refl _) hB).2
   have hlf: ∀i,i<c+1→(xP ops.length (Array.replicate (c+1) true)).getD i false=true:=fun i hi=>by
    rw [XC,Array.getD_eq_getD_getElem?,Array.getElem?_replicate,if_pos hi];rfl
   have hanyB:=Yw (fun st st' he ⟨s,h1,h2⟩=>⟨s,he.symm.trans h1,h2⟩) b1 (ops.drop (c+1)) (c+1) [] (xP ops.length (Array.replicate (c+1) true)) _ (fun j=>by rw [List.getElem?_drop]) (fun j o ho hj e he hb=>by
    rw [XC,Array.getD_eq_getD_getElem?,Array.getElem?_replicate]at hj
    split at hj
    ·have :=Wx hlt ho he hb
     exact hlf _ (by omega)
    ·simp at hj) b3 hlexB
   have hlast:=ZU (Q':=fun e a' w'=> ∃st',Rel τ lo w0 st' a' w'∧Q e st') hτ hpos b2 (fun st' a w ⟨s,he,hq⟩ hr=>⟨s,xL hr he.cov,hq⟩) (ops.drop (c+1)).length [] (xP ops.length (Array.replicate (c+1) true)) (st2.start npB (ops.drop (c+1))) (a1.put oc.dst x) w2 (by rw [xF,hna];exact hds) (fun j o ho hj hm=>by
    have hjc:c+1≤j:=by
     rcases Nat.lt_or_ge j (c+1)with h1|h1
     ·have :=JA (hlf j h1)
      rw [hj]at this;cases this
     ·exact h1
    exact Yh (j:=j - (c+1)) (by rw [List.getElem?_drop,show c+1+(j - (c+1))=j from by omega];exact ho) hm) (fun e=>by unfold St.start;rw [if_pos e];exact WE _) hr2' hanyB
   rw [show ops.length - c - 1=(ops.drop (c+1)).length from by rw [List.length_drop];omega]
   exact hlast) (ops.take c).length [] (Array.replicate (ops.take c).length false) (st.start npA (ops.take c)) a {w with drawn:=w.drawn+1} (by rw [hn];exact hdsub _ (fun o ho=>List.mem_of_mem_take ho) _ hd) (fun j o ho _ hm=>Yh ho hm) (fun e=>by unfold St.start;rw [if_pos e];exact WE _) hr' hany
 have hpart:=zDW (P:=P) (Q':=fun e a' w'=> ∃st',Rel τ lo w0 st' a' w'∧Q e st') b1 (by omega) c1 hng hlt (f2:=ops.length - c) c (Array.replicate c false) a {w with drawn:=w.drawn+1} (by simp) (fun k o ho hk=>by
  rw [XC,Array.getD_eq_getD_getElem?,Array.getElem?_replicate]at hk
  split at hk<;>simp at hk) (by rw [htake]at hfirst;exact hfirst)
 rw [show c+(ops.length - c)=ops.length from by omega]at hpart
 have hrep:xP ops.length (Array.replicate c false)=Array.replicate ops.toArray.size false:=by
  unfold xP
  refine Array.ext_getElem? fun j=> ?_
  rw [Array.getElem?_append]
  simp only [Array.size_replicate,Array.getElem?_replicate,List.size_toArray]
  repeat' split
  all_goals first|rfl|omega
 rw [hrep]at hpart
 simpa using hpart
variable {np:Bool} {ow:Nat→Option Pl} {hd:Nat→Value} {bk:Nat→Nat} {st':St}
def zAl :AV→Bool
 | .fn _ _=>false
 | .bp _ _=>false
 |_=>true
theorem zCt {e1:TypeId}{t:TypeId}{v:AV}(hp:zAl v=true)(h:AgV st st' v):Zo τ e1 st' t v=Zo τ e1 st t v:=by
 cases v<;>simp only [Zo]<;>first|(cases hp;done)|skip
 all_goals first
  |(rw [jl h];done)
  |(
   rename_i d p i
   simp only [wM]
   have :=h.1 d (by simp [AV.nm])
   cases p with
   |cons _ _=>rfl
   |nil=>cases i with
    |succ _=>rfl
    |zero=>simp only [this])
theorem zDt {e1:TypeId}{v:AV}(h:AgV st st' v)(hb: ∀T i cs,v= .bp T i→lk st.b T=some cs→AgV st st' (.agg cs)):wM τ e1 st' v=wM τ e1 st v:=by
 cases v<;>simp only [wM]
 ·rename_i d p i
  have :=h.1 d (by simp [AV.nm])
  cases p with
  |cons _ _=>rfl
  |nil=>cases i with
   |succ _=>rfl
   |zero=>simp only [this]
 ·rename_i T i
  have h2:=h.2 T (by simp [AV.nm])
  cases i with
  |succ _=>rfl
  |zero=>
   simp only [h2]
   cases hx:lk st.b T with
   |none=>rfl
   |some cs=>simp only [ZY (hb T 0 cs rfl hx)]
theorem zFL {e1:TypeId}{t:TypeId}{v:AV}(hf:(match v with| .fn _ _=>false|_=>true)=true)(h:AgV st st' v)(hb: ∀T i cs,v= .bp T i→lk st.b T=some cs→AgV st st' (.agg cs)):Zo τ e1 st' t v=Zo τ e1 st t v:=by
 cases v<;>simp only [Zo]<;>first|(cases hf;done)|skip
 all_goals first
  |(rw [jl h];done)
  |(rw [zDt h hb])
theorem Kq {e1:TypeId}: ∀{vs:List AV} {ts:List TypeId},(∀v∈vs,∀t,Zo τ e1 st' t v=Zo τ e1 st t v)→wL τ e1 st' ts vs=wL τ e1 st ts vs
 | [],ts,_=>rfl
 |v::vs,ts,h=>by
  simp only [wL]
  rw [h v List.mem_cons_self,Kq (vs:=vs) fun u hu=>h u (List.mem_cons_of_mem _ hu)]
def un (P:Program)(τ:Ty)(e1:TypeId)(o:Oper)(st:St)(K:Dl→Prop):Prop:=
 match mkF o with
 |some (f,caps)=>K ⟨.fn f (caps.map (ev st)),[],[],[]⟩
 |none=>
  match zz o with
  |some _=>False
  |none=>
   match wm st o with
   |some (f,vs,ts)=>
    match wL τ e1 st ts vs with
    |some (as9,ob)=>vs.all (fun v=>match v with| .fn _ _=>false|_=>true)=true∧((vs.take (vs.length - (qg o st).length)).all zAl=true)∧ob∧∃k n,FnX P τ f as9 [.c (.int k n)]∧K ⟨.int k n,[],[],[]⟩
    |none=>False
   |none=>False
theorem zFQ {o:Oper}{f:FuncId}{vs:List AV}{ts:List TypeId}(hc:wm st o=some (f,vs,ts)): ∃(args:List Operand),vs=args.map (ev st)++qg o st∧(∀x∈args,x∈qa o.op):=by
 unfold wm at hc
 unfold qg
 cases ho:o.op with
 |call c=>
  rw [ho]at hc
  obtain⟨callee,args,ats⟩:=c
  cases callee with
  |value x=>
   simp only at hc⊢
   split at hc
   ·rename_i f' us hx
    cases hc
    rw [hx]
    exact⟨args.toList,rfl,fun y hy=>by simp [qa,Op.operands,Call.operands];exact .inr (by simpa using hy)⟩
   ·cases hc
  |_=>simp at hc
 |_=>rw [ho]at hc;simp at hc
theorem zHE {o:Oper}(h:xU o st st'):wm st' o=wm st o:=by
 have he:=h.e
 unfold wm
 cases ho:o.op with
 |call c=>
  rw [ho]at he
  obtain⟨callee,args,ats⟩:=c
  cases callee with
  |value x=>
   simp only
   rw [he x (by simp [Op.operands,Call.operands]),List.map_congr_left fun y hy=>he y (by simp [Op.operands,Call.operands];exact .inr (by simpa using hy))]
  |_=>rfl
 |_=>rfl
theorem zDk {e1:TypeId}(h1:sz τ e1=1){o:Oper}{K:Dl→Prop}(h:un P τ e1 o st K): ∃δ,qI P np τ o st δ∧K δ:=by
 unfold un at h
 cases hm:mkF o with
 |some y=>
  obtain⟨f,caps⟩:=y
  rw [hm]at h
  have hops: ∀x∈caps,x∈qa o.op:=fun x hx=>by
   unfold mkF at hm
   split at hm
   ·rename_i f' first caps' ho
    split at hm
    ·cases hm
     rw [ho]
     simp only [qa,Op.operands,Array.toList_append,List.mem_append]
     exact .inr hx
    ·cases hm
   ·cases hm
  refine⟨_, .inl ⟨trivial,trivial, .inr ⟨f,caps,rfl,hops⟩,rfl,rfl, .inl rfl,fun st' hag hpf lo w0 a w Q K' hdn hrel hK'=> ?_⟩,h⟩
  obtain⟨ow,hd,bk,hr⟩:=hrel
  obtain⟨z,hz,hv⟩:=WW (P:=P) hr hm
  rw [List.map_congr_left fun x hx=>hag.e x (Xb (hops x hx))]at hv
  exact zAB hdn ⟨z,w,ow,hd,bk, .inl hz,hr,hv⟩ (wB _) hK'
 |none=>
  rw [hm]at h
  simp only at h
  cases hc:zz o with
  |some _=>rw [hc]at h;exact h.elim
  |none=>
   rw [hc]at h
   simp only at h
   cases hx:wm st o with
   |none=>rw [hx]at h;exact h.elim
   |some y=>
    obtain⟨f,vs,ts⟩:=y
    rw [hx]at h
    simp only at h
    cases ha:wL τ e1 st ts vs with
    |none=>rw [ha]at h;exact h.elim
    |some z=>
     obtain⟨as9,ob⟩:=z
     rw [ha]at h
     obtain⟨hnf,hpl,hob,k,n,hF,hK⟩:=h
     obtain⟨args,hvs,hargs⟩:=zFQ hx
     refine⟨_, .inl ⟨trivial,trivial, .inl ⟨k,n,rfl⟩,rfl,rfl, .inl rfl,fun st' hag hpf lo w0 a w Q K' hdn hrel hK'=> ?_⟩,hK⟩
     have hax:wL τ e1 st' ts vs=some (as9,ob):=by
      rw [←ha]
      refine Kq fun v hv t=> ?_
      have hnfv:=List.all_eq_true.1 hnf v hv
      rw [hvs,List.mem_append]at hv
      rcases hv with hv|hv
      ·refine zCt ?_ ?_
       ·refine List.all_eq_true.1 hpl v ?_
        rw [hvs,List.length_append,Nat.add_sub_cancel,List.take_append_of_le_length (Nat.le_refl _),List.take_length]
        exact hv
       ·obtain⟨x,hx1,rfl⟩:=List.mem_map.1 hv
        exact hag.v (hargs x hx1)
      ·refine zFL hnfv ?_ fun T i cs e hcs=> ?_
       ·obtain⟨x,hx1,f2,us,he,hu⟩:=Ku hv
        have h2:=hag.v hx1
        rw [he]at h2
        exact⟨fun d hd=>h2.1 d (by simp only [AV.nm];exact yH.2 ⟨v,hu,hd⟩),fun t ht=>h2.2 t (by simp only [AV.nm];exact yH.2 ⟨v,hu,ht⟩)⟩
       ·subst e
        exact hag.cap hc hv hcs
     have hcall:QN P τ e1 o (fun s=>s=st'.put o.dst (.int k n)) st':=by
      unfold QN
      rw [zHE hag,hx]
      simp only
      rw [hax]
      exact⟨hob,_,hF,by simp [szL,zr,VT.cells],rfl⟩
     exact Vs h1 hdn hrel hcall fun s x w' hs hr=>hK' x w' (xL (by rw [hs]at hr;exact hr) (wB _))
def St.cutI (ids:List Nat)(st:St):St:={st with s:=vC (AV.cut ids) st.s,b:=vC (AV.cutL ids) st.b}
theorem Jx {ids:List Nat}(t:Nat)(hl: ∃cs,lk (st.cutI ids).b t=some cs): ∃cs,lk st.b t=some cs:=by
 obtain⟨cs,hcs⟩:=hl
 simp only [St.cutI,zy]at hcs
 cases hx:lk st.b t with
 |none=>rw [hx]at hcs;cases hcs
 |some u=>exact⟨u,rfl⟩
theorem zDd (h:zh τ lo w0 ow hd bk st a w)(ids:List Nat):zh τ lo w0 ow hd bk (st.cutI ids) a w:=by
 refine⟨h.big,h.defers,h.size,h.low,h.below,h.ge,h.new,fun k v hv'=> ?_,h.root,fun t vs hv'=> ?_,h.pin⟩
 ·simp only [St.cutI,zy]at hv'
  cases hx:lk st.s k with
  |none=>rw [hx]at hv';cases hv'
  |some u=>rw [hx]at hv';cases hv';exact WF (fun t=>Jx t) u _ (h.slot k u hx)
 ·simp only [St.cutI,zy]at hv'
  cases hx:lk st.b t with
  |none=>rw [hx]at hv';cases hv'
  |some u=>
   rw [hx]at hv';cases hv'
   obtain⟨cs,ty,h1,h2,h3⟩:=h.box t u hx
   exact⟨cs,ty,h1,h2,wQ (fun t=>Jx t) u cs h3⟩
theorem zC1 {ids:List Nat}{d:Nat}(hd:d∈ids):YV d (st.cutI ids):=by
 have hc:ids.contains d=true:=by simpa using hd
 refine⟨fun k v hv hm=> ?_,fun k cs hcs hm=> ?_⟩
 ·simp only [St.cutI,zy]at hv
  cases hx:lk st.s k with
  |none=>rw [hx]at hv;cases hv
  |some u=>rw [hx]at hv;cases hv;rw [Uw u d hm]at hc;cases hc
 ·simp only [St.cutI,zy]at hcs
  cases hx:lk st.b k with
  |none=>rw [hx]at hcs;cases hcs
  |some u=>rw [hx]at hcs;cases hcs;rw [Ym u d hm]at hc;cases hc
theorem WQ {ids:List Nat}{vs:List AV}{outs:List Out}: ∀{own:List Nat},qj τ (st.cutI ids) vs outs own=qj τ st vs outs own
 | []=>rfl
 |id::own=>by
  have ih:=WQ (ids:=ids) (vs:=vs) (outs:=outs) (own:=own)
  simp only [qj,ih]
  rfl
def QL (P:Program)(τ:Ty)(own:List Nat)(outs:List Out)(o:Oper)(K:St→Prop)(st:St):Prop:=
 match zz o with
 |some (f,args,ts)=>
  match yh τ st ts.toList (args.toList.map (ev st)),qj τ st (args.toList.map (ev st)) outs own with
  |some (as9,ob),some (ls,ob2)=>apart (YM own 0 (args.toList.map (ev st))) ls=true∧XI own=true∧few as9=true∧ob∧ob2∧vh ls∧
    ∃ress,FnG P τ f as9 own outs ress∧szL τ (zr ress)∧(zr ress).length≤1000000∧K ((yf (zq o) 0 (zr ress) (qR (st.cutI (ls.map (·.d))) ls)).put o.dst (qL (xK τ (zq o) 0 ress)))
  |_,_=>False
 |none=>False
theorem Vk {own:List Nat}{outs:List Out}{o:Oper}{K:St→Prop}{Q:Exit→Act→World→Prop}{K':Act→World→Prop}(hd: ∀k,o.dst=some k→k<a.tmps.size)(h:Rel τ lo w0 st a w)(ha:QL P τ own outs o K st)
  (hK: ∀st' x w',K st'→Rel τ lo w0 st' (a.put o.dst x) w'→K' (a.put o.dst x) w'):o.wp P a w K' Q:=by
 obtain⟨ow,hd',bk,hr⟩:=h
 unfold QL at ha
 split at ha
 ·rename_i f args ts hc
  split at ha
  ·rename_i as9 ob ls ob2 hargs hlends
   obtain⟨hap,hnd,hfew,hob,hob2,hsep,ress,⟨hcl,hcall⟩,hsz,hfl,hK1⟩:=ha
   have hev:za τ w st.r st.b hd' bk (args.toList.map (ev st)) (args.toList.map a.eval):=zm.2 ⟨by simp,fun i v x hv hx=>by
    rw [List.getElem?_map]at hv hx
    cases hk:args.toList[i]? with
    |none=>rw [hk]at hv;cases hv
    |some p=>rw [hk]at hv hx;cases hv;cases hx;exact zg hr p⟩
   have hA:=zBP hr hev hargs hob hlends hob2 hsep hap hfew
   have hC:=hcall lo w (qD ow ls) _ hr.low (fun b p hb=>by
    obtain⟨d,q,ho,x,hx,-,q',-,hp⟩:=ZK hb
    have hlt:b<w.heap.size:=by
     rcases Nat.lt_or_ge b w.heap.size with h'|h'
     ·exact h'
     ·rw [hr.new b h']at ho;cases ho
    exact⟨hlt,(hr.ge b _ hlt ho (by simp)).1,_,_,hp⟩) hA
   unfold Oper.wp
   rw [Qz hr hc hcl]
   simp only [Oper.upon]
   refine hC.mono fun e w' hpost=> ?_
   have hev2:za τ w (st.cutI (ls.map (·.d))).r (st.cutI (ls.map (·.d))).b hd' bk (args.toList.map (ev st)) (args.toList.map a.eval):=by
    have :=zx (τ:=τ) (w:=w) (w':=w) (rr:=st.r) (rr':=st.r) (bb:=st.b) (bb':=(st.cutI (ls.map (·.d))).b) (hd:=hd') (hd':=hd') (bk:=bk) (bk':=bk) (ds:=noB) (bs:=noB) (fun d _ R hR=>⟨R,hR,rfl,fun p hp=>⟨hp,rfl⟩⟩) (fun t _ hl=>⟨Jx t hl,rfl⟩) _ _ hev
    rwa [ym]at this
   obtain⟨z,ow',hd2,he,r1,r2⟩:=zAm (zDd hr (ls.map (·.d))) hev2 (fun d ⟨x,hx,e⟩=>zC1 (List.mem_map.2 ⟨x,hx,e⟩)) (by rw [WQ];exact hlends) hob2 hsep (YB hnd) (t:=zq o) hsz hfl hpost
   subst he
   exact hK _ z w' hK1 (xM r1 hd r2)
  ·exact ha.elim
 ·exact ha.elim
def QQ (P:Program)(τ:Ty)(al:List Nat)(t:Nat)(own:List Nat)(outs:List Out)(all:List Oper)(K:St→Prop):List Oper→St→Prop
 | [],st=>K st
 |o::os,st=>
  match o.guard with
  |none=>if o.dst=some t then QL P τ own outs o (QQ P τ al t own outs all K os) st else aop P τ al o (QQ P τ al t own outs all K os) st
  |some (j,want)=>False
theorem Yx (hτ:zv P τ)(hpos:yO τ){al:List Nat}{t:Nat}{own:List Nat}{outs:List Out}{all:List Oper}{K:St→Prop}{Q:Exit→Act→World→Prop}(hQ: ∀st a w,K st→Rel τ lo w0 st a w→Q .normal a w):
  ∀(os:List Oper) (st:St) (a:Act) (w:World),yo a.tmps.size os=true→Rel τ lo w0 st a w→QQ P τ al t own outs all K os st→wpList P all.toArray Q os a w
 | [],st,a,w,_,h,ha=>wpList_nil (hQ st a w ha h)
 |o::os,st,a,w,hd,h,ha=>by
  have hd1: ∀k,o.dst=some k→k<a.tmps.size:=fun k hk=>by
   have :=List.all_eq_true.1 hd o (by simp)
   rw [hk]at this
   simpa using this
  have hd2:yo a.tmps.size os=true:=List.all_eq_true.2 fun x hx=>List.all_eq_true.1 hd x (by simp [hx])
  refine wpList_step fun K' hK'=> ?_
  simp only [QQ]at ha
  split at ha
  ·rename_i hg
   rw [if_pos (by simp [Region.wanted,hg])]
   split at ha
   ·exact Vk hd1 h ha fun st' x w' h1 h2=>hK' _ _ (Yx hτ hpos hQ os st' _ w' (by rw [xF];exact hd2) h2 h1)
   ·exact ZC hτ hpos hd1 h ha fun st' x w' h1 h2=>hK' _ _ (Yx hτ hpos hQ os st' _ w' (by rw [xF];exact hd2) h2 h1)
  ·exact ha.elim
theorem Ul {Q:Exit→St→Prop}(t:Nat)(own:List Nat)(outs:List Out)(hτ:zv P τ)(hpos:yO τ)(al:List Nat){id:Nat}{ops:List Oper}(hd:yo st.n ops=true)(h:QQ P τ al t own outs ops (Q .normal) ops st):awp P τ (.region id ops.toArray false) Q st:=fun lo w0 a w hr=>by
 have hn:a.tmps.size=st.n:=by obtain⟨ow,hd,bk,h⟩:=hr;exact h.size
 refine wp_region_lit (Yx hτ hpos (fun st a w h1 h2=>⟨st,h2,h1⟩) ops st a w (by rw [hn];exact hd) hr h)
end
attribute [push_cast] St.cutI QL QQ qR un zAl wm wL Zo wM YF mkF
end Go.Proofs.Ythepmdkpbjfdcaa
