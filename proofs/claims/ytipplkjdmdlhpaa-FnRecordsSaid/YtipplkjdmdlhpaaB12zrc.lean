/- A call whose callee is walked in place: the callee works in the caller's own state. -/
import Derived.Test.YtipplkjdmdlhpaaGEzrc
import Derived.Lib.SliceRun
namespace Go.Proofs.Ytipplkjdmdlhpaa
open Go.RowKit
set_option linter.unusedVariables false
set_option linter.unusedSimpArgs false
def WS :Nat→List AV→List (Nat×AV)
 |_,[]=> []
 |i,v::vs=>(i,v)::WS (i+1) vs
theorem Uk : ∀(vs:List AV) (i k:Nat) (v:AV),lk (WS i vs) k=some v→∃j,vs[j]? =some v∧k=i+j
 | [],i,k,v,h=>by simp [WS,lk]at h
 |u::vs,i,k,v,h=>by
  simp only [WS,zc]at h
  split at h
  ·rename_i e
   cases h
   exact⟨0,rfl,by omega⟩
  ·obtain⟨j,h1,h2⟩:=Uk vs (i+1) k v h
   exact⟨j+1,by simpa using h1,by omega⟩
def Yr :Nat→Bool:=fun _=>true
def ZA (T:Nat):Nat→Bool:=fun t=>t==T||t==1000000
def othB (T:Nat):Nat→Bool:=fun t=> !(t==T)
def covR (r':List (Nat×zo)):List (Nat×zo)→Prop
 | []=>True
 |(d,R)::l=>(lk r' d=some R∧R.pin=none)∧covR r' l
theorem WP {r':List (Nat×zo)}: ∀{l:List (Nat×zo)},covR r' l→∀d R,lk l d=some R→lk r' d=some R∧R.pin=none
 | [],_,d,R,h=>by simp [lk]at h
 |(k,R0)::l,h,d,R,hl=>by
  rw [zc]at hl
  split at hl
  ·rename_i e;subst e;cases hl;exact h.1
  ·exact WP h.2 d R hl
def zCl (r:List (Nat×zo)):Bool:=r.all fun x=>match x.2.pin with|some i=>i !=999999|none=>true
def RetI (τ:Ty)(rs:List ResultVar)(K:AV→List AV→List (Nat×zo)→Prop)(e:Exit)(st:St):Prop:=(e= .ret∨e= .normal)∧
 match yF τ st rs,lk st.b 1000000 with
 |some (vs,ob),some cs=>ob∧∃r,covR st.r r∧K (qE vs) cs r
 |_,_=>False
def KG (T:Nat)(st:St)(cs:List AV)(r:List (Nat×zo)):St:=⟨st.n,qx (AV.kill Yr (othB T)) st.s,[(T,AV.killL noB Yr cs)],r⟩
def QA (n T:Nat)(vs cells:List AV)(st:St):St:=⟨n,WS 0 (AV.killL noB (ZA T) vs),(1000000,AV.killL noB (ZA T) cells)::qx (AV.killL noB (ZA T)) (rm (ZA T) st.b),st.r⟩
def Xj (P:Program)(τ:Ty)(T:Nat)(o:Oper)(K:St→Prop)(st:St):Prop:=
 match yB o,lk st.b T with
 |some (f,args,_),some cells=>T≠1000000∧zCl st.r=true∧∃(fn:Func) (rs:List ResultVar),P.funcs[f]? =some fn∧(fn.name== "runtime.NumGoroutine")=false∧fn.body.isSome=true∧fn.results=rs.toArray∧args.toList.length≤fn.ntmps∧
   awp P τ (fn.body.getD .skip) (RetI τ rs fun v cs r=>K ((KG T st cs r).put o.dst (AV.kill noB Yr v))) (QA fn.ntmps T (args.toList.map (ev st)) cells st)
 |_,_=>False
theorem zDB {P:Program}{τ:Ty}{T:Nat}{o:Oper}{K:St→Prop}{st:St}{fn:Func}{rs:List ResultVar}{f:FuncId}{args:Array Operand}{ts:Array TypeId}{cells:List AV}(h1:yB o=some (f,args,ts))(h2:lk st.b T=some cells)(h3:T≠1000000)(h4:zCl st.r=true)(h5:P.funcs[f]? =some fn)(h6:(fn.name== "runtime.NumGoroutine")=false)(h7:fn.body.isSome=true)(h8:fn.results=rs.toArray)(h9:args.toList.length≤fn.ntmps)
  (h:awp P τ (fn.body.getD .skip) (RetI τ rs fun v cs r=>K ((KG T st cs r).put o.dst (AV.kill noB Yr v))) (QA fn.ntmps T (args.toList.map (ev st)) cells st)):Xj P τ T o K st:=by
 unfold Xj
 rw [h1,h2]
 exact⟨h3,h4,fn,rs,h5,h6,h7,h8,h9,h⟩
theorem zH6 {P:Program}{τ:Ty}{fn:Func}{c:Code}{Q:Exit→St→Prop}{st:St}(hb:fn.body=some c)(h:awp P τ c Q st):awp P τ (fn.body.getD .skip) Q st:=by rw [hb];exact h
section
variable {P:Program} {τ:Ty} {lo:Nat} {w0:Fz} {st:St} {a:Act} {w:World}
theorem ul (hτ:zz P τ)(hpos:yO τ){T:Nat}{o:Oper}{K:St→Prop}{Q:Exit→Act→World→Prop}{K':Act→World→Prop}(hd: ∀k,o.dst=some k→k<a.tmps.size)(h:Rel τ lo w0 st a w)(ha:Xj P τ T o K st)
  (hK: ∀st' x w',K st'→Rel τ lo w0 st' (a.put o.dst x) w'→K' (a.put o.dst x) w'):o.wp P a w K' Q:=by
 obtain⟨ow,hd',bk,hr⟩:=h
 unfold Xj at ha
 split at ha
 rotate_left
 ·exact ha.elim
 rename_i f args ts cells hc hT
 obtain⟨hT6,hpin,fn,rs,hfn,hname,hb,hres,hn,hbody⟩:=ha
 obtain⟨bcs,bty,g1,g2,g3⟩:=hr.box T cells hT
 have hglt:bk T<w.heap.size:=(Array.getElem?_eq_some_iff.1 g1).1
 have hpinD: ∀d R i,lk st.r d=some R→R.pin=some i→i≠999999:=fun d R i hR hi=>by
  have :=List.all_eq_true.1 hpin _ (Xu hR)
  simp only [hi]at this
  simpa using this
 have hev:zY τ w st.r st.b hd' bk (args.toList.map (ev st)) (args.toList.map a.eval):=zm.2 ⟨by simp,fun i v x hv hx=>by
  rw [List.getElem?_map]at hv hx
  cases hk:args.toList[i]? with
  |none=>rw [hk]at hv;cases hv
  |some p=>rw [hk]at hv hx;cases hv;cases hx;exact zg hr p⟩
 generalize hvs:args.toList.map a.eval=vs at hev
 have hvl:vs.length=args.toList.length:=by rw [←hvs,List.length_map]
 -- the callee's frame,owners and boxes
 obtain⟨w1,hw1⟩: ∃w1:Fz,w1=⟨w0.w,w0.kp,fun i=>if i=999999 then some (.pointer (some ⟨bk T,0,none⟩))else w0.pin i⟩:=⟨_,rfl⟩
 have hkeep1: ∀{w},yy w0 w→yy w1 w:=fun h=>by subst hw1;exact⟨h.os,h.tape,h.output,h.size,h.block⟩
 have hkeep0: ∀{w},yy w1 w→yy w0 w:=fun h=>by subst hw1;exact⟨h.os,h.tape,h.output,h.size,h.block⟩
 have hfre: ∀b,w1.fre b↔w0.fre b:=fun b=>by subst hw1;exact Iff.rfl
 obtain⟨bk1,hbk1⟩: ∃f:Nat→Nat,f=upd bk 1000000 (bk T):=⟨_,rfl⟩
 have hboxes: ∀t cs,lk (QA fn.ntmps T (args.toList.map (ev st)) cells st).b t=some cs→(t=1000000∧cs=AV.killL noB (ZA T) cells)∨(t≠1000000∧t≠T∧∃cs0,lk st.b t=some cs0∧cs=AV.killL noB (ZA T) cs0):=fun t cs h=>by
  have h2:lk ((1000000,AV.killL noB (ZA T) cells)::qx (AV.killL noB (ZA T)) (rm (ZA T) st.b)) t=some cs:=h
  rw [zc]at h2
  split at h2
  ·rename_i e
   cases h2
   exact .inl ⟨e.symm,rfl⟩
  ·rename_i e
   rw [zw,xB]at h2
   by_cases h3:ZA T t=true
   ·rw [if_pos h3]at h2;cases h2
   ·rw [if_neg h3]at h2
    have h4:t≠T:=fun e=>h3 (by subst e;simp [ZA])
    cases hx:lk st.b t with
    |none=>rw [hx]at h2;cases h2
    |some cs0=>rw [hx]at h2;cases h2;exact .inr ⟨fun e2=>e e2.symm,h4,cs0,rfl,rfl⟩
 have hB: ∀t,ZA T t=false→yo st.b (QA fn.ntmps T (args.toList.map (ev st)) cells st).b bk bk1 t:=fun t ht ⟨cs,hcs⟩=>by
  have h1:t≠1000000:=fun e=>by subst e;simp [ZA]at ht
  rcases hboxes t cs hcs with⟨e,-⟩|⟨-,-,cs0,h2,-⟩
  ·exact absurd e h1
  ·exact⟨⟨cs0,h2⟩,by rw [hbk1];exact ya _ _ h1⟩
 have hDs: ∀d,noB d=false→yp w w st.r st.r hd' hd' d:=fun d _ R hR=>⟨R,hR,rfl,fun p hp=>⟨hp,rfl⟩⟩
 have hown1: ∀(m:Md) b,rel m (ow b)→upd ow (bk T) (some (.box 1000000)) b=ow b:=fun m b hrl=>by
  by_cases e:b=bk T
  ·subst e
   rw [g2]at hrl
   cases m<;>simp [rel]at hrl
  ·exact ya _ _ e
 have hstart:Rel τ lo w1 (QA fn.ntmps T (args.toList.map (ev st)) cells st) {tmps:=vs.toArray++Array.replicate (fn.ntmps - vs.toArray.size) undef,defers:= []} w:=by
  refine⟨upd ow (bk T) (some (.box 1000000)),hd',bk1,fun ad had=> ?_,rfl,?_,hr.low,hkeep1 hr.below,fun b p hlt hb hp=> ?_,fun b hb=> ?_,fun k v hv=> ?_,fun d R hR=> ?_,fun t cs hcs=> ?_,fun d R i hR hi=> ?_⟩
  ·subst hw1
   simp only [if_true]at had
   cases had
   rw [hbk1,zu]
  ·show(vs.toArray++Array.replicate (fn.ntmps - vs.toArray.size) undef).size=fn.ntmps
   simp only [Array.size_append,List.size_toArray,Array.size_replicate]
   omega
  ·by_cases e:b=bk T
   ·subst e
    have :=hr.ge _ _ hglt g2 (by simp)
    exact⟨this.1,(hfre _).2 this.2⟩
   ·rw [ya _ _ e]at hb
    have :=hr.ge b p hlt hb hp
    exact⟨this.1,(hfre _).2 this.2⟩
  ·rw [ya _ _ (by omega)]
   exact hr.new b hb
  ·obtain⟨j,hj,hkj⟩:=Uk _ _ _ _ hv
   rw [Nat.zero_add]at hkj
   subst hkj
   have hevk:=yA (τ:=τ) hDs hB _ _ hev
   obtain⟨h1,h2⟩:=zm.1 hevk
   have hlt:k<vs.length:=by rw [h1];exact(List.getElem?_eq_some_iff.1 hj).1
   have hget:(vs.toArray++Array.replicate (fn.ntmps - vs.toArray.size) undef).getD k undef=vs[k]:=by
    rw [Array.getD_eq_getD_getElem?,Array.getElem?_append_left (by simpa using hlt)]
    simp [hlt]
   show AvR τ w st.r _ hd' bk1 v ((vs.toArray++Array.replicate (fn.ntmps - vs.toArray.size) undef).getD k undef)
   rw [hget]
   exact h2 k v _ hj (List.getElem?_eq_getElem hlt)
  ·exact yI _ _ (Nat.le_refl _) _ _ _ (fun b hb hrl=>⟨rfl,hown1 _ b hrl⟩) (hr.root d R hR)
  ·rcases hboxes t cs hcs with⟨rfl,rfl⟩|⟨h1,h2,cs0,h3,rfl⟩
   ·exact⟨bcs,bty,by rw [hbk1,zu];exact g1,by rw [hbk1,zu,zu],yA hDs hB _ _ g3⟩
   ·obtain⟨ds,dty,q1,q2,q3⟩:=hr.box t cs0 h3
    have hne:bk t≠bk T:=fun e=>by
     rw [e,g2]at q2
     cases q2
     exact h2 rfl
    exact⟨ds,dty,by rw [hbk1,ya _ _ h1];exact q1,by rw [hbk1,ya _ _ h1,ya _ _ hne];exact q2,yA hDs hB _ _ q3⟩
  ·subst hw1
   have :=hpinD d R i hR hi
   simp only [if_neg this]
   exact hr.pin d R i hR hi
 have hC:Calls P f vs.toArray w (fun e w'=> ∃z,e= .returned z∧∃st',K st'∧Rel τ lo w0 st' (a.put o.dst z) w'):=by
  obtain⟨c,hbc⟩:=Option.isSome_iff_exists.1 hb
  have hget:fn.body.getD .skip=c:=by rw [hbc];rfl
  rw [hget]at hbody
  refine calls_of_wp hfn hbc (Go.wp_mono (hbody lo w1 _ w hstart) fun e a' w' ⟨st',⟨ow2,hd2,bk2,hr2⟩,he,hret⟩=> ?_)
  have hpost:a'.defers= []∧∃v,(results fn a'.tmps).run P w'= .ok v w'∧(∃z,Ending.returned v= .returned z∧∃st',K st'∧Rel τ lo w0 st' (a.put o.dst z) w'):=by
   split at hret
   ·rename_i avs ob0 cs hrv hcs
    obtain⟨hob0,r,hcov,hK0⟩:=hret
    obtain⟨xs,hrun,hv⟩:=vD hτ hpos hr2 hres hrv hob0
    refine⟨hr2.defers,_,hrun,_,rfl,_,hK0,?_⟩
    have hbig:bk2 1000000=bk T:=hr2.big ⟨bk T,0,none⟩ (by subst hw1;simp)
    obtain⟨ds,dty,q1,q2,q3⟩:=hr2.box 1000000 cs hcs
    rw [hbig]at q1 q2
    have hown2: ∀(m:Md) b,rel m (ow2 b)→upd ow2 (bk T) (some (.box T)) b=ow2 b:=fun m b hrl=>by
     by_cases e:b=bk T
     ·subst e
      rw [q2]at hrl
      cases m<;>simp [rel]at hrl
     ·exact ya _ _ e
    have hsz:w.heap.size≤w'.heap.size∨True:= .inr trivial
    have hlt2:bk T<w'.heap.size:=(Array.getElem?_eq_some_iff.1 q1).1
    have hD2: ∀d,noB d=false→yp w' w' st'.r r hd2 hd2 d:=fun d _ R hR=>⟨R,(WP hcov d R hR).1,rfl,fun p hp=>⟨hp,rfl⟩⟩
    have hB2: ∀t,Yr t=false→yo st'.b (KG T st cs r).b bk2 bk t:=fun t h=>by cases h
    have hback:zd τ lo w0 (upd ow2 (bk T) (some (.box T))) hd2 bk (KG T st cs r) a w':=by
     refine⟨hr.big,hr.defers,hr.size,hr2.low,hkeep0 hr2.below,fun b p hlt hb hp=> ?_,fun b hb=> ?_,fun k v hv=> ?_,fun d R hR=> ?_,fun t us hus=> ?_,fun d R i hR hi=> ?_⟩
     ·by_cases e:b=bk T
      ·subst e
       exact hr.ge _ _ hglt g2 (by simp)
      ·rw [ya _ _ e]at hb
       have :=hr2.ge b p hlt hb hp
       exact⟨this.1,(hfre _).1 this.2⟩
     ·rw [ya _ _ (by omega)]
      exact hr2.new b hb
     ·have hv2:lk (qx (AV.kill Yr (othB T)) st.s) k=some v:=hv
      rw [zw]at hv2
      cases hk:lk st.s k with
      |none=>rw [hk]at hv2;cases hv2
      |some v0=>
       rw [hk]at hv2
       cases hv2
       refine yl (fun d h=>(by cases h)) (fun t h=> ?_) v0 _ (hr.slot k v0 hk)
       have e:t=T:=by simpa [othB]using h
       subst e
       exact fun _=>⟨⟨cells,hT⟩,rfl⟩
     ·exact yI _ _ (Nat.le_refl _) _ _ _ (fun b hb hrl=>⟨rfl,hown2 _ b hrl⟩) (hr2.root d R (WP hcov d R hR).1)
     ·have hus2:lk [(T,AV.killL noB Yr cs)] t=some us:=hus
      rw [zc]at hus2
      split at hus2
      ·rename_i e
       subst e
       cases hus2
       exact⟨ds,dty,q1,zu _ _ _,yA hD2 hB2 _ _ q3⟩
      ·cases hus2
     ·rw [(WP hcov d R hR).2]at hi
      cases hi
    exact xN hback hd (yl hD2 hB2 _ _ (YI hv))
   ·exact hret.elim
  rcases he with rfl|rfl<;>exact hpost
 unfold Oper.wp
 rw [Zz hr hc ⟨fn,hfn,hname,by cases hbb:fn.body with|none=>rw [hbb]at hb;cases hb|some c=>rfl⟩,hvs]
 simp only [Oper.upon]
 refine hC.mono fun e w' hpost=> ?_
 obtain⟨z,rfl,st',hK1,hrel⟩:=hpost
 exact hK _ z w' hK1 hrel
def QM (P:Program)(τ:Ty)(al:List Nat)(t T:Nat)(K:St→Prop):List Oper→St→Prop
 | [],st=>K st
 |o::os,st=>
  match o.guard with
  |none=>
   match mkF o with
   |some (f,caps)=>QM P τ al t T K os (st.put o.dst (.fn f (caps.map (ev st))))
   |none=>if o.dst=some t then Xj P τ T o (QM P τ al t T K os) st else aop P τ al o (QM P τ al t T K os) st
  |some (j,want)=>False
theorem ZR (hτ:zz P τ)(hpos:yO τ){al:List Nat}{t T:Nat}{all:List Oper}{K:St→Prop}{Q:Exit→Act→World→Prop}(hQ: ∀st a w,K st→Rel τ lo w0 st a w→Q .normal a w):
  ∀(os:List Oper) (st:St) (a:Act) (w:World),yh a.tmps.size os=true→Rel τ lo w0 st a w→QM P τ al t T K os st→wpList P all.toArray Q os a w
 | [],st,a,w,_,h,ha=>wpList_nil (hQ st a w ha h)
 |o::os,st,a,w,hd,h,ha=>by
  have hd1: ∀k,o.dst=some k→k<a.tmps.size:=fun k hk=>by
   have :=List.all_eq_true.1 hd o (by simp)
   rw [hk]at this
   simpa using this
  have hd2:yh a.tmps.size os=true:=List.all_eq_true.2 fun x hx=>List.all_eq_true.1 hd x (by simp [hx])
  refine wpList_step fun K' hK'=> ?_
  simp only [QM]at ha
  split at ha
  ·rename_i hg
   rw [if_pos (by simp [Region.wanted,hg])]
   split at ha
   ·rename_i f caps hm
    obtain⟨ow,hd',bk,hr⟩:=h
    obtain⟨z,hz,hv⟩:=Vq (P:=P) hr hm
    unfold Oper.wp
    rw [hz]
    exact hK' _ _ (ZR hτ hpos hQ os _ _ w (by rw [yg];exact hd2) (xN hr hd1 hv) ha)
   ·split at ha
    ·exact ul hτ hpos hd1 h ha fun st' x w' h2 h3=>hK' _ _ (ZR hτ hpos hQ os st' _ w' (by rw [yg];exact hd2) h3 h2)
    ·exact vG hτ hpos hd1 h ha fun st' x w' h2 h3=>hK' _ _ (ZR hτ hpos hQ os st' _ w' (by rw [yg];exact hd2) h3 h2)
  ·exact ha.elim
end
theorem zAh {P:Program}{τ:Ty}{Q:Exit→St→Prop}{st:St}(t T:Nat)(hτ:zz P τ)(hpos:yO τ)(al:List Nat){id:Nat}{ops:List Oper}(hd:yh st.n ops=true)(h:QM P τ al t T (Q .normal) ops st):awp P τ (.region id ops.toArray false) Q st:=fun lo w0 a w hr=>by
 have hn:a.tmps.size=st.n:=by obtain⟨ow,hd,bk,h⟩:=hr;exact h.size
 refine wp_region_lit (ZR hτ hpos (fun st a w h1 h2=>⟨st,h2,h1⟩) ops st a w (by rw [hn];exact hd) hr h)
mutual
def AV.rnb (t T:Nat):AV→AV
 | .int k n=> .int k n
 | .bool b=> .bool b
 | .sl d p off len e=> .sl d p off len e
 | .nil=> .nil
 | .ep d p i=> .ep d p i
 | .bp k i=>if k=t then .bp T i else if k=T then .dead else .bp k i
 | .agg vs=> .agg (AV.rnbL t T vs)
 | .tup vs=> .tup (AV.rnbL t T vs)
 | .fn f vs=> .fn f (AV.rnbL t T vs)
 | .dead=> .dead
 | .raw u=> .raw u
def AV.rnbL (t T:Nat):List AV→List AV
 | []=> []
 |v::vs=>AV.rnb t T v::AV.rnbL t T vs
end
def Vw (t T:Nat):List (Nat×List AV)→List (Nat×List AV)
 | []=> []
 |(k,vs)::l=>(if k=t then T else k,AV.rnbL t T vs)::Vw t T l
def St.renB (t T:Nat)(st:St):St:=⟨st.n,qx (AV.rnb t T) st.s,Vw t T st.b,st.r⟩
theorem jU {t T:Nat}(hne:t≠T): ∀{l:List (Nat×List AV)} {k:Nat} {cs:List AV},lk l T=none→lk (Vw t T l) k=some cs→(k=T∧∃cs0,lk l t=some cs0∧cs=AV.rnbL t T cs0)∨(k≠T∧k≠t∧∃cs0,lk l k=some cs0∧cs=AV.rnbL t T cs0)
 | [],k,cs,_,h=>by simp [Vw,lk]at h
 |(j,vs)::l,k,cs,hn,h=>by
  rw [zc]at hn
  split at hn
  ·cases hn
  rename_i hjT
  simp only [Vw,zc]at h
  by_cases hj:j=t
  ·rw [if_pos hj]at h
   split at h
   ·rename_i e
    cases h
    exact .inl ⟨e.symm,vs,by rw [zc,if_pos hj],rfl⟩
   ·rename_i e
    rcases jU hne hn h with⟨e1,-⟩|⟨h1,h2,cs0,h3,h4⟩
    ·exact absurd e1.symm e
    ·exact .inr ⟨h1,h2,cs0,by rw [zc,if_neg (fun e2=>h2 (by rw [←e2,hj]))];exact h3,h4⟩
  ·rw [if_neg hj]at h
   split at h
   ·rename_i e
    cases h
    exact .inr ⟨fun e2=>hjT (e.trans e2),fun e2=>hj (e.trans e2),vs,by rw [zc,if_pos e],rfl⟩
   ·rename_i e
    rcases jU hne hn h with⟨e1,cs0,h3,h4⟩|⟨h1,h2,cs0,h3,h4⟩
    ·exact .inl ⟨e1,cs0,by rw [zc,if_neg hj];exact h3,h4⟩
    ·exact .inr ⟨h1,h2,cs0,by rw [zc,if_neg e];exact h3,h4⟩
section
variable {P:Program} {τ:Ty} {lo:Nat} {w0:Fz} {st:St} {w:World} {rr:List (Nat×zo)} {bb bb':List (Nat×List AV)} {hd:Nat→Value} {bk bk':Nat→Nat} {t T:Nat}
mutual
theorem zBE (h1:(∃cs,lk bb' T=some cs)→(∃cs,lk bb t=some cs)∧bk' T=bk t)(h2: ∀k,k≠t→k≠T→(∃cs,lk bb' k=some cs)→(∃cs,lk bb k=some cs)∧bk' k=bk k): ∀(v:AV) (x:Value),AvR τ w rr bb hd bk v x→AvR τ w rr bb' hd bk' (v.rnb t T) x
 | .int k n,x,h=>by simpa only [AV.rnb,AvR]using h
 | .bool b,x,h=>by simpa only [AV.rnb,AvR]using h
 | .sl d p off len e,x,h=>by simpa only [AV.rnb,AvR]using h
 | .nil,x,h=>by simpa only [AV.rnb,AvR]using h
 | .ep d p i,x,h=>by simpa only [AV.rnb,AvR]using h
 | .bp k i,x,h=>by
  simp only [AV.rnb]
  split
  ·rename_i e
   subst e
   simp only [AvR]at h⊢
   exact⟨h.1,fun hl=>by rw [(h1 hl).2];exact h.2 (h1 hl).1⟩
  ·rename_i e
   split
   ·simp only [AvR]
   ·rename_i e2
    simp only [AvR]at h⊢
    exact⟨h.1,fun hl=>by rw [(h2 k e e2 hl).2];exact h.2 (h2 k e e2 hl).1⟩
 | .agg vs,x,h=>by
  simp only [AV.rnb,AvR]at h⊢
  obtain⟨cs,e,h⟩:=h
  exact⟨cs,e,ZB h1 h2 vs cs h⟩
 | .tup vs,x,h=>by
  simp only [AV.rnb,AvR]at h⊢
  obtain⟨cs,e,h⟩:=h
  exact⟨cs,e,ZB h1 h2 vs cs h⟩
 | .fn f vs,x,h=>by
  simp only [AV.rnb,AvR]at h⊢
  obtain⟨cs,e,h⟩:=h
  exact⟨cs,e,ZB h1 h2 vs cs h⟩
 | .dead,x,h=>by simp only [AV.rnb,AvR]
 | .raw u,x,h=>by simpa only [AV.rnb,AvR]using h
theorem ZB (h1:(∃cs,lk bb' T=some cs)→(∃cs,lk bb t=some cs)∧bk' T=bk t)(h2: ∀k,k≠t→k≠T→(∃cs,lk bb' k=some cs)→(∃cs,lk bb k=some cs)∧bk' k=bk k): ∀(vs:List AV) (xs:List Value),zY τ w rr bb hd bk vs xs→zY τ w rr bb' hd bk' (AV.rnbL t T vs) xs
 | [],xs,h=>by simpa only [AV.rnbL,zY]using h
 |v::vs,xs,h=>by
  simp only [AV.rnbL,zY]at h⊢
  obtain⟨x,xs',e,h3,h4⟩:=h
  exact⟨x,xs',e,zBE h1 h2 v x h3,ZB h1 h2 vs xs' h4⟩
end
theorem zEv (t T:Nat){c:Code}{Q:Exit→St→Prop}(hn:(t==T||T==1000000||t==1000000)=false)(hT:lk st.b T=none)(h:awp P τ c Q (st.renB t T)):awp P τ c Q st:=fun lo w0 a w hr=>by
 obtain⟨ow,hd,bk,hr⟩:=hr
 simp only [Bool.or_eq_false_iff,beq_eq_false_iff_ne]at hn
 obtain⟨⟨n1,n2⟩,n3⟩:=hn
 have hsh:=fun{k cs} h=>jU n1 (l:=st.b) (k:=k) (cs:=cs) hT h
 have h1:(∃cs,lk (Vw t T st.b) T=some cs)→(∃cs,lk st.b t=some cs)∧upd bk T (bk t) T=bk t:=fun⟨cs,hcs⟩=>by
  rcases hsh hcs with⟨-,cs0,h3,-⟩|⟨h1,-⟩
  ·exact⟨⟨cs0,h3⟩,zu _ _ _⟩
  ·exact absurd rfl h1
 have h2: ∀k,k≠t→k≠T→(∃cs,lk (Vw t T st.b) k=some cs)→(∃cs,lk st.b k=some cs)∧upd bk T (bk t) k=bk k:=fun k hkt hkT ⟨cs,hcs⟩=>by
  rcases hsh hcs with⟨e,-⟩|⟨-,-,cs0,h3,-⟩
  ·exact absurd e hkT
  ·exact⟨⟨cs0,h3⟩,ya _ _ hkT⟩
 obtain⟨ow',how⟩: ∃f:Nat→Option Pl,f=fun b=>match ow b with|some (.box k)=>if k=t then some (.box T)else some (.box k)|p=>p:=⟨_,rfl⟩
 have hsame: ∀(m:Md) b,rel m (ow b)→ow' b=ow b:=fun m b hrl=>by
  rw [how]
  simp only
  split
  ·rename_i e
   rw [e]at hrl
   cases m<;>simp [rel]at hrl
  ·rfl
 refine h lo w0 a w ⟨ow',hd,upd bk T (bk t),fun ad had=> ?_,hr.defers,hr.size,hr.low,hr.below,fun b p hlt hb hp=> ?_,fun b hb=> ?_,fun k v hv=> ?_,fun d R hR=> ?_,fun k cs hcs=> ?_,hr.pin⟩
 ·rw [ya _ _ (Ne.symm n2)]
  exact hr.big ad had
 ·rw [how]at hb
  simp only at hb
  split at hb
  ·rename_i e
   exact hr.ge b _ hlt e (by simp)
  ·exact hr.ge b p hlt hb hp
 ·rw [how]
  simp only [hr.new b hb]
 ·have hv2:lk (qx (AV.rnb t T) st.s) k=some v:=hv
  rw [zw]at hv2
  cases hk:lk st.s k with
  |none=>rw [hk]at hv2;cases hv2
  |some v0=>rw [hk]at hv2;cases hv2;exact zBE h1 h2 v0 _ (hr.slot k v0 hk)
 ·exact yI _ _ (Nat.le_refl _) _ _ _ (fun b hb hrl=>⟨rfl,hsame _ b hrl⟩) (hr.root d R hR)
 ·rcases hsh hcs with⟨rfl,cs0,h3,rfl⟩|⟨e1,e2,cs0,h3,rfl⟩
  ·obtain⟨ds,dty,q1,q2,q3⟩:=hr.box t cs0 h3
   exact⟨ds,dty,by rw [zu];exact q1,by rw [zu,how];simp only [q2];rfl,ZB h1 h2 _ _ q3⟩
  ·obtain⟨ds,dty,q1,q2,q3⟩:=hr.box k cs0 h3
   refine⟨ds,dty,by rw [ya _ _ e1];exact q1,?_,ZB h1 h2 _ _ q3⟩
   rw [ya _ _ e1,how]
   simp only
   rw [q2]
   exact if_neg e2
end
attribute [push_cast] AV.rnb AV.rnbL Vw St.renB
attribute [push_cast] QM WS QA KG Yr ZA othB covR zCl
section
variable {P:Program} {np:Bool} {τ:Ty} {lo:Nat} {w0:Fz} {ow:Nat→Option Pl} {hd:Nat→Value} {bk:Nat→Nat} {st:St} {a:Act} {w:World}
end
def qY (st:St)(ls:List ym):St:={st with r:=Yu ls st.r}
section
variable {P:Program} {np:Bool} {τ:Ty} {lo:Nat} {w0:Fz} {ow:Nat→Option Pl} {hd:Nat→Value} {bk:Nat→Nat} {st:St} {a:Act} {w:World}
theorem kq (h:zd τ lo w0 ow hd bk st a w){vs:List AV}{cv:List Value}(hv:zY τ w st.r st.b hd bk vs cv){own:List Nat}{outs:List Out}{ls:List ym}{ob2:Prop}
  (hbad: ∀d,(∃x∈ls,x.d=d)→ZQ d st) (hl:xw τ st vs outs own=some (ls,ob2)) (hob2:ob2) (hsep:qc ls) (hnd:own.Nodup) {t:Nat} {w':World} {ow':Nat→Option Pl}
  (hk:yy ⟨w,fun b=>yf ow ls b=none,fun _=>none⟩ w') (hlow: ∀b,b<w.heap.size→yf ow ls b=none→ow' b=none) (hnew: ∀b p,ow' b=some p→b<w'.heap.size∧lo≤b∧∃d q,p= .root d q)
  (hout: ∀x∈outs,Rp (sz τ) lo w' ow' (.ex (wA x.1) []) (.lst x.2.1 x.2.2) (yE cv x.1)):
  zd τ lo w0 (yx ow ls w.heap.size t ow') hd bk (qY st ls) a w':=by
 obtain⟨l1,l2⟩:=YC hl hob2
 have hok: ∀x∈ls,∃len R,Jr τ st vs outs x len R:=fun x hx=>by
  obtain⟨ob,e1,e2⟩:=l1 x hx;exact Vk e1 e2
 have hids:(ls.map (·.id)).Nodup:=by rw [l2];exact hnd
 have old: ∀b,b<w.heap.size→yf ow ls b=none→w'.heap[b]? =w.heap[b]? ∧yx ow ls w.heap.size t ow' b=ow b:=fun b hb hn=>
  ⟨hk.block b hb hn,by unfold yx;rw [if_pos ⟨hb,by rw [hn];rfl⟩]⟩
 have back: ∀x∈ls,∀b q,ow' b=some (.root (wA x.id) q)→yx ow ls w.heap.size t ow' b=some (.root x.d (x.p++q)):=fun x hx b q hb=>by
  have : ¬(b<w.heap.size∧(yf ow ls b).isNone=true):=fun⟨h1,h2⟩=>by
   rw [hlow b h1 (by cases ho:yf ow ls b with|none=>rfl|some p=>rw [ho]at h2;cases h2)]at hb;cases hb
  unfold yx
  rw [if_neg this,hb]
  simp only
  rw [if_pos (by unfold wA;omega),show wA x.id - 1000000=x.id from by unfold wA;omega]
  exact JR hids x hx
 have hge: ∀b p,yx ow ls w.heap.size t ow' b=some p→p≠ .ext→b<w'.heap.size→lo≤b∧w0.fre b:=fun b p hb hp hlt=>by
  by_cases hc:b<w.heap.size∧(yf ow ls b).isNone=true
  ·unfold yx at hb;rw [if_pos hc]at hb;exact h.ge b p hc.1 hb hp
  ·unfold yx at hb
   rw [if_neg hc]at hb
   have ho': ∃p',ow' b=some p':=by
    cases ho:ow' b with
    |none=>rw [ho]at hb;cases hb
    |some p'=>exact⟨p',rfl⟩
   obtain⟨p',ho'⟩:=ho'
   refine⟨(hnew b p' ho').2.1,fun hlt0=> ?_⟩
   have hbw:b<w.heap.size:=Nat.lt_of_lt_of_le hlt0 h.below.size
   cases hoi:yf ow ls b with
   |none=>exact absurd ⟨hbw,by rw [hoi];rfl⟩ hc
   |some p2=>
    obtain⟨d,q,ho,-⟩:=qD hoi
    exact(h.ge b _ hbw ho (by simp)).2 hlt0
 have hc:=h
 have hr: ∀d,lk (qY st ls).r d=if vX d ls=true then none else(lk st.r d).map fun R=>{R with xs:=qJ d R.xs ls}:=fun d=>Qc ls st.r d
 have hrel: ∀(d:Nat) (R:zo),(∀x∈ls,x.d≠d)→∀b,b<w.heap.size→rel (md R.o d) (ow b)→w'.heap[b]? =w.heap[b]? ∧yx ow ls w.heap.size t ow' b=ow b:=fun d R hn b hb hr=>old b hb (Ql hn hr)
 have h0: ∀d,(∃x∈ls,x.d=d)→QG st.r (qY st ls).r hd hd d:=fun d _ R' hR'=>by
  rw [hr]at hR'
  split at hR'
  ·cases hR'
  ·cases hx:lk st.r d with
   |none=>rw [hx]at hR';cases hR'
   |some R=>exact⟨R,rfl,rfl⟩
 have hD: ∀d,¬(∃x∈ls,x.d=d)→yp w w' st.r (qY st ls).r hd hd d:=fun d hn R' hR'=>by
  have hn': ∀x∈ls,x.d≠d:=fun x hx e=>hn ⟨x,hx,e⟩
  rw [hr,JY hn']at hR'
  simp only [Bool.false_eq_true,if_false]at hR'
  cases hx:lk st.r d with
  |none=>rw [hx]at hR';cases hR'
  |some R=>
   rw [hx]at hR'
   simp only [Option.map_some,Option.some.injEq]at hR'
   subst hR'
   refine⟨R,rfl,rfl,fun p hp=> ?_⟩
   simp only [Yc hn']at hp⊢
   exact⟨hp,xR p _ _ _ _ (h.root d R hx) hp (fun b o A n c hb hrl hcell=>by
    rw [xr (hrel d R hn' b hb hrl).1];exact hcell)⟩
 have hB: ∀t,yo st.b (qY st ls).b bk bk t:=fun t hl=>⟨hl,rfl⟩
 refine⟨h.big,h.defers,h.size,Nat.le_trans h.low hk.size,h.below.step hk.os hk.tape hk.output hk.size (fun b hb hf=> ?_),fun b p hlt hb hp=>hge b p hb hp hlt,fun b hb=> ?_,fun k v hv'=> ?_,fun d R' hR'=> ?_,fun k us hv'=> ?_,fun d R' i hR' hp=> ?_⟩
 ·refine hk.block b hb ?_
  show yf ow ls b=none
  cases hoi:yf ow ls b with
  |none=>rfl
  |some p=>
   obtain⟨d,q,ho,-⟩:=qD hoi
   exact absurd (h.ge b _ hb ho (by simp)).2 hf
 ·have hb':w.heap.size≤b:=Nat.le_trans hk.size hb
  unfold yx
  rw [if_neg (fun hh=>by omega)]
  cases ho:ow' b with
  |none=>rfl
  |some p=>have :=(hnew b p ho).1;omega
 ·exact VG h0 hD hB v _ (fun d hd' hb=>(hbad d hb).s k v hv' hd') (hc.slot k v hv')
 ·rw [hr]at hR'
  split at hR'
  ·cases hR'
  ·rename_i hg
   have hg:vX d ls=false:=by simpa using hg
   cases hx:lk st.r d with
   |none=>rw [hx]at hR';cases hR'
   |some R=>
    rw [hx]at hR'
    simp only [Option.map_some,Option.some.injEq]at hR'
    subst hR'
    by_cases hin: ∃x∈ls,x.d=d
    ·have hex:R.o= .ex:=by
      obtain⟨x,hxm,rfl⟩:=hin
      obtain⟨len,R2,ho⟩:=hok x hxm
      have :=ho.root;rw [hx]at this;cases this
      exact ho.ex
     simp only [hex]
     by_cases hroot: ∃x∈ls,x.d=d∧x.p= []
     ·obtain⟨x,hxm,rfl,hp⟩:=hroot
      obtain⟨ys,hys⟩:=QU hg x hxm rfl
      obtain⟨len,R2,ho⟩:=hok x hxm
      have :=ho.root;rw [hx]at this;cases this
      obtain⟨q1,-⟩:=Ya h hv ho
      rw [hp]at q1
      simp only [yD,Option.some.injEq]at q1
      have he:=ho.elem
      rw [hp]at he
      simp only [qz]at he
      simp only [Qg hsep x hxm rfl hp hys]
      have :=hout _ (ho.out ys hys)
      simp only at this
      rw [←q1,←he]at this
      exact xl _ _ _ _ _ [] [] _ (fun b q _ hb=>by
       have :=back x hxm b q (by simpa using hb)
       rw [hp]at this
       simpa using this) this
     ·have hone: ∀x∈ls,x.d=d→∃j ys,x.p= [j]∧x.out=some ys:=fun x hxm e=>by
       obtain⟨len,R2,ho⟩:=hok x hxm
       rcases ho.short with hs|hs
       ·exact absurd ⟨x,hxm,e,hs⟩ hroot
       ·exact hs
      have hone': ∀x∈ls,x.d=d→∃j,x.p= [j]:=fun x hxm e=>by obtain⟨j,ys,h1,-⟩:=hone x hxm e;exact⟨j,h1⟩
      have hrt:=h.root d R hx
      rw [hex]at hrt
      obtain⟨zs,k1,k5⟩:=(zx _ _).1 hrt
      have hlen:(qJ d R.xs ls).length=R.xs.length:=Yw hone'
      have hnil: ∀b,ow b=some (.root d [])→yf ow ls b=none:=fun b hb=>by
       cases hoi:yf ow ls b with
       |none=>rfl
       |some p=>
        obtain⟨d',q,h1,x,hxm,h2,q',h3,-⟩:=qD hoi
        rw [hb]at h1;cases h1
        obtain⟨j,hj⟩:=hone' x hxm h2
        rw [hj]at h3;simp at h3
      have k1':Hd (sz τ) lo w' (yx ow ls w.heap.size t ow') (.ex d []) R.e (hd d) R.xs.length zs:=by
       obtain⟨m1,N,m2,m3,m4⟩:=k1
       refine⟨m1,N,m2,⟨m3.1,?_⟩,fun b hb=> ?_⟩
       ·rcases m3.2 with hn|⟨g,cap,cur,hv2,hb2,hg2,rest⟩
        ·exact .inl hn
        ·have hgo:=m4 g (by rw [hv2];rfl)
         have hglt:g<w.heap.size:=(Array.getElem?_eq_some_iff.1 hg2).1
         exact .inr ⟨g,cap,cur,hv2,hb2,by rw [(old g hglt (hnil g hgo)).1];exact hg2,rest⟩
       ·have hgo:=m4 b hb
        rw [(old b (m3.lt b hb).2 (hnil b hgo)).2];exact hgo
      refine(zx _ _).2 ⟨zs,by rw [hlen];exact k1',fun i y u hy hu=> ?_⟩
      have hi:i<R.xs.length:=by rw [←hlen];exact(List.getElem?_eq_some_iff.1 hy).1
      by_cases hsel: ∃x∈ls,x.d=d∧x.p= [i]
      ·obtain⟨x,hxm,rfl,hp⟩:=hsel
       obtain⟨j,ys,hj,hys⟩:=hone x hxm rfl
       obtain⟨len,R2,ho⟩:=hok x hxm
       have :=ho.root;rw [hx]at this;cases this
       rw [Jf hi hsep hone' x hxm rfl hp hys]at hy
       cases hy
       obtain⟨q1,-⟩:=Ya h hv ho
       rw [hp]at q1
       obtain⟨b1,o1,n1,c1,hv',hN,hb1,hr1,hc1⟩:=qG k1 hu
       rw [hv']at q1
       simp only [yD,hc1,Option.bind_some,Option.some.injEq]at q1
       have :=hout _ (ho.out ys hys)
       simp only at this
       rw [←q1]at this
       refine xl _ _ _ _ _ [] ([]++ [i]) _ (fun b q _ hb=> ?_) this
       have :=back x hxm b q (by simpa using hb)
       rw [hp]at this
       simpa using this
      ·rw [Vr (fun x hxm e=>by
        obtain⟨j,hj⟩:=hone' x hxm e
        exact⟨j,hj,fun e2=>hsel ⟨x,hxm,e,by rw [hj,e2]⟩⟩)]at hy
       refine yI _ _ hk.size _ _ _ (fun b hb hr=>old b hb ?_) (k5 i y u hy hu)
       obtain⟨q,hq⟩:=hr
       cases hoi:yf ow ls b with
       |none=>rfl
       |some p=>
        obtain⟨d',q',h1,x,hxm,h2,q2,h3,-⟩:=qD hoi
        rw [hq]at h1
        simp only [Option.some.injEq,Pl.root.injEq,List.nil_append]at h1
        obtain⟨rfl,rfl⟩:=h1
        obtain⟨j,hj⟩:=hone' x hxm h2
        rw [hj]at h3
        simp only [List.cons_append,List.nil_append,List.cons.injEq]at h3
        exact absurd ⟨x,hxm,h2,by rw [hj,h3.1]⟩ hsel
    ·have hn': ∀x∈ls,x.d≠d:=fun x hx e=>hin ⟨x,hx,e⟩
     simp only [Yc hn']
     exact yI _ _ hk.size _ _ _ (fun b hb hr=>hrel d R hn' b hb hr) (h.root d R hx)
 ·obtain⟨cs,ty,q1,q2,q3⟩:=hc.box k us hv'
  have hlt:bk k<w.heap.size:=(Array.getElem?_eq_some_iff.1 q1).1
  have hno:yf ow ls (bk k)=none:=by unfold yf;rw [q2]
  exact⟨cs,ty,by rw [(old _ hlt hno).1];exact q1,by rw [(old _ hlt hno).2];exact q2,vq h0 hD hB us cs (fun d hd' hb=>(hbad d hb).b k us hv' hd') q3⟩
 ·rw [hr]at hR'
  split at hR'
  ·cases hR'
  ·cases hx:lk st.r d with
   |none=>rw [hx]at hR';cases hR'
   |some R=>
    rw [hx]at hR'
    simp only [Option.map_some,Option.some.injEq]at hR'
    subst hR'
    exact h.pin d R i hx hp
theorem Ux (h:zd τ lo w0 ow hd bk st a w){vs:List AV}{cv:List Value}(hv:zY τ w st.r st.b hd bk vs cv){own:List Nat}{outs:List Out}{ls:List ym}{ob2:Prop}
  (hbad: ∀d,(∃x∈ls,x.d=d)→ZQ d st) (hl:xw τ st vs outs own=some (ls,ob2)) (hob2:ob2) (hsep:qc ls) (hnd:own.Nodup) {t:Nat} {ress:List VT} (hs:szL τ (zq ress)) (hfl:(zq ress).length≤1000000) {e:Ending} {w':World} (hp:kz τ lo w (yf ow ls) outs ress cv e w'):
  ∃z ow' hd',e= .returned z∧zd τ lo w0 ow' hd' bk (yY t 0 (zq ress) (qY st ls)) a w'∧AvR τ w' (yY t 0 (zq ress) (qY st ls)).r (yY t 0 (zq ress) (qY st ls)).b hd' bk (qE (xG τ t 0 ress)) z:=by
 obtain⟨rs,ow',he,hk,hlow,hnew,hres,hout⟩:=hp
 have h1:=kq h hv hbad hl hob2 hsep hnd (t:=t) hk hlow hnew hout
 have e2: ∀b j q,j<1000000→ow' b=some (.root j q)→yx ow ls w.heap.size t ow' b=some (.root (za t j) q):=fun b j q hj hq=>by
  have : ¬(b<w.heap.size∧(yf ow ls b).isNone=true):=fun⟨h1,h2⟩=>by
   rw [hlow b h1 (by cases ho:yf ow ls b with|none=>rfl|some p=>rw [ho]at h2;cases h2)]at hq;cases hq
  unfold yx
  rw [if_neg this,hq]
  simp only
  rw [if_neg (by omega)]
 obtain⟨cs,k1,k2,k3⟩:=Zd (bk:=bk) (τ:=τ) (rr:=(yY t 0 (zq ress) (qY st ls)).r) (bb:=(yY t 0 (zq ress) (qY st ls)).b) (t:=t) hres
 have k2': ∀(i:Nat) (d:D) (c:Value),(zq ress)[i]? =some d→cs[i]? =some c→Rp (sz τ) lo w' (yx ow ls w.heap.size t ow') (.ex (za t (0+i)) []) d c:=fun i d c hd hc=>by
  have hi:i<1000000:=Nat.lt_of_lt_of_le (List.getElem?_eq_some_iff.1 hd).1 hfl
  exact xl _ _ _ _ _ [] [] _ (fun b q _ e=>e2 b _ q (by omega) e) (k2 i d c hd hc)
 obtain⟨hd',r1,r2,r3⟩:=YH t (zq ress) 0 (qY st ls) hd cs h1 k1 k2'
 exact⟨vV rs,_,hd',he,r1,YI (k3 w' hd' (qS (ow:=yx ow ls w.heap.size t ow') (lo:=lo) t (zq ress) 0 cs k1 hs (fun i d c h1 h2=>⟨_,k2' i d c h1 h2⟩) (fun i e xs c h1 h2=>(r3 i e xs c h1 h2).2)))⟩
def inD :List Nat→Option Tmp→Bool
 |x::xs,some d=>if x=d then true else inD xs (some d)
 |_,_=>false
def Jd (X:Oper→St→(Dl→Prop)→Prop)(P:Program)(np:Bool)(τ:Ty)(t:List Nat)(all:List Oper)(E:List Rec→St→Prop):List Oper→Nat→List Rec→St→Prop
 | [],_,cs,st=>E cs st
 |o::os,k,cs,st=>
  match o.guard with
  |none=>if inD t o.dst=true then X o st fun δ=>Jd X P np τ t all E os (k+1) (⟨k,fp o st,δ.wr⟩::cs) (st.app o.dst δ)else wD P np τ o st fun δ=>Jd X P np τ t all E os (k+1) (⟨k,fp o st,δ.wr⟩::cs) (st.app o.dst δ)
  |some _=>False
theorem kV {X:Oper→St→(Dl→Prop)→Prop}(hX: ∀o st K,X o st K→∃δ,qe P np τ o st δ∧K δ){t:List Nat}{all:List Oper}{A:List (List Nat)}{Q:St→Prop}: ∀(os:List Oper) (k:Nat) (cs:List Rec) (st:St),Jd X P np τ t all (fun cs st=>chk all A cs=true∧Q st) os k cs st→chk all A cs=true∧jS P np τ all A (fun st'=> ∃s,Eqv st' s∧Q s) os k cs st
 | [],k,cs,st,h=>⟨h.1,st,Eqv.refl _,h.2⟩
 |o::os,k,cs,st,h=>by
  have go:(∃δ,xP P np τ all o st δ∧Jd X P np τ t all (fun cs st=>chk all A cs=true∧Q st) os (k+1) (⟨k,fp o st,δ.wr⟩::cs) (st.app o.dst δ))→chk all A cs=true∧jS P np τ all A (fun st'=> ∃s,Eqv st' s∧Q s) (o::os) k cs st:=by
   rintro⟨δ,h1,h2⟩
   obtain⟨h3,h4⟩:=kV hX os _ _ _ h2
   simp only [chk,Bool.and_eq_true]at h3
   exact⟨h3.2,δ,h1,h3.1,h4⟩
  simp only [Jd]at h
  split at h
  ·rename_i hg
   split at h
   ·obtain⟨δ,h1,h2⟩:=hX _ _ _ h
    exact go ⟨δ,by unfold xP;rw [hg];exact h1,h2⟩
   ·obtain⟨δ,h1,h2⟩:=wT h
    exact go ⟨δ,by unfold xP;rw [hg];exact h1,h2⟩
  ·exact h.elim
end
attribute [push_cast] inD Jd Yg
section
variable {P:Program} {all:List Oper} {T:List (List Nat)} {c:Nat} {Q':Exit→Act→World→Prop}
def uG (all:List Oper)(T:List (List Nat))(c:Nat):Bool:=(List.range all.length).all fun j=>decide (j<c)||(List.range c).all fun i=>VS T j i
def Wb (all:List Oper):Bool:=all.all fun o=>o.guard.isNone
def WR (all:List Oper):Bool:=(List.range all.length).all fun j=>match all[j]? with|some o=>o.after.toList.all fun e=> !(Region.binds .any e)||decide (e.on<j)|none=>true
def xX (N:Nat)(l:Array Bool):Array Bool:=l++Array.replicate (N - l.size) false
theorem YV {N:Nat}{l:Array Bool}(i:Nat):(xX N l).getD i false=l.getD i false:=by
 unfold xX
 rw [Array.getD_eq_getD_getElem?,Array.getD_eq_getD_getElem?]
 rcases Nat.lt_or_ge i l.size with h|h
 ·rw [Array.getElem?_append_left h]
 ·rw [Array.getElem?_append_right h,Array.getElem?_eq_none h,Array.getElem?_replicate]
  split<;>rfl
theorem zHx {N:Nat}{l:Array Bool}{i:Nat}(h:i<l.size):(xX N l).getD i true=l.getD i true:=by
 unfold xX
 rw [Array.getD_eq_getD_getElem?,Array.getD_eq_getD_getElem?,Array.getElem?_append_left h]
theorem UP {N:Nat}{l:Array Bool}{i:Nat}(h:i<l.size):(xX N l).setIfInBounds i true=xX N (l.setIfInBounds i true):=by
 unfold xX
 refine Array.ext_getElem? fun j=> ?_
 rw [Array.getElem?_setIfInBounds]
 have e1:(l.setIfInBounds i true).size=l.size:=Array.size_setIfInBounds ..
 rw [e1,Array.getElem?_append,Array.getElem?_append,e1]
 rcases Nat.lt_or_ge j l.size with hj|hj
 ·rw [if_pos hj,if_pos hj,Array.getElem?_setIfInBounds]
  split
  ·rename_i e
   rw [if_pos (by rw [Array.size_append];omega)]
  ·rfl
 ·rw [if_neg (by omega),if_neg (by omega),if_neg (by omega)]
theorem zFu {l:Array Bool}{i:Nat}(h:i<l.size):l.getD i true=l.getD i false:=by
 rw [Array.getD_eq_getD_getElem?,Array.getD_eq_getD_getElem?,Array.getElem?_eq_getElem h]
 rfl
theorem WQ (hlt:WR all=true){j:Nat}{o:Oper}(ho:all[j]? =some o){e:Edge}(he:e∈o.after)(hb:Region.binds .any e=true):e.on<j:=by
 have hj:=(List.getElem?_eq_some_iff.1 ho).1
 have h1:=List.all_eq_true.1 hlt j (List.mem_range.2 hj)
 rw [ho]at h1
 have h2:=List.all_eq_true.1 h1 e (by simpa using he)
 simpa [hb]using h2
theorem zAS {md:Region.Mode}{ops:Array Oper}{Q:Exit→Act→World→Prop}: ∀(f:Nat) (l:Array Bool) (a:Act) (w:World),wpAny P md ops Q f l a w→wpAny P md ops Q (f+1) l a w
 |0,l,a,w,h=>⟨fun _=>h.2,fun i hi=>by rw [h.1]at hi;cases hi⟩
 |f+1,l,a,w,h=>⟨h.1,fun i hi=>wpOp_mono (fun a w h=>zAS f _ a w h) (h.2 i hi)⟩
theorem kn {md:Region.Mode}{ops:Array Oper}{Q:Exit→Act→World→Prop}{f:Nat}{l:Array Bool}{a:Act}{w:World}(h:wpAny P md ops Q f l a w): ∀k,wpAny P md ops Q (f+k) l a w
 |0=>h
 |k+1=>zAS _ _ _ _ (kn h k)
def Wk (P:Program)(all:List Oper)(Q':Exit→Act→World→Prop)(f:Nat)(l:Array Bool):Exit→Act→World→Prop
 | .normal,a,w=>wpAny P .any all.toArray Q' f l a w
 |e,a,w=>Q' e a w
theorem zHH {o:Oper}{a:Act}{w:World}{K:Act→World→Prop}{f:Nat}{l:Array Bool}(h:o.wp P a w K (Wk P all Q' f l)):o.wp P a w K Q':=by
 unfold Oper.wp at*
 generalize (execOp a.eval o).run P w=r at*
 cases r with
 |ok n w'=>cases n<;>exact h
 |halt b w'=>cases b<;>exact h
theorem Ko (hng:Wb all=true){l1:Array Bool}(hs:l1.size=c){j:Nat}(hj:j<c)(hc:c≤all.length):j∈Region.ready .any all.toArray (xX all.length l1)↔j∈Region.ready .any (all.take c).toArray l1:=by
 rw [mem_ready,mem_ready,zHx (by omega)]
 simp only [YV,List.getElem?_toArray,List.getElem?_take,if_pos hj]
theorem zCz (hA:Yn all T=true)(hc:c≤all.length)(hcut:uG all T c=true)(hng:Wb all=true)(hlt:WR all=true){f2:Nat}:
  ∀(f1:Nat) (l1:Array Bool) (a:Act) (w:World),l1.size=c→JO all (xX all.length l1)→wpAny P .any (all.take c).toArray (Wk P all Q' f2 (xX all.length (Array.replicate c true))) f1 l1 a w→wpAny P .any all.toArray Q' (f1+f2) (xX all.length l1) a w:=by
 have full: ∀l1:Array Bool,l1.size=c→(∀i,i<c→l1.getD i false=true)→l1=Array.replicate c true:=fun l1 hs h=>by
  refine Array.ext_getElem? fun i=> ?_
  rw [Array.getElem?_replicate]
  split
  ·rename_i hi
   have h1:=h i hi
   rw [Array.getD_eq_getD_getElem?]at h1
   cases hx:l1[i]? with
   |none=>rw [hx]at h1;simp at h1
   |some b=>rw [hx]at h1;simp at h1;rw [h1]
  ·rw [Array.getElem?_eq_none (by omega)]
 have least: ∀l1:Array Bool,l1.size=c→¬(∀i,i<c→l1.getD i false=true)→∃i,i<c∧l1.getD i false=false∧∀k,k<i→l1.getD k false=true:=fun l1 hs h=>by
  have key: ∀n,n≤c→(∀i,i<n→l1.getD i false=true)∨∃i,i<c∧l1.getD i false=false∧∀k,k<i→l1.getD k false=true:=by
   intro n
   induction n with
   |zero=>exact fun _=> .inl fun i hi=>absurd hi (Nat.not_lt_zero i)
   |succ n ih=>
    intro hn
    rcases ih (by omega)with h1|h1
    ·cases hx:l1.getD n false with
     |true=>
      refine .inl fun i hi=> ?_
      by_cases e:i=n
      ·rw [e];exact hx
      ·exact h1 i (by omega)
     |false=>exact .inr ⟨n,by omega,hx,h1⟩
    ·exact .inr h1
  exact(key c (Nat.le_refl _)).resolve_left h
 have rdy: ∀l1:Array Bool,l1.size=c→∀i,i<c→l1.getD i false=false→(∀k,k<i→l1.getD k false=true)→i∈Region.ready .any (all.take c).toArray l1:=fun l1 hs i hi h0 hk=>by
  rw [mem_ready,zFu (by omega)]
  have ho:all[i]? =some (all[i]'(by omega)):=List.getElem?_eq_getElem (by omega)
  exact⟨h0,_,by rw [List.getElem?_toArray,List.getElem?_take,if_pos hi];exact ho,fun e he hb=>hk _ (WQ hlt ho he hb)⟩
 intro f1
 induction f1 with
 |zero=>
  intro l1 a w hs hdn h
  by_cases hall: ∀i,i<c→l1.getD i false=true
  ·rw [full l1 hs hall,Nat.zero_add]
   exact h.2
  ·obtain⟨i,hi,h0,hk⟩:=least l1 hs hall
   have :=rdy l1 hs i hi h0 hk
   rw [h.1]at this
   cases this
 |succ f1 ih=>
  intro l1 a w hs hdn h
  by_cases hall: ∀i,i<c→l1.getD i false=true
  ·have hn:Region.ready .any (all.take c).toArray l1= []:=by
    refine List.eq_nil_iff_forall_not_mem.2 fun j hj=> ?_
    obtain⟨h1,o,h2,-⟩:=mem_ready.1 hj
    have hjc:j<c:=by
     rw [List.getElem?_toArray]at h2
     have :=(List.getElem?_eq_some_iff.1 h2).1
     rw [List.length_take]at this
     omega
    rw [zFu (by omega),hall j hjc]at h1
    cases h1
   have h3:=h.1 hn
   have h4:wpAny P .any all.toArray Q' f2 (xX all.length (Array.replicate c true)) a w:=h3
   rw [full l1 hs hall,show f1+1+f2=f2+(f1+1)from by omega]
   exact kn h4 _
  ·obtain⟨i,hi,h0,hk⟩:=least l1 hs hall
   rw [show f1+1+f2=(f1+f2)+1 from by omega]
   refine⟨fun hn=> ?_,fun j hj=> ?_⟩
   ·have :=(Ko hng hs hi hc).2 (rdy l1 hs i hi h0 hk)
    rw [hn]at this
    cases this
   ·have hjc:j<c:=by
     rcases Nat.lt_or_ge j c with h1|h1
     ·exact h1
     ·exfalso
      obtain⟨-,o,ho,-⟩:=mem_ready.1 hj
      rw [List.getElem?_toArray]at ho
      have hjl:=(List.getElem?_eq_some_iff.1 ho).1
      have h2:=List.all_eq_true.1 hcut j (List.mem_range.2 hjl)
      rw [Bool.or_eq_true,decide_eq_true_eq]at h2
      have h3:=List.all_eq_true.1 (h2.resolve_left (by omega)) i (List.mem_range.2 hi)
      have h4:=QP hA hdn j i (.inr hj) h3
      rw [YV,h0]at h4
      cases h4
    have hjA:=(Ko hng hs hjc hc).1 hj
    have h5:=h.2 j hjA
    have ho:all[j]? =some (all[j]'(by omega)):=List.getElem?_eq_getElem (by omega)
    have hg:(all[j]'(by omega)).guard=none:=by
     have :=List.all_eq_true.1 hng _ (List.mem_of_getElem? ho)
     simpa using this
    unfold wpOp at h5⊢
    rw [List.getElem?_toArray,List.getElem?_take,if_pos hjc,ho]at h5
    rw [List.getElem?_toArray,ho]
    simp only at h5⊢
    rw [if_pos (by simp [Region.wanted,hg])]at h5⊢
    have hnext: ∀a w,wpAny P .any (all.take c).toArray (Wk P all Q' f2 (xX all.length (Array.replicate c true))) f1 (l1.setIfInBounds j true) a w→wpAny P .any all.toArray Q' (f1+f2) ((xX all.length l1).setIfInBounds j true) a w:=fun a w h6=>by
     rw [UP (by omega)]
     refine ih _ a w (by simpa using hs) ?_ h6
     rw [←UP (by omega)]
     exact JU hdn hj
    rcases h5 with h5|⟨h5,h6⟩
    ·exact .inl (zHH (Oper.wp_mono hnext h5))
    ·exact .inr ⟨h5,h6⟩
theorem zEb (hA:Yn all T=true)(hcut:uG all T (c+1)=true)(hng:Wb all=true)(hlt:WR all=true){oc:Oper}(hoc:all[c]? =some oc){f:Nat}{a:Act}{w:World}
  (h:oc.wp P a w (wpAny P .any all.toArray Q' f (xX all.length (Array.replicate (c+1) true))) Q'):wpAny P .any all.toArray Q' (f+1) (xX all.length (Array.replicate c true)) a w:=by
 have hcl:=(List.getElem?_eq_some_iff.1 hoc).1
 have hl: ∀i,i<c→(xX all.length (Array.replicate c true)).getD i false=true:=fun i hi=>by
  rw [YV,Array.getD_eq_getD_getElem?,Array.getElem?_replicate,if_pos hi];rfl
 have hu:(xX all.length (Array.replicate c true)).getD c true=false:=by
  unfold xX
  rw [Array.getD_eq_getD_getElem?,Array.getElem?_append_right (by simp),Array.getElem?_replicate,if_pos (by simp;omega)]
  rfl
 have hset:(xX all.length (Array.replicate c true)).setIfInBounds c true=xX all.length (Array.replicate (c+1) true):=by
  unfold xX
  refine Array.ext_getElem? fun j=> ?_
  rw [Array.getElem?_setIfInBounds,Array.getElem?_append,Array.getElem?_append]
  simp only [Array.size_replicate,Array.getElem?_replicate,Array.size_append]
  repeat' split
  all_goals first|rfl|omega
 have hr:c∈Region.ready .any all.toArray (xX all.length (Array.replicate c true)):=by
  rw [mem_ready]
  exact⟨hu,oc,by rw [List.getElem?_toArray];exact hoc,fun e he hb=>hl _ (WQ hlt hoc he hb)⟩
 refine⟨fun hn=>(by rw [hn]at hr;cases hr),fun j hj=> ?_⟩
 have hdn:JO all (xX all.length (Array.replicate c true)):=fun k o ho hk e he hb=>by
  rw [YV,Array.getD_eq_getD_getElem?,Array.getElem?_replicate]at hk
  split at hk
  ·have :=WQ hlt ho he hb
   exact hl _ (by omega)
  ·simp at hk
 have hjc:j=c:=by
  obtain⟨h1,o,ho,-⟩:=mem_ready.1 hj
  rw [List.getElem?_toArray]at ho
  have hjl:=(List.getElem?_eq_some_iff.1 ho).1
  rcases Nat.lt_trichotomy j c with h2|h2|h2
  ·have h3:=WT (hl j h2)
   rw [h1]at h3;cases h3
  ·exact h2
  ·have h3:=List.all_eq_true.1 hcut j (List.mem_range.2 hjl)
   rw [Bool.or_eq_true,decide_eq_true_eq]at h3
   have h4:=List.all_eq_true.1 (h3.resolve_left (by omega)) c (List.mem_range.2 (by omega))
   have h5:=WT (QP hA hdn j c (.inr hj) h4)
   rw [hu]at h5;cases h5
 subst hjc
 have hg:oc.guard=none:=by
  have :=List.all_eq_true.1 hng _ (List.mem_of_getElem? hoc)
  simpa using this
 unfold wpOp
 rw [List.getElem?_toArray,hoc]
 simp only
 rw [if_pos (by simp [Region.wanted,hg]),hset]
 exact .inl h
end
section
variable {P:Program} {τ:Ty} {lo:Nat} {w0:Fz} {st:St} {a:Act} {w:World}
def zGA (npA npB:Bool)(ops:List Oper)(c:Nat):Bool:=
 QB npA (ops.take c) (wj (ops.take c))&&(Yn ops (wj ops)&&(wW npB ops&&(decide (c<ops.length)&&(uG ops (wj ops) c&&(uG ops (wj ops) (c+1)&&(Wb ops&&(WR ops&&YM ops (ops.drop (c+1)).length (c+1) (xX ops.length (Array.replicate (c+1) true)))))))))
theorem zAf (npA npB:Bool)(c:Nat)(XA:Oper→St→(Dl→Prop)→Prop)(tA:List Nat)(hXA: ∀o st K,XA o st K→∃δ,qe P npA τ o st δ∧K δ)(X:Oper→(St→Prop)→St→Prop)
  (hX: ∀(lo:Nat) (w0:Fz) (st:St) (a:Act) (w:World) (o:Oper) (K:St→Prop) (Q:Exit→Act→World→Prop) (K':Act→World→Prop),(∀k,o.dst=some k→k<a.tmps.size)→Rel τ lo w0 st a w→X o K st→(∀st' x w',K st'→Rel τ lo w0 st' (a.put o.dst x) w'→K' (a.put o.dst x) w')→o.wp P a w K' Q)
  (hτ:zz P τ) (hpos:yO τ) (hmix:P.follows .mixedOrders=true) {Q:Exit→St→Prop} {id:Nat} {ops:List Oper} (hs:zGA npA npB ops c=true) (hd:yh st.n ops=true) {oc:Oper} (hoc:ops[c]? =some oc)
  (h: ∀EA:List Rec→St→Prop,(∀cs st1,chk (ops.take c) (wj (ops.take c)) cs=true→yh st1.n ops=true→X oc (fun st2=> ∀EB:List Rec→St→Prop,(∀cs st3,chk ops (wj ops) cs=true→Q .normal st3→EB cs st3)→qQ P npB τ ops EB (ops.drop (c+1)) (c+1) [] (st2.start npB (ops.drop (c+1)))) st1→EA cs st1)→
   Jd XA P npA τ tA (ops.take c) EA (ops.take c) 0 [] (st.start npA (ops.take c))):awp P τ (.region id ops.toArray true) Q st:=fun lo w0 a w hr=>by
 simp only [zGA,QB,Bool.and_eq_true,decide_eq_true_eq]at hs
 obtain⟨⟨a1,a2,a3⟩,b1,b2,hcl,c1,c2,hng,hlt,b3⟩:=hs
 have hn:a.tmps.size=st.n:=by obtain⟨ow,hd,bk,h⟩:=hr;exact h.size
 have hdr:Rel τ lo w0 st a {w with drawn:=w.drawn+1}:=by
  obtain⟨ow,hd,bk,h⟩:=hr
  exact⟨ow,hd,bk,jq h⟩
 have hr':=Yl (np:=npA) hdr (ops.take c)
 refine wp_region_any hmix ?_
 have htake:(ops.take c).length=c:=by rw [List.length_take];omega
 have hdsub: ∀(l:List Oper),(∀o∈l,o∈ops)→∀m,yh m ops=true→yh m l=true:=fun l hl m hm=>List.all_eq_true.2 fun o ho=>List.all_eq_true.1 hm o (hl o ho)
 -- the first part
 have hlex:=(kV hXA (A:=wj (ops.take c)) (Q:=fun st1=>yh st1.n ops=true∧X oc (fun st2=> ∀EB:List Rec→St→Prop,(∀cs st3,chk ops (wj ops) cs=true→Q .normal st3→EB cs st3)→qQ P npB τ ops EB (ops.drop (c+1)) (c+1) [] (st2.start npB (ops.drop (c+1)))) st1) (ops.take c) 0 [] _ (h _ fun cs st h1 h2 h3=>⟨h1,h2,h3⟩)).2
 have hany:=QL (fun st st' he ⟨s,h1,h2⟩=>⟨s,he.symm.trans h1,h2⟩) a1 (ops.take c) 0 [] (Array.replicate (ops.take c).length false) _ (by simp) (fun j o _ hj=>by
  rw [Array.getD_eq_getD_getElem?,Array.getElem?_replicate]at hj
  split at hj<;>simp at hj) a3 hlex
 have hfirst:=Zw (Q':=Wk P ops (fun e a' w'=> ∃st',Rel τ lo w0 st' a' w'∧Q e st') (ops.length - c) (xX ops.length (Array.replicate c true))) hτ hpos a2 (fun st1 a1 w1 hq hr1=>by
   obtain⟨s,he,hds,hx⟩:=hq
   have hrs:Rel τ lo w0 s a1 w1:=xT hr1 he.cov
   show wpAny P .any ops.toArray _ (ops.length - c) _ a1 w1
   rw [show ops.length - c=(ops.length - c - 1)+1 from by omega]
   refine zEb b1 c2 hng hlt hoc ?_
   have hna:a1.tmps.size=s.n:=by obtain⟨ow,hd,bk,h⟩:=hrs;exact h.size
   have hdo: ∀k,oc.dst=some k→k<a1.tmps.size:=fun k hk=>by
    have :=List.all_eq_true.1 hds oc (List.mem_of_getElem? hoc)
    rw [hk]at this
    rw [hna]
    simpa using this
   refine hX lo w0 s a1 w1 oc _ _ _ hdo hrs hx fun st2 x w2 hK hr2=> ?_
   have hr2':=Yl (np:=npB) hr2 (ops.drop (c+1))
   have hB:=hK (fun cs st=>chk ops (wj ops) cs=true∧Q .normal st) fun cs st h1 h2=>⟨h1,h2⟩
   rw [jR (fun cs=>chk ops (wj ops) cs=true) (Q .normal)]at hB
   have hlexB:=(Vm (ops.drop (c+1)) (c+1) [] _ _ (Eqv.refl _) hB).2
   have hlf: ∀i,i<c+1→(xX ops.length (Array.replicate (c+1) true)).getD i false=true:=fun i hi=>by
    rw [YV,Array.getD_eq_getD_getElem?,Array.getElem?_replicate,if_pos hi];rfl
   have hanyB:=QL (fun st st' he ⟨s,h1,h2⟩=>⟨s,he.symm.trans h1,h2⟩) b1 (ops.drop (c+1)) (c+1) [] (xX ops.length (Array.replicate (c+1) true)) _ (fun j=>by rw [List.getElem?_drop]) (fun j o ho hj e he hb=>by
    rw [YV,Array.getD_eq_getD_getElem?,Array.getElem?_replicate]at hj
    split at hj
    ·have :=WQ hlt ho he hb
     exact hlf _ (by omega)
    ·simp at hj) b3 hlexB
   have hlast:=Zw (Q':=fun e a' w'=> ∃st',Rel τ lo w0 st' a' w'∧Q e st') hτ hpos b2 (fun st' a w ⟨s,he,hq⟩ hr=>⟨s,xT hr he.cov,hq⟩) (ops.drop (c+1)).length [] (xX ops.length (Array.replicate (c+1) true)) (st2.start npB (ops.drop (c+1))) (a1.put oc.dst x) w2 (by rw [yg,hna];exact hds) (fun j o ho hj hm=>by
    have hjc:c+1≤j:=by
     rcases Nat.lt_or_ge j (c+1)with h1|h1
     ·have :=WT (hlf j h1)
      rw [hj]at this;cases this
     ·exact h1
    exact YJ (j:=j - (c+1)) (by rw [List.getElem?_drop,show c+1+(j - (c+1))=j from by omega];exact ho) hm) (fun e=>by unfold St.start;rw [if_pos e];exact VZ _) hr2' hanyB
   rw [show ops.length - c - 1=(ops.drop (c+1)).length from by rw [List.length_drop];omega]
   exact hlast) (ops.take c).length [] (Array.replicate (ops.take c).length false) (st.start npA (ops.take c)) a {w with drawn:=w.drawn+1} (by rw [hn];exact hdsub _ (fun o ho=>List.mem_of_mem_take ho) _ hd) (fun j o ho _ hm=>YJ ho hm) (fun e=>by unfold St.start;rw [if_pos e];exact VZ _) hr' hany
 have hpart:=zCz (P:=P) (Q':=fun e a' w'=> ∃st',Rel τ lo w0 st' a' w'∧Q e st') b1 (by omega) c1 hng hlt (f2:=ops.length - c) c (Array.replicate c false) a {w with drawn:=w.drawn+1} (by simp) (fun k o ho hk=>by
  rw [YV,Array.getD_eq_getD_getElem?,Array.getElem?_replicate]at hk
  split at hk<;>simp at hk) (by rw [htake]at hfirst;exact hfirst)
 rw [show c+(ops.length - c)=ops.length from by omega]at hpart
 have hrep:xX ops.length (Array.replicate c false)=Array.replicate ops.toArray.size false:=by
  unfold xX
  refine Array.ext_getElem? fun j=> ?_
  rw [Array.getElem?_append]
  simp only [Array.size_replicate,Array.getElem?_replicate,List.size_toArray]
  repeat' split
  all_goals first|rfl|omega
 rw [hrep]at hpart
 simpa using hpart
variable {np:Bool} {ow:Nat→Option Pl} {hd:Nat→Value} {bk:Nat→Nat} {st':St}
def Uw :AV→Bool
 | .fn _ _=>false
 | .bp _ _=>false
 |_=>true
theorem zCI {e1:TypeId}{t:TypeId}{v:AV}(hp:Uw v=true)(h:AgV st st' v):ZH τ e1 st' t v=ZH τ e1 st t v:=by
 cases v<;>simp only [ZH]<;>first|(cases hp;done)|skip
 all_goals first
  |(rw [jH h];done)
  |(
   rename_i d p i
   simp only [vw]
   have :=h.1 d (by simp [AV.nm])
   cases p with
   |cons _ _=>rfl
   |nil=>cases i with
    |succ _=>rfl
    |zero=>simp only [this])
theorem zDO {e1:TypeId}{v:AV}(h:AgV st st' v)(hb: ∀T i cs,v= .bp T i→lk st.b T=some cs→AgV st st' (.agg cs)):vw τ e1 st' v=vw τ e1 st v:=by
 cases v<;>simp only [vw]
 ·rename_i d p i
  have :=h.1 d (by simp [AV.nm])
  cases p with
  |cons _ _=>rfl
  |nil=>cases i with
   |succ _=>rfl
   |zero=>simp only [this]
 ·rename_i T i
  have h2:=h.2 T (by simp [AV.nm])
  cases i with
  |succ _=>rfl
  |zero=>
   simp only [h2]
   cases hx:lk st.b T with
   |none=>rfl
   |some cs=>simp only [wo (hb T 0 cs rfl hx)]
theorem zEt {e1:TypeId}{t:TypeId}{v:AV}(hf:(match v with| .fn _ _=>false|_=>true)=true)(h:AgV st st' v)(hb: ∀T i cs,v= .bp T i→lk st.b T=some cs→AgV st st' (.agg cs)):ZH τ e1 st' t v=ZH τ e1 st t v:=by
 cases v<;>simp only [ZH]<;>first|(cases hf;done)|skip
 all_goals first
  |(rw [jH h];done)
  |(rw [zDO h hb])
theorem KF {e1:TypeId}: ∀{vs:List AV} {ts:List TypeId},(∀v∈vs,∀t,ZH τ e1 st' t v=ZH τ e1 st t v)→vv τ e1 st' ts vs=vv τ e1 st ts vs
 | [],ts,_=>rfl
 |v::vs,ts,h=>by
  simp only [vv]
  rw [h v List.mem_cons_self,KF (vs:=vs) fun u hu=>h u (List.mem_cons_of_mem _ hu)]
def uB (P:Program)(τ:Ty)(e1:TypeId)(o:Oper)(st:St)(K:Dl→Prop):Prop:=
 match mkF o with
 |some (f,caps)=>K ⟨.fn f (caps.map (ev st)),[],[],[]⟩
 |none=>
  match yB o with
  |some _=>False
  |none=>
   match wO st o with
   |some (f,vs,ts)=>
    match vv τ e1 st ts vs with
    |some (as9,ob)=>vs.all (fun v=>match v with| .fn _ _=>false|_=>true)=true∧((vs.take (vs.length - (qj o st).length)).all Uw=true)∧ob∧∃k n,FnX P τ f as9 [.c (.int k n)]∧K ⟨.int k n,[],[],[]⟩
    |none=>False
   |none=>False
theorem zEx {o:Oper}{f:FuncId}{vs:List AV}{ts:List TypeId}(hc:wO st o=some (f,vs,ts)): ∃(args:List Operand),vs=args.map (ev st)++qj o st∧(∀x∈args,x∈qd o.op):=by
 unfold wO at hc
 unfold qj
 cases ho:o.op with
 |call c=>
  rw [ho]at hc
  obtain⟨callee,args,ats⟩:=c
  cases callee with
  |value x=>
   simp only at hc⊢
   split at hc
   ·rename_i f' us hx
    cases hc
    rw [hx]
    exact⟨args.toList,rfl,fun y hy=>by simp [qd,Op.operands,Call.operands];exact .inr (by simpa using hy)⟩
   ·cases hc
  |_=>simp at hc
 |_=>rw [ho]at hc;simp at hc
theorem zGT {o:Oper}(h:xf o st st'):wO st' o=wO st o:=by
 have he:=h.e
 unfold wO
 cases ho:o.op with
 |call c=>
  rw [ho]at he
  obtain⟨callee,args,ats⟩:=c
  cases callee with
  |value x=>
   simp only
   rw [he x (by simp [Op.operands,Call.operands]),List.map_congr_left fun y hy=>he y (by simp [Op.operands,Call.operands];exact .inr (by simpa using hy))]
  |_=>rfl
 |_=>rfl
theorem zDE {e1:TypeId}(h1:sz τ e1=1){o:Oper}{K:Dl→Prop}(h:uB P τ e1 o st K): ∃δ,qe P np τ o st δ∧K δ:=by
 unfold uB at h
 cases hm:mkF o with
 |some y=>
  obtain⟨f,caps⟩:=y
  rw [hm]at h
  have hops: ∀x∈caps,x∈qd o.op:=fun x hx=>by
   unfold mkF at hm
   split at hm
   ·rename_i f' first caps' ho
    split at hm
    ·cases hm
     rw [ho]
     simp only [qd,Op.operands,Array.toList_append,List.mem_append]
     exact .inr hx
    ·cases hm
   ·cases hm
  refine⟨_, .inl ⟨trivial,trivial, .inr ⟨f,caps,rfl,hops⟩,rfl,rfl, .inl rfl,fun st' hag hpf lo w0 a w Q K' hdn hrel hK'=> ?_⟩,h⟩
  obtain⟨ow,hd,bk,hr⟩:=hrel
  obtain⟨z,hz,hv⟩:=Vq (P:=P) hr hm
  rw [List.map_congr_left fun x hx=>hag.e x (Yx (hops x hx))]at hv
  exact UO hdn ⟨z,w,ow,hd,bk, .inl hz,hr,hv⟩ (vm _) hK'
 |none=>
  rw [hm]at h
  simp only at h
  cases hc:yB o with
  |some _=>rw [hc]at h;exact h.elim
  |none=>
   rw [hc]at h
   simp only at h
   cases hx:wO st o with
   |none=>rw [hx]at h;exact h.elim
   |some y=>
    obtain⟨f,vs,ts⟩:=y
    rw [hx]at h
    simp only at h
    cases ha:vv τ e1 st ts vs with
    |none=>rw [ha]at h;exact h.elim
    |some z=>
     obtain⟨as9,ob⟩:=z
     rw [ha]at h
     obtain⟨hnf,hpl,hob,k,n,hF,hK⟩:=h
     obtain⟨args,hvs,hargs⟩:=zEx hx
     refine⟨_, .inl ⟨trivial,trivial, .inl ⟨k,n,rfl⟩,rfl,rfl, .inl rfl,fun st' hag hpf lo w0 a w Q K' hdn hrel hK'=> ?_⟩,hK⟩
     have hax:vv τ e1 st' ts vs=some (as9,ob):=by
      rw [←ha]
      refine KF fun v hv t=> ?_
      have hnfv:=List.all_eq_true.1 hnf v hv
      rw [hvs,List.mem_append]at hv
      rcases hv with hv|hv
      ·refine zCI ?_ ?_
       ·refine List.all_eq_true.1 hpl v ?_
        rw [hvs,List.length_append,Nat.add_sub_cancel,List.take_append_of_le_length (Nat.le_refl _),List.take_length]
        exact hv
       ·obtain⟨x,hx1,rfl⟩:=List.mem_map.1 hv
        exact hag.v (hargs x hx1)
      ·refine zEt hnfv ?_ fun T i cs e hcs=> ?_
       ·obtain⟨x,hx1,f2,us,he,hu⟩:=KJ hv
        have h2:=hag.v hx1
        rw [he]at h2
        exact⟨fun d hd=>h2.1 d (by simp only [AV.nm];exact yL.2 ⟨v,hu,hd⟩),fun t ht=>h2.2 t (by simp only [AV.nm];exact yL.2 ⟨v,hu,ht⟩)⟩
       ·subst e
        exact hag.cap hc hv hcs
     have hcall:Xk P τ e1 o (fun s=>s=st'.put o.dst (.int k n)) st':=by
      unfold Xk
      rw [zGT hag,hx]
      simp only
      rw [hax]
      exact⟨hob,_,hF,by simp [szL,zq,VT.cells],rfl⟩
     exact VP h1 hdn hrel hcall fun s x w' hs hr=>hK' x w' (xT (by rw [hs]at hr;exact hr) (vm _))
def St.cutI (ids:List Nat)(st:St):St:={st with s:=qx (AV.cut ids) st.s,b:=qx (AV.cutL ids) st.b}
theorem JS {ids:List Nat}(t:Nat)(hl: ∃cs,lk (st.cutI ids).b t=some cs): ∃cs,lk st.b t=some cs:=by
 obtain⟨cs,hcs⟩:=hl
 simp only [St.cutI,zw]at hcs
 cases hx:lk st.b t with
 |none=>rw [hx]at hcs;cases hcs
 |some u=>exact⟨u,rfl⟩
theorem zC8 (h:zd τ lo w0 ow hd bk st a w)(ids:List Nat):zd τ lo w0 ow hd bk (st.cutI ids) a w:=by
 refine⟨h.big,h.defers,h.size,h.low,h.below,h.ge,h.new,fun k v hv'=> ?_,h.root,fun t vs hv'=> ?_,h.pin⟩
 ·simp only [St.cutI,zw]at hv'
  cases hx:lk st.s k with
  |none=>rw [hx]at hv';cases hv'
  |some u=>rw [hx]at hv';cases hv';exact Yp (fun t=>JS t) u _ (h.slot k u hx)
 ·simp only [St.cutI,zw]at hv'
  cases hx:lk st.b t with
  |none=>rw [hx]at hv';cases hv'
  |some u=>
   rw [hx]at hv';cases hv'
   obtain⟨cs,ty,h1,h2,h3⟩:=h.box t u hx
   exact⟨cs,ty,h1,h2,vJ (fun t=>JS t) u cs h3⟩
theorem zCP {ids:List Nat}{d:Nat}(hd:d∈ids):ZQ d (st.cutI ids):=by
 have hc:ids.contains d=true:=by simpa using hd
 refine⟨fun k v hv hm=> ?_,fun k cs hcs hm=> ?_⟩
 ·simp only [St.cutI,zw]at hv
  cases hx:lk st.s k with
  |none=>rw [hx]at hv;cases hv
  |some u=>rw [hx]at hv;cases hv;rw [UM u d hm]at hc;cases hc
 ·simp only [St.cutI,zw]at hcs
  cases hx:lk st.b k with
  |none=>rw [hx]at hcs;cases hcs
  |some u=>rw [hx]at hcs;cases hcs;rw [YK u d hm]at hc;cases hc
theorem Vl {ids:List Nat}{vs:List AV}{outs:List Out}: ∀{own:List Nat},xw τ (st.cutI ids) vs outs own=xw τ st vs outs own
 | []=>rfl
 |id::own=>by
  have ih:=Vl (ids:=ids) (vs:=vs) (outs:=outs) (own:=own)
  simp only [xw,ih]
  rfl
def Xi (P:Program)(τ:Ty)(own:List Nat)(outs:List Out)(o:Oper)(K:St→Prop)(st:St):Prop:=
 match yB o with
 |some (f,args,ts)=>
  match yk τ st ts.toList (args.toList.map (ev st)),xw τ st (args.toList.map (ev st)) outs own with
  |some (as9,ob),some (ls,ob2)=>apart (wy own 0 (args.toList.map (ev st))) ls=true∧Zj own=true∧few as9=true∧ob∧ob2∧qc ls∧
    ∃ress,FnG P τ f as9 own outs ress∧szL τ (zq ress)∧(zq ress).length≤1000000∧K ((yY (zr o) 0 (zq ress) (qY (st.cutI (ls.map (·.d))) ls)).put o.dst (qE (xG τ (zr o) 0 ress)))
  |_,_=>False
 |none=>False
theorem VB {own:List Nat}{outs:List Out}{o:Oper}{K:St→Prop}{Q:Exit→Act→World→Prop}{K':Act→World→Prop}(hd: ∀k,o.dst=some k→k<a.tmps.size)(h:Rel τ lo w0 st a w)(ha:Xi P τ own outs o K st)
  (hK: ∀st' x w',K st'→Rel τ lo w0 st' (a.put o.dst x) w'→K' (a.put o.dst x) w'):o.wp P a w K' Q:=by
 obtain⟨ow,hd',bk,hr⟩:=h
 unfold Xi at ha
 split at ha
 ·rename_i f args ts hc
  split at ha
  ·rename_i as9 ob ls ob2 hargs hlends
   obtain⟨hap,hnd,hfew,hob,hob2,hsep,ress,⟨hcl,hcall⟩,hsz,hfl,hK1⟩:=ha
   have hev:zY τ w st.r st.b hd' bk (args.toList.map (ev st)) (args.toList.map a.eval):=zm.2 ⟨by simp,fun i v x hv hx=>by
    rw [List.getElem?_map]at hv hx
    cases hk:args.toList[i]? with
    |none=>rw [hk]at hv;cases hv
    |some p=>rw [hk]at hv hx;cases hv;cases hx;exact zg hr p⟩
   have hA:=Wq hr hev hargs hob hlends hob2 hsep hap hfew
   have hC:=hcall lo w (yf ow ls) _ hr.low (fun b p hb=>by
    obtain⟨d,q,ho,x,hx,-,q',-,hp⟩:=qD hb
    have hlt:b<w.heap.size:=by
     rcases Nat.lt_or_ge b w.heap.size with h'|h'
     ·exact h'
     ·rw [hr.new b h']at ho;cases ho
    exact⟨hlt,(hr.ge b _ hlt ho (by simp)).1,_,_,hp⟩) hA
   unfold Oper.wp
   rw [Zz hr hc hcl]
   simp only [Oper.upon]
   refine hC.mono fun e w' hpost=> ?_
   have hev2:zY τ w (st.cutI (ls.map (·.d))).r (st.cutI (ls.map (·.d))).b hd' bk (args.toList.map (ev st)) (args.toList.map a.eval):=by
    have :=yA (τ:=τ) (w:=w) (w':=w) (rr:=st.r) (rr':=st.r) (bb:=st.b) (bb':=(st.cutI (ls.map (·.d))).b) (hd:=hd') (hd':=hd') (bk:=bk) (bk':=bk) (ds:=noB) (bs:=noB) (fun d _ R hR=>⟨R,hR,rfl,fun p hp=>⟨hp,rfl⟩⟩) (fun t _ hl=>⟨JS t hl,rfl⟩) _ _ hev
    rwa [yu]at this
   obtain⟨z,ow',hd2,he,r1,r2⟩:=Ux (zC8 hr (ls.map (·.d))) hev2 (fun d ⟨x,hx,e⟩=>zCP (List.mem_map.2 ⟨x,hx,e⟩)) (by rw [Vl];exact hlends) hob2 hsep (wL hnd) (t:=zr o) hsz hfl hpost
   subst he
   exact hK _ z w' hK1 (xN r1 hd r2)
  ·exact ha.elim
 ·exact ha.elim
def Xl (P:Program)(τ:Ty)(al:List Nat)(t:Nat)(own:List Nat)(outs:List Out)(all:List Oper)(K:St→Prop):List Oper→St→Prop
 | [],st=>K st
 |o::os,st=>
  match o.guard with
  |none=>if o.dst=some t then Xi P τ own outs o (Xl P τ al t own outs all K os) st else aop P τ al o (Xl P τ al t own outs all K os) st
  |some (j,want)=>False
theorem YU (hτ:zz P τ)(hpos:yO τ){al:List Nat}{t:Nat}{own:List Nat}{outs:List Out}{all:List Oper}{K:St→Prop}{Q:Exit→Act→World→Prop}(hQ: ∀st a w,K st→Rel τ lo w0 st a w→Q .normal a w):
  ∀(os:List Oper) (st:St) (a:Act) (w:World),yh a.tmps.size os=true→Rel τ lo w0 st a w→Xl P τ al t own outs all K os st→wpList P all.toArray Q os a w
 | [],st,a,w,_,h,ha=>wpList_nil (hQ st a w ha h)
 |o::os,st,a,w,hd,h,ha=>by
  have hd1: ∀k,o.dst=some k→k<a.tmps.size:=fun k hk=>by
   have :=List.all_eq_true.1 hd o (by simp)
   rw [hk]at this
   simpa using this
  have hd2:yh a.tmps.size os=true:=List.all_eq_true.2 fun x hx=>List.all_eq_true.1 hd x (by simp [hx])
  refine wpList_step fun K' hK'=> ?_
  simp only [Xl]at ha
  split at ha
  ·rename_i hg
   rw [if_pos (by simp [Region.wanted,hg])]
   split at ha
   ·exact VB hd1 h ha fun st' x w' h1 h2=>hK' _ _ (YU hτ hpos hQ os st' _ w' (by rw [yg];exact hd2) h2 h1)
   ·exact vG hτ hpos hd1 h ha fun st' x w' h1 h2=>hK' _ _ (YU hτ hpos hQ os st' _ w' (by rw [yg];exact hd2) h2 h1)
  ·exact ha.elim
theorem uz {Q:Exit→St→Prop}(t:Nat)(own:List Nat)(outs:List Out)(hτ:zz P τ)(hpos:yO τ)(al:List Nat){id:Nat}{ops:List Oper}(hd:yh st.n ops=true)(h:Xl P τ al t own outs ops (Q .normal) ops st):awp P τ (.region id ops.toArray false) Q st:=fun lo w0 a w hr=>by
 have hn:a.tmps.size=st.n:=by obtain⟨ow,hd,bk,h⟩:=hr;exact h.size
 refine wp_region_lit (YU hτ hpos (fun st a w h1 h2=>⟨st,h2,h1⟩) ops st a w (by rw [hn];exact hd) hr h)
end
attribute [push_cast] St.cutI Xi Xl qY uB Uw wO vv ZH vw Ze mkF
section
variable {P:Program} {τ:Ty} {lo:Nat} {w0:Fz} {ow:Nat→Option Pl} {hd:Nat→Value} {bk:Nat→Nat} {st:St} {a:Act} {w:World}
def WM (P:Program)(τ:Ty)(al:List Nat)(X:Oper→(St→Prop)→St→Prop)(t:Option Nat)(K:St→Prop):List Oper→St→Prop
 | [],st=>K st
 |o::os,st=>
  match o.guard with
  |none=>if o.dst=t then X o (WM P τ al X t K os) st else aop P τ al o (WM P τ al X t K os) st
  |some (j,want)=>False
def uj (P:Program)(τ:Ty)(X:Oper→(St→Prop)→St→Prop):Prop:=
 ∀{lo:Nat} {w0:Fz} {st:St} {a:Act} {w:World} {o:Oper} {K:St→Prop} {Q:Exit→Act→World→Prop} {K':Act→World→Prop},(∀k,o.dst=some k→k<a.tmps.size)→Rel τ lo w0 st a w→X o K st→
  (∀st' x w',K st'→Rel τ lo w0 st' (a.put o.dst x) w'→K' (a.put o.dst x) w')→o.wp P a w K' Q
theorem XK (hτ:zz P τ)(hpos:yO τ){al:List Nat}{X:Oper→(St→Prop)→St→Prop}(hX:uj P τ X){t:Option Nat}{all:List Oper}{K:St→Prop}{Q:Exit→Act→World→Prop}(hQ: ∀st a w,K st→Rel τ lo w0 st a w→Q .normal a w):
  ∀(os:List Oper) (st:St) (a:Act) (w:World),yh a.tmps.size os=true→Rel τ lo w0 st a w→WM P τ al X t K os st→wpList P all.toArray Q os a w
 | [],st,a,w,_,h,ha=>wpList_nil (hQ st a w ha h)
 |o::os,st,a,w,hd,h,ha=>by
  have hd1: ∀k,o.dst=some k→k<a.tmps.size:=fun k hk=>by
   have :=List.all_eq_true.1 hd o (by simp)
   rw [hk]at this
   simpa using this
  have hd2:yh a.tmps.size os=true:=List.all_eq_true.2 fun x hx=>List.all_eq_true.1 hd x (by simp [hx])
  refine wpList_step fun K' hK'=> ?_
  simp only [WM]at ha
  split at ha
  ·rename_i hg
   rw [if_pos (by simp [Region.wanted,hg])]
   split at ha
   ·exact hX hd1 h ha fun st' x w' h2 h3=>hK' _ _ (XK hτ hpos @hX hQ os st' _ w' (by rw [yg];exact hd2) h3 h2)
   ·exact vG hτ hpos hd1 h ha fun st' x w' h2 h3=>hK' _ _ (XK hτ hpos @hX hQ os st' _ w' (by rw [yg];exact hd2) h3 h2)
  ·exact ha.elim
theorem zGo {α:Type}(xs:List α)(i:Nat):lay xs i []=xs:=by simp [lay]
theorem zFA {α:Type}{xs:List α}{i:Nat}(z:α)(m:Nat)(h:i<xs.length):lay (xs.set i z) (i+1) (List.replicate m z)=lay xs i (List.replicate (m+1) z):=by
 unfold lay
 rw [List.length_replicate,List.length_replicate,List.take_set,List.drop_set,if_pos (by omega),List.replicate_succ]
 rw [show i+1+m=i+(m+1) by omega,List.take_add_one,List.set_append_right _ _ (by rw [List.length_take];omega),List.length_take,show i - min i xs.length=0 by omega,List.getElem?_eq_getElem h]
 simp
theorem UJ {d:Nat}{e:TypeId}{pin:Option Nat}{b o n c:Nat}{kd:IntKind}(hhd:hd d= .slice (some ⟨b,o,none⟩) n c): ∀(m i:Nat) (xs:List D) (st:St) (w:World),zd τ lo w0 ow hd bk st a w→lk st.r d=some ⟨.ex,e,xs,pin⟩→i+m≤xs.length→xs.all xU=true→
  (∃st',zd τ lo w0 ow hd bk st' a (w.setCells b (o+i) (List.replicate m (.int kd 0)))∧st'.n=st.n∧st'.s=st.s∧st'.b=st.b∧∀d',lk st'.r d'=lk (st.setR d ⟨.ex,e,lay xs i (List.replicate m (.int kd 0)),pin⟩).r d')∧
  ∀j,j<m→(w.cell? ⟨b,o+i+j,none⟩).isSome=true∧w.frozen? ⟨b,o+i+j,none⟩=false
 |0,i,xs,st,w,h,hR,hl,hs=>by
  refine⟨⟨st,h,rfl,rfl,rfl,fun d'=> ?_⟩,fun j hj=>absurd hj (Nat.not_lt_zero j)⟩
  simp only [List.replicate,zGo,St.setR,zc]
  split
  ·rename_i e9;subst e9;exact hR
  ·rfl
 |m+1,i,xs,st,w,h,hR,hl,hs=>by
  have hi:i<xs.length:=by omega
  have hy:(yQ xs [])[i]? =some xs[i]:=by simp only [yQ];exact List.getElem?_eq_getElem hi
  have hys:xU xs[i]=true:=List.all_eq_true.1 hs _ (List.getElem_mem hi)
  obtain⟨s1,s2,old,s3⟩:=Jv h hR (p:= []) (i:=i) (x:= .int kd 0) (u:= .int kd 0) (.inl rfl) (by simp only [zl]) hy hys rfl (by simp only [Rp]) (b:=b) (o:=o) (n:=n) (c:=c) (by simp only [yD];rw [hhd])
  simp only [qK]at s1
  obtain⟨⟨st',r1,r2,r3,r4,r5⟩,r6⟩:=UJ (e:=e) (pin:=pin) (kd:=kd) hhd m (i+1) (xs.set i (.int kd 0)) _ _ s1 (by simp only [St.setR,zc,if_true]) (by rw [List.length_set];omega) (by
   rw [List.all_eq_true]
   intro x hx
   rcases List.mem_or_eq_of_mem_set hx with h9|h9
   ·exact List.all_eq_true.1 hs x h9
   ·subst h9;rfl)
  refine⟨⟨st',?_,r2,r3,r4,fun d'=> ?_⟩,fun j hj=> ?_⟩
  ·rw [List.replicate_succ]
   exact r1
  ·rw [r5 d',zFA _ _ hi]
   simp only [St.setR,zc]
   split<;>rfl
  ·cases j with
   |zero=>rw [Nat.add_zero,s3];exact⟨rfl,s2⟩
   |succ j=>
    have h9:=r6 j (by omega)
    rw [show o+(i+1)+j=o+i+(j+1) by omega,World.frozen?_setCell]at h9
    refine⟨?_,h9.2⟩
    have h10:=h9.1
    rwa [World.cell?_setCell_other _ _ _ _ (by intro e9;simp at e9)]at h10
def aClr (τ:Ty)(o:Oper)(K:St→Prop)(st:St):Prop:=
 match o.op with
 | .call c=>
  match c.callee with
  | .builtin .clear=>
   match c.args.toList,c.argTypes.toList with
   | [x],[ty]=>
    match ev st x,tk τ ty with
    | .sl d [] off len e,some (.sc (.sl e'),_)=>
     match lk st.r d,tk τ e' with
     |some R,some (.sc (.int k),_)=>e=e'∧R.o= .ex∧R.e=e'∧0<len∧off+len≤R.xs.length∧R.xs.all xU=true∧K (st.setR d {R with xs:=lay R.xs off (List.replicate len (.int k 0))})
     |_,_=>False
    |_,_=>False
   |_,_=>False
  |_=>False
 |_=>False
theorem zCB (hτ:zz P τ):uj P τ (fun o K st=>o.dst=none∧aClr τ o K st):=by
 intro lo w0 st a w o K Q K' hd9 h ha hK
 obtain⟨hdst,ha⟩:=ha
 obtain⟨ow,hd,bk,hr⟩:=h
 obtain⟨dst,op,oty,pos,after,guard⟩:=o
 simp only at hdst
 subst hdst
 unfold aClr at ha
 cases op<;>simp only at ha
 rename_i c
 obtain⟨callee,args,argTypes⟩:=c
 simp only at ha
 split at ha
 rotate_left
 ·exact ha.elim
 split at ha
 rotate_left
 ·exact ha.elim
 rename_i x ty h1 h2
 split at ha
 rotate_left
 ·exact ha.elim
 rename_i d off len e e' b0 hev hty
 split at ha
 rotate_left
 ·exact ha.elim
 rename_i R k b1 hR hte
 obtain⟨he,hex,hRe,hlen,hle,hall,hK1⟩:=ha
 subst he
 obtain⟨ro,re,rx,rp⟩:=R
 simp only at hex hRe hle hall hK1
 subst hex;subst hRe
 have e1:args= #[x]:=by cases args;simp at h1;subst h1;rfl
 have e2:argTypes= #[ty]:=by cases argTypes;simp at h2;subst h2;rfl
 subst e1;subst e2
 have hx:=zg hr x
 rw [hev]at hx
 simp only [AvR]at hx
 obtain⟨hv,hin,hsub⟩:=hx.2 _ hR (by simp only [zl])
 simp only [yD,Option.some.injEq]at hin
 subst hin
 have hsz:sz τ re=1:=XD hte
 obtain⟨A,n,c,A',c',hnw,hhd,hval,hle2,hlc,hmx,hf0,hA⟩:=hsub
 obtain⟨b,o,rfl,rfl⟩:=hA (by omega)
 rw [hsz,Nat.mul_one]at hval
 obtain⟨⟨st',r1,r2,r3,r4,r5⟩,r6⟩:=UJ (kd:=k) hhd len off rx st w hr hR hle hall
 obtain⟨i,i1,i2,i3,i4⟩:=YN hτ hte
 have hrun:=Go.Lib.run_clear_slice (P:=P) w ty re oty (CK.int k).zero (yT hτ hty).1 (fun w=>by simp [zeroValue,typeInfo,i1,i3]) (by simp [CK.zero,Value.cells]) (by simp [CK.zero,Value.oneCell']) b (o+off) len c' hlen (fun j hj=>(r6 j hj).1) (fun j hj=>(r6 j hj).2)
 unfold Oper.wp
 have hexec:(execOp a.eval ⟨none, .call ⟨.builtin .clear,#[x],#[ty]⟩,oty,pos,after,guard⟩).run P w= .ok (.value (.tuple #[])) (w.setCells b (o+off) (List.replicate len (.int k 0))):=by
  simp only [execOp,resolve,invoke,builtin]
  simp [hval,hrun,CK.zero]
 rw [hexec]
 refine hK _ (.tuple #[]) _ hK1 ?_
 exact xT ⟨ow,hd,bk,r1⟩ ⟨by rw [r2];rfl,fun k v hv=> .inr (by rw [r3];exact hv),fun t cs hc=>by rw [r4];exact hc,fun d R hd=>by rw [r5];exact hd⟩
end
theorem UA {P:Program}{τ:Ty}{Q:Exit→St→Prop}{st:St}(X:Oper→(St→Prop)→St→Prop)(hX:uj P τ X)(t:Option Nat)(hτ:zz P τ)(hpos:yO τ)(al:List Nat){id:Nat}{ops:List Oper}(hd:yh st.n ops=true)(h:WM P τ al X t (Q .normal) ops st):awp P τ (.region id ops.toArray false) Q st:=fun lo w0 a w hr=>by
 have hn:a.tmps.size=st.n:=by obtain⟨ow,hd,bk,h⟩:=hr;exact h.size
 refine wp_region_lit (XK hτ hpos @hX (fun st a w h1 h2=>⟨st,h2,h1⟩) ops st a w (by rw [hn];exact hd) hr h)
theorem zEw {P:Program}{τ:Ty}{Q:Exit→St→Prop}{st:St}{c:Code}(t k:Nat){d m:Nat}{e:TypeId}{xs:List D}{pin:Option Nat}(ht:t<st.n)(hs:lk st.s t=some (.sl d [] 0 m e))(hR:lk st.r d=some ⟨.ex,e,xs,pin⟩)(hz:sz τ e=1)(hsc:xs.all xU=true)
  (hK:awp P τ c Q (((st.delR d).addR k ⟨.ex,e,xs.take m,none⟩).put (some t) (.sl k [] 0 m e))):awp P τ c Q st:=fun lo w0 a w hr=>by
 obtain⟨ow,hd,bk,h⟩:=hr
 have hx:=h.slot t _ hs
 simp only [AvR]at hx
 obtain⟨hv,hin,hsub⟩:=hx.2 _ hR (by simp only [zl])
 simp only [yD,Option.some.injEq]at hin
 subst hin
 obtain⟨A,n,c1,A',c',hnw,hhd,hval,hle2,hlc,hmx,hf0,hA⟩:=hsub
 obtain⟨rfl,rfl⟩:=hf0 rfl
 obtain⟨vs,⟨k1,N,k2,k3⟩,k5⟩:=(zx _ _).1 (h.root d _ hR)
 simp only [md]at k3
 obtain⟨hown,hlab⟩:=k3
 rw [hhd]at hown hlab
 have hNn:N=n:=by
  rcases hown.2 with⟨hv,h0⟩|⟨g,cap,cur,hv,_⟩
  ·cases hv;exact h0
  ·cases hv;rfl
 subst hNn
 have hm:m≤N:=by omega
 have hpre:=ZZ hown hm
 rw [hz,Nat.mul_one]at hpre
 have k2:xs.length=N*sz τ e:=k2
 have k1:vs.length=xs.length:=k1
 rw [hz,Nat.mul_one]at k2
 have hblk:(Value.slice A' m c').ownBlock=(Value.slice A' N c').ownBlock:=by cases A'<;>rfl
 have h1:=Yk h d
 have h2:=vb h1 d (by simp [St.delR,xB,is1]) (vZ ow d fun q=>some (.root k q)) (fun b hb=>xI hb) (Zm (by simp))
 have h3:=qA h2 k ⟨.ex,e,xs.take m,none⟩ (.slice A' m c') ((zx _ _).2 ⟨vs.take m,⟨by rw [List.length_take,List.length_take,k1],m,by rw [hz,List.length_take];omega,by
  simp only [md]
  rw [hz]
  exact⟨hpre,fun b hb=>by rw [hblk]at hb;exact vn (hlab b hb)⟩⟩,fun i x u hx hu=>by
   rw [List.getElem?_take]at hx hu
   split at hx
   ·rename_i hi
    rw [if_pos hi]at hu
    exact WJ (List.all_eq_true.1 hsc x (List.mem_of_getElem? hx)) (k5 i x u hx hu)
   ·cases hx⟩)
 have hsz:t<a.tmps.size:=by rw [h.size];exact ht
 have hrel:=xN (d:=some t) (v:= .sl k [] 0 m e) (x:=a.eval (.tmp t)) h3 (fun k hk=>by cases hk;exact hsz) (by
  show AvR _ _ _ _ _ _ _ (a.tmps.getD t undef)
  rw [hval]
  simp only [AvR]
  refine⟨⟨_,_,_,rfl⟩,fun R hR hp=>⟨.slice A' m c',by simp only [yD,zu],A',m,c',A',c',nw0,rfl,rfl,by omega,by omega,hmx,fun _=>⟨rfl,rfl⟩,fun hne=> ?_⟩⟩
  obtain⟨b,o,e1,e2⟩:=hA hne
  exact⟨b,o,e1,by rw [Nat.zero_mul]at e2⊢;exact e2⟩)
 rw [zFU hsz]at hrel
 exact hK lo w0 a w hrel
attribute [push_cast] aClr WM
end Go.Proofs.Ytipplkjdmdlhpaa
