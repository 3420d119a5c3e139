/- the least credits, as a least list above its own needs: plain -/
import Derived.Test.YtdbecmmeifdafaaGWzbr
import Derived.Test.YtdbecmmeifdafaaB4zbr
namespace Go.Proofs.Ytdbecmmeifdafaa
open Nat renaming reduceMod → zA, reduceMul → zB, reduceDiv → zC, reduceAdd → zD, reduceSub → zE, reduceEqDiff → zF, reduceBEq → zG, reduceLT → zH, reduceLeDiff → zI
open Go.RowKit
set_option linter.unusedVariables false
set_option linter.unusedSimpArgs false
structure WSh (w:Wt):Prop where
 ok:yA w.a=true
 n1:1≤w.a.owner.length
 n2:w.a.owner.length≤24
 nl:w.a.next.length=w.a.owner.length
 cl:w.cost.length=w.a.owner.length
 row: ∀v,v<w.a.owner.length→(gl w.cost v).length=(gl w.a.next v).length∧1≤(gl w.a.next v).length∧(gl w.a.next v).length≤16
 bd: ∀v,v<w.a.owner.length→∀j,j<(gl w.a.next v).length→ -20000≤gi (gl w.cost v) j∧gi (gl w.cost v) j≤20000
 to: ∀v,v<w.a.owner.length→∀j,j<(gl w.a.next v).length→0≤gi (gl w.a.next v) j∧gi (gl w.a.next v) j<w.a.owner.length
 own: ∀v,v<w.a.owner.length→gi w.a.owner v=0∨gi w.a.owner v=1
def yY :Int→List Int→Int
 |m,[]=>m
 |m,c::r=>yY (if -c>m then -c else m) r
def yl :Int→List (List Int)→Int
 |m,[]=>m
 |m,r::rs=>yl (yY m r) rs
theorem zDy (m:Int)(a b:List Int):yY m (a++b)=yY (yY m a) b:=by
 induction a generalizing m with
 |nil=>rfl
 |cons x a ih=>exact ih _
theorem zC2 (m:Int)(a b:List (List Int)):yl m (a++b)=yl (yl m a) b:=by
 induction a generalizing m with
 |nil=>rfl
 |cons x a ih=>exact ih _
theorem Je {m:Int}{r:List Int}{k:Nat}(h:k<r.length):yY m (r.take (k+1))=if -gi r k>yY m (r.take k)then -gi r k else yY m (r.take k):=by
 rw [List.take_add_one,vb h,zDy]
 rfl
theorem zBj {m:Int}{rs:List (List Int)}{k:Nat}(h:k<rs.length):yl m (rs.take (k+1))=yY (yl m (rs.take k)) (gl rs k):=by
 rw [List.take_add_one,Wr h,zC2]
 rfl
theorem zE6 {B:Int}{r:List Int}(h: ∀x∈r,-B≤x): ∀{m:Int},0≤m→m≤B→0≤yY m r∧yY m r≤B:=by
 induction r with
 |nil=>intro m h0 h1;exact⟨h0,h1⟩
 |cons x r ih=>
  intro m h0 h1
  have hx:=h x List.mem_cons_self
  unfold yY
  split
  ·exact ih (fun y hy=>h y (List.mem_cons_of_mem _ hy)) (by omega) (by omega)
  ·exact ih (fun y hy=>h y (List.mem_cons_of_mem _ hy)) h0 h1
theorem zEJ {B:Int}{rs:List (List Int)}(h: ∀r∈rs,∀x∈r,-B≤x): ∀{m:Int},0≤m→m≤B→0≤yl m rs∧yl m rs≤B:=by
 induction rs with
 |nil=>intro m h0 h1;exact⟨h0,h1⟩
 |cons x r ih=>
  intro m h0 h1
  have hx:=zE6 (h x List.mem_cons_self) h0 h1
  exact ih (fun y hy=>h y (List.mem_cons_of_mem _ hy)) hx.1 hx.2
def zk (w:Wt):Int:=((w.a.owner.length:Int) - 1)*yl 0 w.cost
theorem zFe {xs:List Int}{x:Int}(h:x∈xs): ∃k,k<xs.length∧gi xs k=x:=by
 obtain⟨k,hk,rfl⟩:=List.getElem_of_mem h
 refine⟨k,hk,?_⟩
 unfold gi
 rw [List.getD_eq_getElem?_getD,List.getElem?_eq_getElem hk]
 rfl
theorem zAg {xs:List (List Int)}{x:List Int}(h:x∈xs): ∃k,k<xs.length∧gl xs k=x:=by
 obtain⟨k,hk,rfl⟩:=List.getElem_of_mem h
 refine⟨k,hk,?_⟩
 unfold gl
 rw [List.getD_eq_getElem?_getD,List.getElem?_eq_getElem hk]
 rfl
theorem WSh.worst {w:Wt}(h:WSh w)(k:Nat):0≤yl 0 (w.cost.take k)∧yl 0 (w.cost.take k)≤20000:=by
 refine zEJ (fun r hr x hx=> ?_) (Int.le_refl _) (by omega)
 obtain⟨v,hv,rfl⟩:=zAg (List.mem_of_mem_take hr)
 obtain⟨j,hj,rfl⟩:=zFe hx
 have hv':v<w.a.owner.length:=by have :=h.cl;omega
 exact(h.bd v hv' j (by have :=(h.row v hv').1;omega)).1
theorem WSh.bound {w:Wt}(h:WSh w):0≤zk w∧zk w≤460000:=by
 have h1:=h.worst w.cost.length
 rw [List.take_length]at h1
 have h2:=h.n1
 have h3:=h.n2
 unfold zk
 constructor
 ·exact Int.mul_nonneg (by omega) h1.1
 ·have h4:((w.a.owner.length:Int) - 1)*yl 0 w.cost≤23*yl 0 w.cost:=Int.mul_le_mul_of_nonneg_right (by omega) h1.1
  omega
def va (w:Wt)(b:Int)(c:List Int)(v j:Nat):Int:=
 if gi c (gi (gl w.a.next v) j).toNat>b then b+1 else if gi c (gi (gl w.a.next v) j).toNat - gi (gl w.cost v) j>0 then gi c (gi (gl w.a.next v) j).toNat - gi (gl w.cost v) j else 0
def xL (o:Int)(f:Nat→Int):Nat→Int
 |0=> -1
 |k+1=>if xL o f k<0∨(o=0∧f k<xL o f k)∨(o=1∧f k>xL o f k)then f k else xL o f k
theorem vu (o:Int)(f:Nat→Int)(k:Nat):xL o f (k+1)=if xL o f k<0∨(o=0∧f k<xL o f k)∨(o=1∧f k>xL o f k)then f k else xL o f k:=rfl
theorem QZ (o:Int)(f:Nat→Int):xL o f 1=f 0:=by
 rw [vu,if_pos (Or.inl (by simp [xL]))]
def Zl (b x:Int):Int:=if b+1<x then b+1 else x
def xV (w:Wt)(b:Int)(c:List Int)(v:Nat):Int:=Zl b (xL (gi w.a.owner v) (va w b c v) (gl w.a.next v).length)
def yL (b x:Int):Int:=if x>b then -1 else x
theorem wD {w:Wt}{b:Int}{c:List Int}{v j:Nat}(hb:0≤b):0≤va w b c v j:=by unfold va;split<;>(try split)<;>omega
theorem wz {o:Int}{f:Nat→Int}(hf: ∀j,0≤f j): ∀k,1≤k→0≤xL o f k
 |1,_=>by rw [QZ];exact hf 0
 |k+2,_=>by have h1:=wz (o:=o) hf (k+1) (by omega);have h2:=hf (k+1);rw [vu o f (k+1)];split<;>omega
theorem zBA {o:Int}{f:Nat→Int}(hf: ∀j,0≤f j): ∀k,-1≤xL o f k
 |0=>by simp only [xL];omega
 |k+1=>by have h1:=wz (o:=o) hf (k+1) (by omega);omega
theorem jd {o:Int}(ho:o=0∨o=1){f g:Nat→Int}(hf: ∀j,0≤f j)(hg: ∀j,0≤g j): ∀k,(∀j,j<k→f j≤g j)→xL o f k≤xL o g k
 |0,_=>Int.le_refl _
 |1,h=>by rw [QZ,QZ];exact h 0 (by omega)
 |k+2,h=>by
  have h1:=jd ho hf hg (k+1) (fun j hj=>h j (by omega))
  have h2:=h (k+1) (by omega)
  have h3:=wz (o:=o) hf (k+1) (by omega)
  have h4:=wz (o:=o) hg (k+1) (by omega)
  rw [vu o f (k+1),vu o g (k+1)]
  rcases ho with rfl|rfl<;>split<;>split<;>omega
theorem zD2 {w:Wt}{b:Int}{c d:List Int}{v j:Nat}(hb:0≤b)(hB:gi d (gi (gl w.a.next v) j).toNat≤b+1)(h:gi c (gi (gl w.a.next v) j).toNat≤gi d (gi (gl w.a.next v) j).toNat):Zl b (va w b c v j)≤Zl b (va w b d v j):=by
 unfold va Zl
 split<;>split<;>split<;>(try split)<;>omega
theorem Vy {o b:Int}(ho:o=0∨o=1)(hb:0≤b){f:Nat→Int}(hf: ∀j,0≤f j): ∀k,Zl b (xL o f k)=xL o (fun j=>Zl b (f j)) k
 |0=>by
  show Zl b (-1)= -1
  unfold Zl
  rw [if_neg (by omega)]
 |k+1=>by
  have h1:=Vy ho hb hf k
  have h2:=hf k
  have h3:=zBA (o:=o) hf k
  rw [vu,vu,←h1]
  unfold Zl
  rcases ho with rfl|rfl<;>split<;>split<;>split<;>(try split)<;>omega
theorem zCY {b x:Int}(hb:0≤b)(h:0≤x):0≤Zl b x:=by unfold Zl;split<;>omega
theorem Kj {w:Wt}(hw:WSh w){b:Int}(hb:0≤b){c d:List Int}{v:Nat}(hv:v<w.a.owner.length)(hB: ∀u,u<w.a.owner.length→gi d u≤b+1)(h: ∀u,u<w.a.owner.length→gi c u≤gi d u):xV w b c v≤xV w b d v:=by
 unfold xV
 rw [Vy (hw.own v hv) hb fun j=>wD hb,Vy (hw.own v hv) hb fun j=>wD hb]
 refine jd (hw.own v hv) (fun j=>zCY hb (wD hb)) (fun j=>zCY hb (wD hb)) _ fun j hj=> ?_
 have ht:=hw.to v hv j hj
 exact zD2 hb (hB _ (by omega)) (h _ (by omega))
theorem wE {w:Wt}(hw:WSh w){b:Int}(hb:0≤b){c:List Int}{v:Nat}(hv:v<w.a.owner.length):0≤xV w b c v∧xV w b c v≤b+1:=by
 have h1:=wz (o:=gi w.a.owner v) (f:=va w b c v) (fun j=>wD hb) (gl w.a.next v).length (hw.row v hv).2.1
 unfold xV Zl
 split<;>omega
structure PreC (w:Wt)(b:Int)(d:List Int):Prop where
 len:d.length=w.a.owner.length
 rg: ∀v,v<w.a.owner.length→0≤gi d v∧gi d v≤b+1
 pre: ∀v,v<w.a.owner.length→xV w b d v≤gi d v
structure XR (w:Wt)(b:Int)(c:List Int):Prop where
 len:c.length=w.a.owner.length
 rg: ∀v,v<w.a.owner.length→0≤gi c v∧gi c v≤b+1
 up: ∀v,v<w.a.owner.length→gi c v≤xV w b c v
 low: ∀d,PreC w b d→∀v,v<w.a.owner.length→gi c v≤gi d v
structure xJ (w:Wt)(b:Int)(c:List Int):Prop extends XR w b c where
 pre: ∀v,v<w.a.owner.length→xV w b c v≤gi c v
theorem Vw {c:List Int}{v u:Nat}{x:Int}(hv:v<c.length):gi (c.set v x) u=if u=v then x else gi c u:=by
 unfold gi
 rw [List.getD_eq_getElem?_getD,List.getElem?_set]
 split
 ·rename_i h;subst h;simp [hv]
 ·rename_i h;rw [if_neg (by omega),List.getD_eq_getElem?_getD]
theorem kf {n v:Nat}:gi (List.replicate n 0) v=0:=by
 unfold gi
 rw [List.getD_eq_getElem?_getD,List.getElem?_replicate]
 split<;>rfl
theorem XR.zero {w:Wt}(hw:WSh w){b:Int}(hb:0≤b):XR w b (List.replicate w.a.owner.length 0) where
 len:=by simp
 rg v hv:=by rw [kf];omega
 up v hv:=by rw [kf];exact(wE hw hb hv).1
 low d hd v hv:=by rw [kf];exact(hd.rg v hv).1
theorem XR.set {w:Wt}(hw:WSh w){b:Int}(hb:0≤b){c:List Int}(h:XR w b c){v:Nat}(hv:v<w.a.owner.length):XR w b (c.set v (xV w b c v)):=by
 have hr:=wE hw hb (c:=c) hv
 have hl:=h.len
 have hle: ∀u,u<w.a.owner.length→gi c u≤gi (c.set v (xV w b c v)) u:=fun u hu=>by
  rw [Vw (by omega)]
  split
  ·rename_i e;subst e;exact h.up u hu
  ·exact Int.le_refl _
 have hrg: ∀u,u<w.a.owner.length→0≤gi (c.set v (xV w b c v)) u∧gi (c.set v (xV w b c v)) u≤b+1:=fun u hu=>by
  rw [Vw (by omega)]
  split
  ·exact hr
  ·exact h.rg u hu
 refine⟨by simp [hl],hrg,fun u hu=> ?_,fun d hd u hu=> ?_⟩
 ·refine Int.le_trans ?_ (Kj hw hb hu (fun x hx=>(hrg x hx).2) hle)
  rw [Vw (by omega)]
  split
  ·rename_i e;subst e;exact Int.le_refl _
  ·exact h.up u hu
 ·rw [Vw (by omega)]
  split
  ·rename_i e;subst e
   exact Int.le_trans (Kj hw hb hu (fun x hx=>(hd.rg x hx).2) (fun x hx=>h.low d hd x hx)) (hd.pre u hu)
  ·exact h.low d hd u hu
theorem zEx {a b:List Int}(hl:a.length=b.length)(h: ∀v,v<a.length→gi a v=gi b v):a=b:=by
 refine List.ext_getElem? fun i=> ?_
 by_cases hi:i<a.length
 ·rw [vb hi,vb (by omega),h i hi]
 ·rw [List.getElem?_eq_none (by omega),List.getElem?_eq_none (by omega)]
theorem xJ.uniq {w:Wt}{b:Int}{c d:List Int}(h1:xJ w b c)(h2:xJ w b d):c=d:=by
 refine zEx (by rw [h1.len,h2.len]) fun v hv=> ?_
 rw [h1.len]at hv
 have e1:=h1.low d ⟨h2.len,h2.rg,h2.pre⟩ v hv
 have e2:=h2.low c ⟨h1.len,h1.rg,h1.pre⟩ v hv
 omega
def Yk (b:Int):List Int→Nat
 | []=>0
 |x::c=>(b+1 - x).toNat+Yk b c
theorem Xl {b x:Int}: ∀{c:List Int} {v:Nat},v<c.length→gi c v<x→x≤b+1→Yk b (c.set v x)<Yk b c
 |y::c,0,_,h1,h2=>by
  have h1:y<x:=h1
  simp only [List.set_cons_zero,Yk]
  omega
 |y::c,v+1,h0,h1,h2=>by
  have :=Xl (b:=b) (x:=x) (c:=c) (v:=v) (by simpa using h0) h1 h2
  simp only [List.set_cons_succ,Yk]
  omega
theorem KC {w:Wt}(hw:WSh w){b:Int}(hb:0≤b): ∃c,xJ w b c:=by
 have key: ∀m (c:List Int),XR w b c→Yk b c≤m→∃c,xJ w b c:=by
  intro m
  induction m with
  |zero=>
   intro c hc h0
   refine⟨c,hc,fun v hv=> ?_⟩
   have :=hc.up v hv
   by_cases e:gi c v<xV w b c v
   ·have :=Xl (b:=b) (by rw [hc.len];exact hv) e (wE hw hb hv).2
    omega
   ·omega
  |succ m ih=>
   intro c hc h0
   by_cases e: ∃v,v<w.a.owner.length∧gi c v<xV w b c v
   ·obtain⟨v,hv,e⟩:=e
    have :=Xl (b:=b) (by rw [hc.len];exact hv) e (wE hw hb hv).2
    exact ih _ (hc.set hw hb hv) (by omega)
   ·refine⟨c,hc,fun v hv=> ?_⟩
    have : ¬gi c v<xV w b c v:=fun h=>e ⟨v,hv,h⟩
    omega
 exact key _ _ (XR.zero hw hb) (Nat.le_refl _)
theorem vK {xs:List Int}{n:Int}(h:qC xs n=true){j:Nat}(hj:j<xs.length):0≤gi xs j∧gi xs j<n:=by
 have :=xR h hj
 unfold qS at this
 have :=of_decide_eq_true this
 exact⟨this.1,this.2.1⟩
theorem vQ {w:Wt}(h:yP w=true):WSh w:=by
 obtain⟨h1,h2,h3,h4,h5,h6⟩:=yV h
 refine⟨h1,h2,h3,h4,h5,fun v hv=>⟨(h6 v hv).1,(h6 v hv).2.1,(h6 v hv).2.2.1⟩,fun v hv j hj=> ?_,fun v hv j hj=> ?_,fun v hv=> ?_⟩
 ·have :=(h6 v hv).2.2.2 j (by rw [(h6 v hv).1];exact hj)
  omega
 ·have :=yG h1 hv
  exact vK this.2.2.2.2 hj
 ·have :=yG h1 hv
  omega
theorem zEo {c:List Int}{f:Int→Int}{v:Nat}(h:v<c.length):gi (c.map f) v=f (gi c v):=by
 unfold gi
 rw [List.getD_eq_getElem?_getD,List.getElem?_map,List.getD_eq_getElem?_getD,List.getElem?_eq_getElem h]
 rfl
theorem Jc (a:Int): ∀(r:List Int) (m:Int),yY (if a>m then a else m) r=if a>yY m r then a else yY m r
 | [],m=>rfl
 |x::r,m=>by
  show yY (if -x>(if a>m then a else m)then -x else(if a>m then a else m)) r=if a>yY (if -x>m then -x else m) r then a else yY (if -x>m then -x else m) r
  rw [←Jc a r]
  congr 1
  omega
theorem minW {r:List Int}(h:1≤r.length){m:Int}:(if -yY (-gi r 0) r< -m then -yY (-gi r 0) r else -m)= -yY m r:=by
 cases r with
 |nil=>simp at h
 |cons x r=>
  rw [show gi (x::r) 0=x from rfl]
  have h1:=Jc m (x::r) (-x)
  have h2:yY (if m> -x then m else -x) (x::r)=yY m (x::r):=by
   simp only [yY]
   congr 1
   omega
  rw [h2]at h1
  rw [h1]
  omega
set_option maxRecDepth 20000 in
set_option maxHeartbeats 4000000 in
theorem zIq (r:List Int)(h:1≤r.length)(h2:r.length≤1048576)(hb: ∀j,j<r.length→ -20000≤gi r j∧gi r j≤20000):Fn Try.prog tyT 112 [.c (DI r)] [.c (.int .i64 (-yY (-gi r 0) r))]:=by
 refine zt (fn:=Try.f112) (ts:= [2]) Try.func112 (by kernel_rfl) rfl rfl (by rw [Try.ntmps112];exact Nat.le_of_ble_eq_true rfl) rfl (by simp only [szA,List.mem_cons,List.not_mem_nil,or_false,forall_eq_or_imp,forall_eq,VT.cells,szL];try decide) ?_
 rw [Try.ntmps112]
 simp only [push_cast,↓zK,↓zJ,↓reduceIte,zA,zB,zC,zD,zE,zF,zG,zH,zI,reduceCtorEq]
 refine zL fun K hK=> ?_
 refine zM zP zN [] rfl ?_
 simp only [push_cast,↓zK,↓zJ,↓reduceIte,zA,zB,zC,zD,zE,zF,zG,zH,zI,reduceCtorEq]
 repeat' apply And.intro
 all_goals try exact gB
 all_goals first|(refine hK _ ?_;clear hK K)|(simp only [push_cast];done)
 refine zL fun K1 hK1=> ?_
 refine zL fun K hK=> ?_
 refine zM zP zN [] rfl ?_
 simp only [push_cast,↓zK,↓zJ,↓reduceIte,zA,zB,zC,zD,zE,zF,zG,zH,zI,reduceCtorEq]
 repeat' apply And.intro
 all_goals try exact gB
 all_goals first|(refine hK _ ?_;clear hK K)|(simp only [push_cast];done)
 refine zU rfl (fun hc=> ?_) (fun hc=> ?_)
 skip
 ·exfalso;first|(cases hc;done)|(simp only [push_cast]at hc;done)|(simp only [push_cast]at hc;omega)|omega
 refine zV ?_
 (try simp only [zR,zS,reduceIte,zF]);refine hK1 _ ?_
 refine zL fun K hK=> ?_
 refine zM zP zN [] rfl ?_
 simp only [push_cast,↓zK,↓zJ,↓reduceIte,zA,zB,zC,zD,zE,zF,zG,zH,zI,reduceCtorEq]
 repeat' apply And.intro
 all_goals try exact gB
 all_goals first|(refine hK _ ?_;clear hK K)|(simp only [push_cast];done)
 refine zL fun K2 hK2=> ?_
 refine zL fun K hK=> ?_
 refine zM zP zN [] rfl ?_
 simp only [push_cast,↓zK,↓zJ,↓reduceIte,zA,zB,zC,zD,zE,zF,zG,zH,zI,reduceCtorEq]
 repeat' apply And.intro
 all_goals try exact gB
 all_goals first|(refine hK _ ?_;clear hK K)|(simp only [push_cast];done)
 refine zT ?_
 refine zd [3,4,12,13,14,15,16,17,18,19,20,21,22,23] [] (fun(k:Nat)=> [(4, .int .i64 k),(3, .int .i64 (-yY (-gi r 0) (r.take k)))]) (fun k=> []) (fun k=> []) (fun k=>1≤k∧k≤r.length) (fun k=>r.length - k) 1 ?_ (by omega) ?_
 ·
  rw [Je (by omega),List.take_zero,show yY (-gi r 0) []= -gi r 0 from rfl,if_neg (by omega),Int.neg_neg]
  refine zW rfl ?_ ?_ ?_<;>simp only [zc,zb,push_cast,↓zK,↓zJ,↓reduceIte,zA,zB,zC,zD,zE,zF,zG,zH,zI,reduceCtorEq]
 ·rintro k ⟨hk1,hk⟩ KL0 hL0
  simp only [push_cast,↓zK,↓zJ,↓reduceIte,zA,zB,zC,zD,zE,zF,zG,zH,zI,reduceCtorEq]
  refine zL fun K3 hK3=> ?_
  refine zL fun K hK=> ?_
  refine zM zP zN [] rfl ?_
  simp only [push_cast,↓zK,↓zJ,↓reduceIte,zA,zB,zC,zD,zE,zF,zG,zH,zI,reduceCtorEq]
  repeat' apply And.intro
  all_goals try exact gB
  all_goals first|(refine hK _ ?_;clear hK K)|(simp only [push_cast];done)
  refine zU rfl (fun hc=> ?_) (fun hc=> ?_)<;>(try simp only [push_cast]at hc)
  ·
   refine zV ?_
   (try simp only [zR,zS,reduceIte,zF]);refine hK3 _ ?_
   refine zL fun K4 hK4=> ?_
   refine zT ?_
   refine zM zP zN [] rfl ?_
   simp only [push_cast,↓zK,↓zJ,↓reduceIte,zA,zB,zC,zD,zE,zF,zG,zH,zI,reduceCtorEq]
   repeat' apply And.intro
   all_goals try exact gB
   (try simp only [zR,zS,reduceIte,zF]);refine hK4 _ ?_
   refine zM zP zN [] rfl ?_
   simp only [push_cast,↓zK,↓zJ,↓reduceIte,zA,zB,zC,zD,zE,zF,zG,zH,zI,reduceCtorEq]
   repeat' apply And.intro
   all_goals try exact gB
   refine hL0 _ ⟨k+1,by omega,by omega,?_⟩
   rw [Je (by omega)]
   refine zW rfl ?_ ?_ ?_<;>simp only [zc,zb,push_cast,↓zK,↓zJ,↓reduceIte,zA,zB,zC,zD,zE,zF,zG,zH,zI,reduceCtorEq]
   all_goals(refine congrArg (AV.int .i64) ?_;omega)
  ·
   refine ze ?_
   (try simp only [zR,zS,reduceIte,zF]);refine hK2 _ ?_
   refine zL fun K hK=> ?_
   refine zM zP zN [] rfl ?_
   simp only [push_cast,↓zK,↓zJ,↓reduceIte,zA,zB,zC,zD,zE,zF,zG,zH,zI,reduceCtorEq]
   repeat' apply And.intro
   all_goals try exact gB
   all_goals first|(refine hK _ ?_;clear hK K)|(simp only [push_cast];done)
   refine zX ?_
   (try simp only [zR,zS])
   refine⟨Or.inl rfl,?_⟩
   simp only [zg,push_cast,↓zK,↓zJ,↓reduceIte,zA,zB,zC,zD,zE,zF,zG,zH,zI,reduceCtorEq]
   rw [show k=r.length from by omega,List.take_length]
set_option maxRecDepth 20000 in
set_option maxHeartbeats 4000000 in
theorem jy (w:Wt)(ha:w.Ln 1048576)(hw:WSh w):Fn Try.prog tyT 66 [.agg (dWt w)] [.c (.int .i64 (zk w))]:=by
 have hcr: ∀v,(gl w.cost v).length≤1048576:=fun v=>vH ha.cost v
 have hbb:=hw.bound
 unfold zk at hbb
 have hcl:=hw.cl
 have hn1:=hw.n1
 have hn2:=hw.n2
 have hno:=ha.a.owner
 unfold LnI at hno
 have hcb:=hw.worst
 have hM:=fun k h=>zIq (gl w.cost k) (by have :=hw.row k h;omega) (hcr k) (fun j hj=>hw.bd k h j (by have :=hw.row k h;omega))
 have hSz:=kF w.a
 unfold zk
 unfold dAr at hSz
 unfold dWt
 refine zt (fn:=Try.f66) (ts:= [2]) Try.func66 (by kernel_rfl) rfl rfl (by rw [Try.ntmps66];exact Nat.le_of_ble_eq_true rfl) rfl (by simp only [szA,List.mem_cons,List.not_mem_nil,or_false,forall_eq_or_imp,forall_eq,VT.cells,szL];try decide) ?_
 rw [Try.ntmps66]
 simp only [push_cast,↓zK,↓zJ,↓reduceIte,zA,zB,zC,zD,zE,zF,zG,zH,zI,reduceCtorEq]
 refine zL fun K hK=> ?_
 refine zM zP zN [] rfl ?_
 all_goals simp only [push_cast,↓zK,↓zJ,↓reduceIte,zA,zB,zC,zD,zE,zF,zG,zH,zI,reduceCtorEq]
 all_goals repeat'(first|(apply zO<;>(intro hg;(try simp only [push_cast]at hg)))|(refine⟨_,hM k (by omega),?_⟩;simp only [push_cast,↓zK,↓zJ,↓reduceIte,zA,zB,zC,zD,zE,zF,zG,zH,zI,reduceCtorEq])|(refine⟨_,hSz,?_⟩;simp only [push_cast,↓zK,↓zJ,↓reduceIte,zA,zB,zC,zD,zE,zF,zG,zH,zI,reduceCtorEq])|(refine⟨_,hSz hno,?_⟩;simp only [push_cast,↓zK,↓zJ,↓reduceIte,zA,zB,zC,zD,zE,zF,zG,zH,zI,reduceCtorEq])|apply And.intro|(intro hg;(try simp only [push_cast]at hg)))
 all_goals first|exact gA|(exact zQ (by omega))|(rw [Int.neg_neg];omega)|skip
 all_goals first|(refine hK _ ?_;clear hK K)|(simp only [push_cast];done)
 refine zL fun K hK=> ?_
 refine zM zP zN [] rfl ?_
 all_goals simp only [push_cast,↓zK,↓zJ,↓reduceIte,zA,zB,zC,zD,zE,zF,zG,zH,zI,reduceCtorEq]
 all_goals repeat'(first|(apply zO<;>(intro hg;(try simp only [push_cast]at hg)))|(refine⟨_,hM k (by omega),?_⟩;simp only [push_cast,↓zK,↓zJ,↓reduceIte,zA,zB,zC,zD,zE,zF,zG,zH,zI,reduceCtorEq])|(refine⟨_,hSz,?_⟩;simp only [push_cast,↓zK,↓zJ,↓reduceIte,zA,zB,zC,zD,zE,zF,zG,zH,zI,reduceCtorEq])|(refine⟨_,hSz hno,?_⟩;simp only [push_cast,↓zK,↓zJ,↓reduceIte,zA,zB,zC,zD,zE,zF,zG,zH,zI,reduceCtorEq])|apply And.intro|(intro hg;(try simp only [push_cast]at hg)))
 all_goals first|exact gA|(exact zQ (by omega))|(rw [Int.neg_neg];omega)|skip
 all_goals first|(refine hK _ ?_;clear hK K)|(simp only [push_cast];done)
 refine zL fun K1 hK1=> ?_
 refine zL fun K hK=> ?_
 refine zM zP zN [] rfl ?_
 all_goals simp only [push_cast,↓zK,↓zJ,↓reduceIte,zA,zB,zC,zD,zE,zF,zG,zH,zI,reduceCtorEq]
 all_goals repeat'(first|(apply zO<;>(intro hg;(try simp only [push_cast]at hg)))|(refine⟨_,hM k (by omega),?_⟩;simp only [push_cast,↓zK,↓zJ,↓reduceIte,zA,zB,zC,zD,zE,zF,zG,zH,zI,reduceCtorEq])|(refine⟨_,hSz,?_⟩;simp only [push_cast,↓zK,↓zJ,↓reduceIte,zA,zB,zC,zD,zE,zF,zG,zH,zI,reduceCtorEq])|(refine⟨_,hSz hno,?_⟩;simp only [push_cast,↓zK,↓zJ,↓reduceIte,zA,zB,zC,zD,zE,zF,zG,zH,zI,reduceCtorEq])|apply And.intro|(intro hg;(try simp only [push_cast]at hg)))
 all_goals first|exact gA|(exact zQ (by omega))|(rw [Int.neg_neg];omega)|skip
 all_goals first|(refine hK _ ?_;clear hK K)|(simp only [push_cast];done)
 refine zT ?_
 refine zd [3,5,9,10,11,12,13,14,15,16,17] [] (fun(k:Nat)=> [(9, .int .i64 k),(3, .int .i64 (-yl 0 (w.cost.take k)))]) (fun k=> []) (fun k=> []) (fun k=>k≤w.cost.length) (fun k=>w.cost.length - k) 0 ?_ (by omega) ?_
 ·
  rw [List.take_zero,show -yl 0 []=0 from rfl]
  refine zW rfl ?_ ?_ ?_<;>simp only [zc,zb,push_cast,↓zK,↓zJ,↓reduceIte,zA,zB,zC,zD,zE,zF,zG,zH,zI,reduceCtorEq]
 ·rintro k hk KL0 hL0
  have hwr:k<w.cost.length→_:=fun h=>hw.row k (by omega)
  have hwk:=hcb k
  have hwk1:=hcb (k+1)
  simp only [push_cast,↓zK,↓zJ,↓reduceIte,zA,zB,zC,zD,zE,zF,zG,zH,zI,reduceCtorEq]
  refine zL fun K hK=> ?_
  refine zM zP zN [] rfl ?_
  all_goals simp only [push_cast,↓zK,↓zJ,↓reduceIte,zA,zB,zC,zD,zE,zF,zG,zH,zI,reduceCtorEq]
  all_goals repeat'(first|(apply zO<;>(intro hg;(try simp only [push_cast]at hg)))|(refine⟨_,hM k (by omega),?_⟩;simp only [push_cast,↓zK,↓zJ,↓reduceIte,zA,zB,zC,zD,zE,zF,zG,zH,zI,reduceCtorEq])|(refine⟨_,hSz,?_⟩;simp only [push_cast,↓zK,↓zJ,↓reduceIte,zA,zB,zC,zD,zE,zF,zG,zH,zI,reduceCtorEq])|(refine⟨_,hSz hno,?_⟩;simp only [push_cast,↓zK,↓zJ,↓reduceIte,zA,zB,zC,zD,zE,zF,zG,zH,zI,reduceCtorEq])|apply And.intro|(intro hg;(try simp only [push_cast]at hg)))
  all_goals first|exact gA|(exact zQ (by omega))|(rw [Int.neg_neg];omega)|skip
  all_goals first|(refine hK _ ?_;clear hK K)|(simp only [push_cast];done)
  refine zL fun K2 hK2=> ?_
  refine zU rfl (fun hc=> ?_) (fun hc=> ?_)<;>(try simp only [push_cast]at hc)
  ·
   refine zV ?_
   (try simp only [zR,zS,reduceIte,zF]);refine hK2 _ ?_
   refine zL fun K3 hK3=> ?_
   refine zT ?_
   refine zL fun K hK=> ?_
   refine zM zP zN [] rfl ?_
   all_goals simp only [push_cast,↓zK,↓zJ,↓reduceIte,zA,zB,zC,zD,zE,zF,zG,zH,zI,reduceCtorEq]
   all_goals repeat'(first|(apply zO<;>(intro hg;(try simp only [push_cast]at hg)))|(refine⟨_,hM k (by omega),?_⟩;simp only [push_cast,↓zK,↓zJ,↓reduceIte,zA,zB,zC,zD,zE,zF,zG,zH,zI,reduceCtorEq])|(refine⟨_,hSz,?_⟩;simp only [push_cast,↓zK,↓zJ,↓reduceIte,zA,zB,zC,zD,zE,zF,zG,zH,zI,reduceCtorEq])|(refine⟨_,hSz hno,?_⟩;simp only [push_cast,↓zK,↓zJ,↓reduceIte,zA,zB,zC,zD,zE,zF,zG,zH,zI,reduceCtorEq])|apply And.intro|(intro hg;(try simp only [push_cast]at hg)))
   all_goals first|exact gA|(exact zQ (by omega))|(rw [Int.neg_neg];omega)|skip
   all_goals first|(refine hK _ ?_;clear hK K)|(simp only [push_cast];done)
   refine zM zP zN [] rfl ?_
   all_goals refine zm 3 fun K9 hK9=> ?_
   all_goals simp only [push_cast,↓zK,↓zJ,↓reduceIte,zA,zB,zC,zD,zE,zF,zG,zH,zI,reduceCtorEq]
   all_goals repeat'(first|(apply zO<;>(intro hg;(try simp only [push_cast]at hg)))|(refine⟨_,hM k (by omega),?_⟩;simp only [push_cast,↓zK,↓zJ,↓reduceIte,zA,zB,zC,zD,zE,zF,zG,zH,zI,reduceCtorEq])|(refine⟨_,hSz,?_⟩;simp only [push_cast,↓zK,↓zJ,↓reduceIte,zA,zB,zC,zD,zE,zF,zG,zH,zI,reduceCtorEq])|(refine⟨_,hSz hno,?_⟩;simp only [push_cast,↓zK,↓zJ,↓reduceIte,zA,zB,zC,zD,zE,zF,zG,zH,zI,reduceCtorEq])|apply And.intro|(intro hg;(try simp only [push_cast]at hg)))
   all_goals first|exact gA|(exact zQ (by omega))|(rw [Int.neg_neg];omega)|skip
   all_goals first|(refine hK9 _ ?_;clear hK9 K9)|(simp only [push_cast];done)
   all_goals simp only [push_cast,↓zK,↓zJ,↓reduceIte,zA,zB,zC,zD,zE,zF,zG,zH,zI,reduceCtorEq]
   all_goals repeat'(first|(apply zO<;>(intro hg;(try simp only [push_cast]at hg)))|(refine⟨_,hM k (by omega),?_⟩;simp only [push_cast,↓zK,↓zJ,↓reduceIte,zA,zB,zC,zD,zE,zF,zG,zH,zI,reduceCtorEq])|(refine⟨_,hSz,?_⟩;simp only [push_cast,↓zK,↓zJ,↓reduceIte,zA,zB,zC,zD,zE,zF,zG,zH,zI,reduceCtorEq])|(refine⟨_,hSz hno,?_⟩;simp only [push_cast,↓zK,↓zJ,↓reduceIte,zA,zB,zC,zD,zE,zF,zG,zH,zI,reduceCtorEq])|apply And.intro|(intro hg;(try simp only [push_cast]at hg)))
   all_goals first|exact gA|(exact zQ (by omega))|(rw [Int.neg_neg];omega)|skip
   (try simp only [zR,zS,reduceIte,zF]);refine hK3 _ ?_
   refine zM zP zN [] rfl ?_
   all_goals simp only [push_cast,↓zK,↓zJ,↓reduceIte,zA,zB,zC,zD,zE,zF,zG,zH,zI,reduceCtorEq]
   all_goals repeat'(first|(apply zO<;>(intro hg;(try simp only [push_cast]at hg)))|(refine⟨_,hM k (by omega),?_⟩;simp only [push_cast,↓zK,↓zJ,↓reduceIte,zA,zB,zC,zD,zE,zF,zG,zH,zI,reduceCtorEq])|(refine⟨_,hSz,?_⟩;simp only [push_cast,↓zK,↓zJ,↓reduceIte,zA,zB,zC,zD,zE,zF,zG,zH,zI,reduceCtorEq])|(refine⟨_,hSz hno,?_⟩;simp only [push_cast,↓zK,↓zJ,↓reduceIte,zA,zB,zC,zD,zE,zF,zG,zH,zI,reduceCtorEq])|apply And.intro|(intro hg;(try simp only [push_cast]at hg)))
   all_goals first|exact gA|(exact zQ (by omega))|(rw [Int.neg_neg];omega)|skip
   refine hL0 _ ⟨k+1,by omega,by omega,?_⟩
   rw [minW (by have :=hwr (by omega);omega),zBj (by omega)]
   refine zW rfl ?_ ?_ ?_<;>simp only [zc,zb,push_cast,↓zK,↓zJ,↓reduceIte,zA,zB,zC,zD,zE,zF,zG,zH,zI,reduceCtorEq]
  ·
   refine ze ?_
   have hkk:k=w.cost.length:=by omega
   subst hkk
   have hwc:=hcb w.cost.length
   rw [List.take_length]at hwc⊢
   (try simp only [zR,zS,reduceIte,zF]);refine hK1 _ ?_
   refine zL fun K hK=> ?_
   refine zM zP zN [] rfl ?_
   all_goals refine zm 3 fun K9 hK9=> ?_
   all_goals simp only [push_cast,↓zK,↓zJ,↓reduceIte,zA,zB,zC,zD,zE,zF,zG,zH,zI,reduceCtorEq]
   all_goals repeat'(first|(apply zO<;>(intro hg;(try simp only [push_cast]at hg)))|(refine⟨_,hM k (by omega),?_⟩;simp only [push_cast,↓zK,↓zJ,↓reduceIte,zA,zB,zC,zD,zE,zF,zG,zH,zI,reduceCtorEq])|(refine⟨_,hSz,?_⟩;simp only [push_cast,↓zK,↓zJ,↓reduceIte,zA,zB,zC,zD,zE,zF,zG,zH,zI,reduceCtorEq])|(refine⟨_,hSz hno,?_⟩;simp only [push_cast,↓zK,↓zJ,↓reduceIte,zA,zB,zC,zD,zE,zF,zG,zH,zI,reduceCtorEq])|apply And.intro|(intro hg;(try simp only [push_cast]at hg)))
   all_goals first|exact gA|(exact zQ (by omega))|(rw [Int.neg_neg];omega)|skip
   all_goals first|(refine hK9 _ ?_;clear hK9 K9)|(simp only [push_cast];done)
   all_goals simp only [push_cast,↓zK,↓zJ,↓reduceIte,zA,zB,zC,zD,zE,zF,zG,zH,zI,reduceCtorEq]
   all_goals repeat'(first|(apply zO<;>(intro hg;(try simp only [push_cast]at hg)))|(refine⟨_,hM k (by omega),?_⟩;simp only [push_cast,↓zK,↓zJ,↓reduceIte,zA,zB,zC,zD,zE,zF,zG,zH,zI,reduceCtorEq])|(refine⟨_,hSz,?_⟩;simp only [push_cast,↓zK,↓zJ,↓reduceIte,zA,zB,zC,zD,zE,zF,zG,zH,zI,reduceCtorEq])|(refine⟨_,hSz hno,?_⟩;simp only [push_cast,↓zK,↓zJ,↓reduceIte,zA,zB,zC,zD,zE,zF,zG,zH,zI,reduceCtorEq])|apply And.intro|(intro hg;(try simp only [push_cast]at hg)))
   all_goals first|exact gA|(exact zQ (by omega))|(rw [Int.neg_neg];omega)|skip
   all_goals first|(refine hK _ ?_;clear hK K)|(simp only [push_cast];done)
   refine zX ?_
   (try simp only [zR,zS])
   refine⟨Or.inl rfl,?_⟩
   simp only [zg,push_cast,↓zK,↓zJ,↓reduceIte,zA,zB,zC,zD,zE,zF,zG,zH,zI,reduceCtorEq]
   rw [Int.neg_neg]
def wF (b:Int)(c:List Int)(k:Nat):List Int:=(c.take k).map (yL b)++c.drop k
theorem zBG {b:Int}{c:List Int}{k:Nat}(h:k≤c.length):(wF b c k).length=c.length:=by simp [wF];omega
theorem zIn (b:Int)(c:List Int):wF b c 0=c:=by simp [wF]
theorem zFy (b:Int)(c:List Int):wF b c c.length=c.map (yL b):=by simp [wF]
theorem zCO {c:List Int}{k:Nat}(h:k<c.length):c.drop k=gi c k::c.drop (k+1):=by
 rw [List.drop_eq_getElem_cons h]
 congr 1
 unfold gi
 rw [List.getD_eq_getElem?_getD,List.getElem?_eq_getElem h]
 rfl
theorem zCA {b:Int}{c:List Int}{k:Nat}(h:k<c.length):gi (wF b c k) k=gi c k:=by
 have hl:((c.take k).map (yL b)).length=k:=by simp;omega
 unfold wF
 rw [zCO h]
 exact KR (xs:=(c.take k).map (yL b)) (ys:=gi c k::c.drop (k+1)) (k:=0) hl
theorem uy {b:Int}{c:List Int}{k:Nat}(h:k<c.length):(wF b c k).set k (yL b (gi c k))=wF b c (k+1):=by
 have hl:((c.take k).map (yL b)).length=k:=by simp;omega
 unfold wF
 rw [List.set_append_right _ _ (by omega),hl,Nat.sub_self,zCO h,List.set_cons_zero,List.take_add_one,vb h]
 simp
theorem zG8 {b:Int}{c:List Int}{k:Nat}(h:k<c.length)(hx:gi c k>b):(wF b c k).set k (-1)=wF b c (k+1):=by
 rw [←uy h]
 unfold yL
 rw [if_pos hx]
theorem zJe {c:List Int}{k:Nat}(h:k<c.length):c.set k (gi c k)=c:=by
 refine zEx (by simp) fun v hv=> ?_
 rw [Vw h]
 split
 ·rename_i e;rw [e]
 ·rfl
theorem zFH {b:Int}{c:List Int}{k:Nat}(h:k<c.length)(hx: ¬gi c k>b):wF b c (k+1)=wF b c k:=by
 rw [←uy h,show yL b (gi c k)=gi (wF b c k) k from by rw [zCA h];unfold yL;rw [if_neg hx],zJe (by rw [zBG (by omega)];exact h)]
set_option maxRecDepth 20000 in
set_option maxHeartbeats 4000000 in
theorem Wj (w:Wt)(ha:w.Ln 1048576)(hw:WSh w)(b:Int)(hbw:zk w=b)(c:List Int)(hL:xJ w b c):Fn Try.prog tyT 63 [.agg (dWt w)] [.c (DI (c.map (yL b)))]:=by
 have hr: ∀v,(gl w.a.next v).length≤1048576:=fun v=>vH ha.a.next v
 have hcr: ∀v,(gl w.cost v).length≤1048576:=fun v=>vH ha.cost v
 have hcl:=hw.cl
 have hnl:=hw.nl
 have hn1:=hw.n1
 have hn2:=hw.n2
 have hBd:=jy w ha hw
 rw [hbw]at hBd
 have hb:=hw.bound
 rw [hbw]at hb
 unfold dWt at hBd⊢
 refine zt (fn:=Try.f63) (ts:= [2]) Try.func63 (by kernel_rfl) rfl rfl (by rw [Try.ntmps63];exact Nat.le_of_ble_eq_true rfl) rfl (by simp only [szA,List.mem_cons,List.not_mem_nil,or_false,forall_eq_or_imp,forall_eq,VT.cells,szL];try decide) ?_
 rw [Try.ntmps63]
 simp only [push_cast,↓zK,↓zJ,↓reduceIte,zA,zB,zC,zD,zE,zF,zG,zH,zI,reduceCtorEq]
 refine zL fun K hK=> ?_
 refine zM zP zN [] rfl ?_
 all_goals simp only [push_cast,↓zK,↓zJ,↓reduceIte,zA,zB,zC,zD,zE,zF,zG,zH,zI,reduceCtorEq]
 all_goals repeat'(first|(apply zO<;>(intro hg;(try simp only [push_cast]at hg)))|(refine⟨_,hBd,?_⟩;simp only [push_cast,↓zK,↓zJ,↓reduceIte,zA,zB,zC,zD,zE,zF,zG,zH,zI,reduceCtorEq])|apply And.intro|(intro hg;(try simp only [push_cast]at hg)))
 all_goals first|exact gA|(exact zQ (by omega))|skip
 all_goals first|(refine hK _ ?_;clear hK K)|(simp only [push_cast];done)
 refine zL fun K hK=> ?_
 refine zM zP zN [] rfl ?_
 all_goals refine zm 2 fun K9 hK9=> ?_
 all_goals simp only [push_cast,↓zK,↓zJ,↓reduceIte,zA,zB,zC,zD,zE,zF,zG,zH,zI,reduceCtorEq]
 all_goals repeat'(first|(apply zO<;>(intro hg;(try simp only [push_cast]at hg)))|(refine⟨_,hBd,?_⟩;simp only [push_cast,↓zK,↓zJ,↓reduceIte,zA,zB,zC,zD,zE,zF,zG,zH,zI,reduceCtorEq])|apply And.intro|(intro hg;(try simp only [push_cast]at hg)))
 all_goals first|exact gA|(exact zQ (by omega))|skip
 all_goals first|(refine hK9 _ ?_;clear hK9 K9)|(simp only [push_cast];done)
 all_goals simp only [push_cast,↓zK,↓zJ,↓reduceIte,zA,zB,zC,zD,zE,zF,zG,zH,zI,reduceCtorEq]
 all_goals repeat'(first|(apply zO<;>(intro hg;(try simp only [push_cast]at hg)))|(refine⟨_,hBd,?_⟩;simp only [push_cast,↓zK,↓zJ,↓reduceIte,zA,zB,zC,zD,zE,zF,zG,zH,zI,reduceCtorEq])|apply And.intro|(intro hg;(try simp only [push_cast]at hg)))
 all_goals first|exact gA|(exact zQ (by omega))|skip
 all_goals first|(refine hK _ ?_;clear hK K)|(simp only [push_cast];done)
 refine zL fun K hK=> ?_
 refine zM zP zN [] rfl ?_
 all_goals simp only [push_cast,↓zK,↓zJ,↓reduceIte,zA,zB,zC,zD,zE,zF,zG,zH,zI,reduceCtorEq]
 all_goals repeat'(first|(apply zO<;>(intro hg;(try simp only [push_cast]at hg)))|(refine⟨_,hBd,?_⟩;simp only [push_cast,↓zK,↓zJ,↓reduceIte,zA,zB,zC,zD,zE,zF,zG,zH,zI,reduceCtorEq])|apply And.intro|(intro hg;(try simp only [push_cast]at hg)))
 all_goals first|exact gA|(exact zQ (by omega))|skip
 all_goals first|(refine hK _ ?_;clear hK K)|(simp only [push_cast];done)
 refine zL fun K1 hK1=> ?_
 refine zL fun K hK=> ?_
 refine zM zP zN [] rfl ?_
 all_goals simp only [push_cast,↓zK,↓zJ,↓reduceIte,zA,zB,zC,zD,zE,zF,zG,zH,zI,reduceCtorEq]
 all_goals repeat'(first|(apply zO<;>(intro hg;(try simp only [push_cast]at hg)))|(refine⟨_,hBd,?_⟩;simp only [push_cast,↓zK,↓zJ,↓reduceIte,zA,zB,zC,zD,zE,zF,zG,zH,zI,reduceCtorEq])|apply And.intro|(intro hg;(try simp only [push_cast]at hg)))
 all_goals first|exact gA|(exact zQ (by omega))|skip
 all_goals first|(refine hK _ ?_;clear hK K)|(simp only [push_cast];done)
 refine zT ?_
 refine zd [5,6,7,8,9,10,11,19,20,21,22,23,24,25,26,27,28,29,30,31,32,33,34,35,36,37,38,39,40,41,42,43,44,45,46,47,48,49,50,51,52,53,54,55,56,57,58,59,60,61,62,63,64,65,66,67,68,69,70,71,72,73,74,75,76,77,78,79,80,81,82,83,84,85,86,87,88,89,90,91,92,93,94,95,96,97,98,99,100,101,102,103,104] [64] (fun(p:List Int×Bool)=> [(5, .bool p.2)]) (fun p=> []) (fun p=> [(64,⟨.ex,2,dI p.1,none⟩)]) (fun p=>XR w b p.1∧(p.2=false→∀v,v<w.a.owner.length→xV w b p.1 v≤gi p.1 v)) (fun p=>Yk b p.1+(if p.2 then 1 else 0)) (List.replicate w.cost.length 0,true) ?_ ⟨by rw [hcl];exact XR.zero hw hb.1,fun h=>by cases h⟩ ?_
 ·
  refine zW rfl ?_ ?_ ?_<;>simp only [zc,zb,push_cast,↓zK,↓zJ,↓reduceIte,zA,zB,zC,zD,zE,zF,zG,zH,zI,reduceCtorEq]
 ·rintro⟨c1,fl⟩ ⟨hlo,hfix⟩ KL0 hL0
  dsimp only at hlo hfix
  have hl1:=hlo.len
  have hml1:(c1.map (yL b)).length=c1.length:=List.length_map ..
  simp only [push_cast,↓zK,↓zJ,↓reduceIte,zA,zB,zC,zD,zE,zF,zG,zH,zI,reduceCtorEq]
  refine zL fun K2 hK2=> ?_
  refine zL fun K hK=> ?_
  refine zM zP zN [] rfl ?_
  all_goals simp only [push_cast,↓zK,↓zJ,↓reduceIte,zA,zB,zC,zD,zE,zF,zG,zH,zI,reduceCtorEq]
  all_goals repeat'(first|(apply zO<;>(intro hg;(try simp only [push_cast]at hg)))|(refine⟨_,hBd,?_⟩;simp only [push_cast,↓zK,↓zJ,↓reduceIte,zA,zB,zC,zD,zE,zF,zG,zH,zI,reduceCtorEq])|apply And.intro|(intro hg;(try simp only [push_cast]at hg)))
  all_goals first|exact gA|(exact zQ (by omega))|skip
  all_goals first|(refine hK _ ?_;clear hK K)|(simp only [push_cast];done)
  refine zU rfl (fun hc=> ?_) (fun hc=> ?_)<;>(try simp only [push_cast]at hc)
  ·
   refine zV ?_
   (try simp only [zR,zS,reduceIte,zF]);refine hK2 _ ?_
   refine zT ?_
   refine zL fun K hK=> ?_
   refine zM zP zN [] rfl ?_
   all_goals simp only [push_cast,↓zK,↓zJ,↓reduceIte,zA,zB,zC,zD,zE,zF,zG,zH,zI,reduceCtorEq]
   all_goals repeat'(first|(apply zO<;>(intro hg;(try simp only [push_cast]at hg)))|(refine⟨_,hBd,?_⟩;simp only [push_cast,↓zK,↓zJ,↓reduceIte,zA,zB,zC,zD,zE,zF,zG,zH,zI,reduceCtorEq])|apply And.intro|(intro hg;(try simp only [push_cast]at hg)))
   all_goals first|exact gA|(exact zQ (by omega))|skip
   all_goals first|(refine hK _ ?_;clear hK K)|(simp only [push_cast];done)
   refine zL fun K hK=> ?_
   refine zM zP zN [] rfl ?_
   all_goals simp only [push_cast,↓zK,↓zJ,↓reduceIte,zA,zB,zC,zD,zE,zF,zG,zH,zI,reduceCtorEq]
   all_goals repeat'(first|(apply zO<;>(intro hg;(try simp only [push_cast]at hg)))|(refine⟨_,hBd,?_⟩;simp only [push_cast,↓zK,↓zJ,↓reduceIte,zA,zB,zC,zD,zE,zF,zG,zH,zI,reduceCtorEq])|apply And.intro|(intro hg;(try simp only [push_cast]at hg)))
   all_goals first|exact gA|(exact zQ (by omega))|skip
   all_goals first|(refine hK _ ?_;clear hK K)|(simp only [push_cast];done)
   refine zT ?_
   refine zd [5,6,7,8,9,10,11,24,25,26,27,28,29,30,31,32,33,34,35,36,37,38,39,40,41,42,43,44,45,46,47,48,49,50,51,52,53,54,55,56,57,58,59,60,61,62,63,64,65,66,67,68,69,70,71,72,73,74,75,76,77,78,79,80,81,82,83,84,85,86,87,88,89,90,91,92,93,94,95,96,97,98,99,100,101,102,103,104] [64] (fun(q:Nat×List Int×Bool)=> [(24, .int .i64 q.1),(5, .bool q.2.2)]) (fun q=> []) (fun q=> [(64,⟨.ex,2,dI q.2.1,none⟩)]) (fun q=>q.1≤w.a.owner.length∧XR w b q.2.1∧(q.2.2=true→Yk b q.2.1<Yk b c1)∧(q.2.2=false→q.2.1=c1∧∀j,j<q.1→xV w b c1 j≤gi c1 j)) (fun q=>w.a.owner.length - q.1) (0,c1,false) ?_ ⟨by omega,hlo,fun h=>(by cases h),fun _=>⟨rfl,fun j hj=>by omega⟩⟩ ?_
   ·
    refine zW rfl ?_ ?_ ?_<;>simp only [zc,zb,push_cast,↓zK,↓zJ,↓reduceIte,zA,zB,zC,zD,zE,zF,zG,zH,zI,reduceCtorEq]
   ·rintro⟨v,c2,fl2⟩ ⟨hv,hlo2,hrm,hsm⟩ KL1 hL1
    dsimp only at hv hlo2 hrm hsm
    have hl2:=hlo2.len
    have hml2:(c2.map (yL b)).length=c2.length:=List.length_map ..
    have hrv:=hr v
    have hcv:=hcr v
    have hrs:=fun(hv:v<w.a.owner.length) (h:gi c2 v<xV w b c2 v)=>Xl (b:=b) (x:=xV w b c2 v) (by rw [hlo2.len];exact hv) h (wE hw hb.1 hv).2
    simp only [push_cast,↓zK,↓zJ,↓reduceIte,zA,zB,zC,zD,zE,zF,zG,zH,zI,reduceCtorEq]
    refine zL fun K hK=> ?_
    refine zM zP zN [] rfl ?_
    all_goals simp only [push_cast,↓zK,↓zJ,↓reduceIte,zA,zB,zC,zD,zE,zF,zG,zH,zI,reduceCtorEq]
    all_goals repeat'(first|(apply zO<;>(intro hg;(try simp only [push_cast]at hg)))|(refine⟨_,hBd,?_⟩;simp only [push_cast,↓zK,↓zJ,↓reduceIte,zA,zB,zC,zD,zE,zF,zG,zH,zI,reduceCtorEq])|apply And.intro|(intro hg;(try simp only [push_cast]at hg)))
    all_goals first|exact gA|(exact zQ (by omega))|skip
    all_goals first|(refine hK _ ?_;clear hK K)|(simp only [push_cast];done)
    refine zL fun K3 hK3=> ?_
    refine zU rfl (fun hc=> ?_) (fun hc=> ?_)<;>(try simp only [push_cast]at hc)
    ·
     refine zV ?_
     (try simp only [zR,zS,reduceIte,zF]);refine hK3 _ ?_
     refine zL fun K4 hK4=> ?_
     refine zT ?_
     refine zL fun K hK=> ?_
     refine zM zP zN [] rfl ?_
     all_goals simp only [push_cast,↓zK,↓zJ,↓reduceIte,zA,zB,zC,zD,zE,zF,zG,zH,zI,reduceCtorEq]
     all_goals repeat'(first|(apply zO<;>(intro hg;(try simp only [push_cast]at hg)))|(refine⟨_,hBd,?_⟩;simp only [push_cast,↓zK,↓zJ,↓reduceIte,zA,zB,zC,zD,zE,zF,zG,zH,zI,reduceCtorEq])|apply And.intro|(intro hg;(try simp only [push_cast]at hg)))
     all_goals first|exact gA|(exact zQ (by omega))|skip
     all_goals first|(refine hK _ ?_;clear hK K)|(simp only [push_cast];done)
     refine zL fun K hK=> ?_
     refine zM zP zN [] rfl ?_
     all_goals simp only [push_cast,↓zK,↓zJ,↓reduceIte,zA,zB,zC,zD,zE,zF,zG,zH,zI,reduceCtorEq]
     all_goals repeat'(first|(apply zO<;>(intro hg;(try simp only [push_cast]at hg)))|(refine⟨_,hBd,?_⟩;simp only [push_cast,↓zK,↓zJ,↓reduceIte,zA,zB,zC,zD,zE,zF,zG,zH,zI,reduceCtorEq])|apply And.intro|(intro hg;(try simp only [push_cast]at hg)))
     all_goals first|exact gA|(exact zQ (by omega))|skip
     all_goals first|(refine hK _ ?_;clear hK K)|(simp only [push_cast];done)
     refine zL fun K5 hK5=> ?_
     refine zL fun K hK=> ?_
     refine zM zP zN [] rfl ?_
     all_goals simp only [push_cast,↓zK,↓zJ,↓reduceIte,zA,zB,zC,zD,zE,zF,zG,zH,zI,reduceCtorEq]
     all_goals repeat'(first|(apply zO<;>(intro hg;(try simp only [push_cast]at hg)))|(refine⟨_,hBd,?_⟩;simp only [push_cast,↓zK,↓zJ,↓reduceIte,zA,zB,zC,zD,zE,zF,zG,zH,zI,reduceCtorEq])|apply And.intro|(intro hg;(try simp only [push_cast]at hg)))
     all_goals first|exact gA|(exact zQ (by omega))|skip
     all_goals first|(refine hK _ ?_;clear hK K)|(simp only [push_cast];done)
     refine zT ?_
     refine zd [8,9,10,11,31,32,33,34,35,36,37,38,39,40,41,42,43,44,45,46,47,48,49,50,51,52,53,54,55,56,57,58,59,60,61,62,63,64,65,66,67,68,69,70,71,72,73,74,75,76,77,78,79,80,81,82,83,84,85,86,87,88,89] [] (fun(k:Nat)=> [(31, .int .i64 k),(8, .int .i64 (xL (gi w.a.owner v) (va w b c2 v) k))]) (fun k=> []) (fun k=> []) (fun k=>k≤(gl w.a.next v).length) (fun k=>(gl w.a.next v).length - k) 0 ?_ (by omega) ?_
     ·
      rw [show xL (gi w.a.owner v) (va w b c2 v) 0= -1 from rfl]
      refine zW rfl ?_ ?_ ?_<;>simp only [zc,zb,push_cast,↓zK,↓zJ,↓reduceIte,zA,zB,zC,zD,zE,zF,zG,zH,zI,reduceCtorEq]
     ·rintro k hk KL2 hL2
      simp only [push_cast,↓zK,↓zJ,↓reduceIte,zA,zB,zC,zD,zE,zF,zG,zH,zI,reduceCtorEq]
      refine zL fun K hK=> ?_
      refine zM zP zN [] rfl ?_
      all_goals simp only [push_cast,↓zK,↓zJ,↓reduceIte,zA,zB,zC,zD,zE,zF,zG,zH,zI,reduceCtorEq]
      all_goals repeat'(first|(apply zO<;>(intro hg;(try simp only [push_cast]at hg)))|(refine⟨_,hBd,?_⟩;simp only [push_cast,↓zK,↓zJ,↓reduceIte,zA,zB,zC,zD,zE,zF,zG,zH,zI,reduceCtorEq])|apply And.intro|(intro hg;(try simp only [push_cast]at hg)))
      all_goals first|exact gA|(exact zQ (by omega))|skip
      all_goals first|(refine hK _ ?_;clear hK K)|(simp only [push_cast];done)
      refine zL fun K6 hK6=> ?_
      refine zU rfl (fun hc=> ?_) (fun hc=> ?_)<;>(try simp only [push_cast]at hc)
      ·
       refine zV ?_
       (try simp only [zR,zS,reduceIte,zF]);refine hK6 _ ?_
       refine zL fun K7 hK7=> ?_
       refine zT ?_
       obtain⟨hr1,hr2,hr3⟩:=hw.row v (by omega)
       have hk2:k<(gl w.a.next v).length:=by omega
       have hto:=hw.to v (by omega) k hk2
       have hbd:=hw.bd v (by omega) k hk2
       have hown:=hw.own v (by omega)
       have hcu:=hlo2.rg (gi (gl w.a.next v) k).toNat (by omega)
       have hne:va w b c2 v k=if gi c2 (gi (gl w.a.next v) k).toNat>b then b+1 else if gi c2 (gi (gl w.a.next v) k).toNat - gi (gl w.cost v) k>0 then gi c2 (gi (gl w.a.next v) k).toNat - gi (gl w.cost v) k else 0:=rfl
       refine zL fun K hK=> ?_
       refine zM zP zN [] rfl ?_
       all_goals simp only [push_cast,↓zK,↓zJ,↓reduceIte,zA,zB,zC,zD,zE,zF,zG,zH,zI,reduceCtorEq]
       all_goals repeat'(first|(apply zO<;>(intro hg;(try simp only [push_cast]at hg)))|(refine⟨_,hBd,?_⟩;simp only [push_cast,↓zK,↓zJ,↓reduceIte,zA,zB,zC,zD,zE,zF,zG,zH,zI,reduceCtorEq])|apply And.intro|(intro hg;(try simp only [push_cast]at hg)))
       all_goals first|exact gA|(exact zQ (by omega))|skip
       all_goals first|(refine hK _ ?_;clear hK K)|(simp only [push_cast];done)
       refine zL fun K hK=> ?_
       refine zv false zP zN yj ?_ rfl ?_
       ·kernel_rfl
       intro E hE
       all_goals simp only [push_cast,↓zK,↓zJ,↓reduceIte,zA,zB,zC,zD,zE,zF,zG,zH,zI,reduceCtorEq]
       all_goals repeat'(first|(apply zO<;>(intro hg;(try simp only [push_cast]at hg)))|(refine⟨_,hBd,?_⟩;simp only [push_cast,↓zK,↓zJ,↓reduceIte,zA,zB,zC,zD,zE,zF,zG,zH,zI,reduceCtorEq])|apply And.intro|(intro hg;(try simp only [push_cast]at hg)))
       all_goals first|exact gA|(refine hE _ _ ?_ ?_;kernel_rfl)|(exact zQ (by omega))|skip
       all_goals clear hE E
       all_goals first|(refine hK _ ?_;clear hK K)|(simp only [push_cast];done)
       refine zFW [11,50,51,52,53,54,55,56,57] [] (fun(u9:Unit)=> [(11, .int .i64 (va w b c2 v k))]) (fun u9=> []) (fun u9=> []) (fun u9=>True) ?_ ?_
       ·
        intro K8 hK8
        refine zL fun K hK=> ?_
        refine zM zP zN [] rfl ?_
        all_goals simp only [push_cast,↓zK,↓zJ,↓reduceIte,zA,zB,zC,zD,zE,zF,zG,zH,zI,reduceCtorEq]
        all_goals repeat'(first|(apply zO<;>(intro hg;(try simp only [push_cast]at hg)))|(refine⟨_,hBd,?_⟩;simp only [push_cast,↓zK,↓zJ,↓reduceIte,zA,zB,zC,zD,zE,zF,zG,zH,zI,reduceCtorEq])|apply And.intro|(intro hg;(try simp only [push_cast]at hg)))
        all_goals first|exact gA|(exact zQ (by omega))|skip
        all_goals first|(refine hK _ ?_;clear hK K)|(simp only [push_cast];done)
        refine zU rfl (fun hc=> ?_) (fun hc=> ?_)<;>(try simp only [push_cast]at hc)
        ·
         refine zM zP zN [] rfl ?_
         all_goals simp only [push_cast,↓zK,↓zJ,↓reduceIte,zA,zB,zC,zD,zE,zF,zG,zH,zI,reduceCtorEq]
         all_goals repeat'(first|(apply zO<;>(intro hg;(try simp only [push_cast]at hg)))|(refine⟨_,hBd,?_⟩;simp only [push_cast,↓zK,↓zJ,↓reduceIte,zA,zB,zC,zD,zE,zF,zG,zH,zI,reduceCtorEq])|apply And.intro|(intro hg;(try simp only [push_cast]at hg)))
         all_goals first|exact gA|(exact zQ (by omega))|skip
         (try simp only [zR,zS,reduceIte,zF])
         refine hK8 _ ⟨(),trivial,?_⟩
         refine zW rfl ?_ ?_ ?_<;>simp only [zc,zb,push_cast,↓zK,↓zJ,↓reduceIte,zA,zB,zC,zD,zE,zF,zG,zH,zI,reduceCtorEq]
         all_goals(refine congrArg (AV.int .i64) ?_;omega)
        ·
         refine zV ?_
         (try simp only [zR,zS,reduceIte,zF])
         refine hK8 _ ⟨(),trivial,?_⟩
         refine zW rfl ?_ ?_ ?_<;>simp only [zc,zb,push_cast,↓zK,↓zJ,↓reduceIte,zA,zB,zC,zD,zE,zF,zG,zH,zI,reduceCtorEq]
         all_goals(refine congrArg (AV.int .i64) ?_;omega)
       ·
        rintro u9 hj8
        simp only [push_cast,↓zK,↓zJ,↓reduceIte,zA,zB,zC,zD,zE,zF,zG,zH,zI,reduceCtorEq]
        refine zL fun K hK=> ?_
        refine zf false zP zN ?_ rfl ?_
        ·kernel_rfl
        all_goals simp only [push_cast,↓zK,↓zJ,↓reduceIte,zA,zB,zC,zD,zE,zF,zG,zH,zI,reduceCtorEq]
        all_goals repeat'(first|(apply zO<;>(intro hg;(try simp only [push_cast]at hg)))|(refine⟨_,hBd,?_⟩;simp only [push_cast,↓zK,↓zJ,↓reduceIte,zA,zB,zC,zD,zE,zF,zG,zH,zI,reduceCtorEq])|apply And.intro|(intro hg;(try simp only [push_cast]at hg)))
        all_goals first|exact gA|(exact zQ (by omega))|skip
        all_goals first|(refine hK _ ?_;clear hK K)|(simp only [push_cast];done)
        all_goals refine zU rfl (fun hc=> ?_) (fun hc=> ?_)
        all_goals(first|(cases hc;done)|skip)
        all_goals(try simp only [push_cast]at hc)
        all_goals first
         |(
           refine zV ?_
           (try simp only [zR,zS,reduceIte,zF]);refine hK7 _ ?_
           refine zM zP zN [] rfl ?_
           all_goals simp only [push_cast,↓zK,↓zJ,↓reduceIte,zA,zB,zC,zD,zE,zF,zG,zH,zI,reduceCtorEq]
           all_goals repeat'(first|(apply zO<;>(intro hg;(try simp only [push_cast]at hg)))|(refine⟨_,hBd,?_⟩;simp only [push_cast,↓zK,↓zJ,↓reduceIte,zA,zB,zC,zD,zE,zF,zG,zH,zI,reduceCtorEq])|apply And.intro|(intro hg;(try simp only [push_cast]at hg)))
           all_goals first|exact gA|(exact zQ (by omega))|skip
           refine hL2 _ ⟨k+1,by omega,by omega,?_⟩
           rw [vu]
           refine zW rfl ?_ ?_ ?_<;>simp only [zc,zb,push_cast,↓zK,↓zJ,↓reduceIte,zA,zB,zC,zD,zE,zF,zG,zH,zI,reduceCtorEq]
           all_goals(refine congrArg (AV.int .i64) ?_;omega)
           done)
         |(
           refine zM zP zN [] rfl ?_
           all_goals simp only [push_cast,↓zK,↓zJ,↓reduceIte,zA,zB,zC,zD,zE,zF,zG,zH,zI,reduceCtorEq]
           all_goals repeat'(first|(apply zO<;>(intro hg;(try simp only [push_cast]at hg)))|(refine⟨_,hBd,?_⟩;simp only [push_cast,↓zK,↓zJ,↓reduceIte,zA,zB,zC,zD,zE,zF,zG,zH,zI,reduceCtorEq])|apply And.intro|(intro hg;(try simp only [push_cast]at hg)))
           all_goals first|exact gA|(exact zQ (by omega))|skip
           (try simp only [zR,zS,reduceIte,zF]);refine hK7 _ ?_
           refine zM zP zN [] rfl ?_
           all_goals simp only [push_cast,↓zK,↓zJ,↓reduceIte,zA,zB,zC,zD,zE,zF,zG,zH,zI,reduceCtorEq]
           all_goals repeat'(first|(apply zO<;>(intro hg;(try simp only [push_cast]at hg)))|(refine⟨_,hBd,?_⟩;simp only [push_cast,↓zK,↓zJ,↓reduceIte,zA,zB,zC,zD,zE,zF,zG,zH,zI,reduceCtorEq])|apply And.intro|(intro hg;(try simp only [push_cast]at hg)))
           all_goals first|exact gA|(exact zQ (by omega))|skip
           refine hL2 _ ⟨k+1,by omega,by omega,?_⟩
           rw [vu]
           refine zW rfl ?_ ?_ ?_<;>simp only [zc,zb,push_cast,↓zK,↓zJ,↓reduceIte,zA,zB,zC,zD,zE,zF,zG,zH,zI,reduceCtorEq]
           all_goals(refine congrArg (AV.int .i64) ?_;omega)
           done)
      ·
       refine ze ?_
       have hkk:k=(gl w.a.next v).length:=by omega
       subst hkk
       have hng:=zBA (o:=gi w.a.owner v) (fun j=>wD (w:=w) (c:=c2) (v:=v) (j:=j) hb.1) (gl w.a.next v).length
       (try simp only [zR,zS,reduceIte,zF]);refine hK5 _ ?_
       refine zL fun K hK=> ?_
       refine zM zP zN [] rfl ?_
       all_goals simp only [push_cast,↓zK,↓zJ,↓reduceIte,zA,zB,zC,zD,zE,zF,zG,zH,zI,reduceCtorEq]
       all_goals repeat'(first|(apply zO<;>(intro hg;(try simp only [push_cast]at hg)))|(refine⟨_,hBd,?_⟩;simp only [push_cast,↓zK,↓zJ,↓reduceIte,zA,zB,zC,zD,zE,zF,zG,zH,zI,reduceCtorEq])|apply And.intro|(intro hg;(try simp only [push_cast]at hg)))
       all_goals first|exact gA|(exact zQ (by omega))|skip
       all_goals first|(refine hK _ ?_;clear hK K)|(simp only [push_cast];done)
       rw [show(if b+1<xL (gi w.a.owner v) (va w b c2 v) (gl w.a.next v).length then b+1 else xL (gi w.a.owner v) (va w b c2 v) (gl w.a.next v).length)=xV w b c2 v from rfl]
       refine zL fun K hK=> ?_
       refine zM zP zN [] rfl ?_
       all_goals simp only [push_cast,↓zK,↓zJ,↓reduceIte,zA,zB,zC,zD,zE,zF,zG,zH,zI,reduceCtorEq]
       all_goals repeat'(first|(apply zO<;>(intro hg;(try simp only [push_cast]at hg)))|(refine⟨_,hBd,?_⟩;simp only [push_cast,↓zK,↓zJ,↓reduceIte,zA,zB,zC,zD,zE,zF,zG,zH,zI,reduceCtorEq])|apply And.intro|(intro hg;(try simp only [push_cast]at hg)))
       all_goals first|exact gA|(exact zQ (by omega))|skip
       all_goals first|(refine hK _ ?_;clear hK K)|(simp only [push_cast];done)
       refine zU rfl (fun hc=> ?_) (fun hc=> ?_)<;>(try simp only [push_cast]at hc)
       ·
        refine zL fun K hK=> ?_
        refine zM zP zN [] rfl ?_
        all_goals simp only [push_cast,↓zK,↓zJ,↓reduceIte,zA,zB,zC,zD,zE,zF,zG,zH,zI,reduceCtorEq]
        all_goals repeat'(first|(apply zO<;>(intro hg;(try simp only [push_cast]at hg)))|(refine⟨_,hBd,?_⟩;simp only [push_cast,↓zK,↓zJ,↓reduceIte,zA,zB,zC,zD,zE,zF,zG,zH,zI,reduceCtorEq])|apply And.intro|(intro hg;(try simp only [push_cast]at hg)))
        all_goals first|exact gA|(exact zQ (by omega))|skip
        all_goals first|(refine hK _ ?_;clear hK K)|(simp only [push_cast];done)
        refine zM zP zN [] rfl ?_
        all_goals simp only [push_cast,↓zK,↓zJ,↓reduceIte,zA,zB,zC,zD,zE,zF,zG,zH,zI,reduceCtorEq]
        all_goals repeat'(first|(apply zO<;>(intro hg;(try simp only [push_cast]at hg)))|(refine⟨_,hBd,?_⟩;simp only [push_cast,↓zK,↓zJ,↓reduceIte,zA,zB,zC,zD,zE,zF,zG,zH,zI,reduceCtorEq])|apply And.intro|(intro hg;(try simp only [push_cast]at hg)))
        all_goals first|exact gA|(exact zQ (by omega))|skip
        (try simp only [zR,zS,reduceIte,zF]);refine hK4 _ ?_
        refine zM zP zN [] rfl ?_
        all_goals simp only [push_cast,↓zK,↓zJ,↓reduceIte,zA,zB,zC,zD,zE,zF,zG,zH,zI,reduceCtorEq]
        all_goals repeat'(first|(apply zO<;>(intro hg;(try simp only [push_cast]at hg)))|(refine⟨_,hBd,?_⟩;simp only [push_cast,↓zK,↓zJ,↓reduceIte,zA,zB,zC,zD,zE,zF,zG,zH,zI,reduceCtorEq])|apply And.intro|(intro hg;(try simp only [push_cast]at hg)))
        all_goals first|exact gA|(exact zQ (by omega))|skip
        refine hL1 _ ⟨(v+1,c2.set v (xV w b c2 v),true),⟨by dsimp only;omega,hlo2.set hw hb.1 (by omega),fun _=>(by
          have h9:=hrs (by omega) (by omega)
          cases fl2 with
          |true=>have :=hrm rfl;dsimp only;omega
          |false=>have :=(hsm rfl).1;dsimp only;rw [←this];exact h9),fun h=>(by cases h)⟩,by omega,?_⟩
        refine zW rfl ?_ ?_ ?_<;>simp only [zc,zb,push_cast,↓zK,↓zJ,↓reduceIte,zA,zB,zC,zD,zE,zF,zG,zH,zI,reduceCtorEq]
       ·
        refine zV ?_
        (try simp only [zR,zS,reduceIte,zF]);refine hK4 _ ?_
        refine zM zP zN [] rfl ?_
        all_goals simp only [push_cast,↓zK,↓zJ,↓reduceIte,zA,zB,zC,zD,zE,zF,zG,zH,zI,reduceCtorEq]
        all_goals repeat'(first|(apply zO<;>(intro hg;(try simp only [push_cast]at hg)))|(refine⟨_,hBd,?_⟩;simp only [push_cast,↓zK,↓zJ,↓reduceIte,zA,zB,zC,zD,zE,zF,zG,zH,zI,reduceCtorEq])|apply And.intro|(intro hg;(try simp only [push_cast]at hg)))
        all_goals first|exact gA|(exact zQ (by omega))|skip
        refine hL1 _ ⟨(v+1,c2,fl2),⟨by dsimp only;omega,hlo2,hrm,fun h=>⟨(hsm h).1,fun j hj=>(by
          by_cases hjv:j=v
          ·subst hjv;rw [←(hsm h).1];omega
          ·exact(hsm h).2 j (by dsimp only at hj;omega))⟩⟩,by omega,?_⟩
        refine zW rfl ?_ ?_ ?_<;>simp only [zc,zb,push_cast,↓zK,↓zJ,↓reduceIte,zA,zB,zC,zD,zE,zF,zG,zH,zI,reduceCtorEq]
    ·
     refine ze ?_
     refine hL0 _ ⟨(c2,fl2),⟨hlo2,fun h u hu=>by have :=hsm h;rw [this.1];exact this.2 u (by omega)⟩,by
       dsimp only
       have hfl:fl=true:=by assumption
       cases fl2 with
       |true=>have :=hrm rfl;rw [hfl];simp only [if_true];omega
       |false=>have :=(hsm rfl).1;rw [hfl,this];simp,?_⟩
     refine zW rfl ?_ ?_ ?_<;>simp only [zc,zb,push_cast,↓zK,↓zJ,↓reduceIte,zA,zB,zC,zD,zE,zF,zG,zH,zI,reduceCtorEq]
  ·
   refine ze ?_
   (try simp only [zR,zS,reduceIte,zF]);refine hK1 _ ?_
   refine zL fun K9 hK9=> ?_
   have hLs:xJ w b c1:=⟨hlo,hfix (by assumption)⟩
   have hcc:=hLs.uniq hL
   refine zL fun K hK=> ?_
   refine zM zP zN [] rfl ?_
   all_goals simp only [push_cast,↓zK,↓zJ,↓reduceIte,zA,zB,zC,zD,zE,zF,zG,zH,zI,reduceCtorEq]
   all_goals repeat'(first|(apply zO<;>(intro hg;(try simp only [push_cast]at hg)))|(refine⟨_,hBd,?_⟩;simp only [push_cast,↓zK,↓zJ,↓reduceIte,zA,zB,zC,zD,zE,zF,zG,zH,zI,reduceCtorEq])|apply And.intro|(intro hg;(try simp only [push_cast]at hg)))
   all_goals first|exact gA|(exact zQ (by omega))|skip
   all_goals first|(refine hK _ ?_;clear hK K)|(simp only [push_cast];done)
   refine zT ?_
   refine zd [12,60,68,74,82,107,108,109,110,111,112,113,114,115,116,117,118,119] [64] (fun(k:Nat)=> [(107, .int .i64 k)]) (fun k=> []) (fun k=> [(64,⟨.ex,2,dI (wF b c1 k),none⟩)]) (fun k=>k≤c1.length) (fun k=>c1.length - k) 0 ?_ (by omega) ?_
   ·
    rw [zIn]
    refine zW rfl ?_ ?_ ?_<;>simp only [zc,zb,push_cast,↓zK,↓zJ,↓reduceIte,zA,zB,zC,zD,zE,zF,zG,zH,zI,reduceCtorEq]
   ·rintro k hk KL3 hL3
    have hdl:=zBG (b:=b) hk
    have hdg:k<c1.length→_:=fun h=>zCA (b:=b) (c:=c1) h
    simp only [push_cast,↓zK,↓zJ,↓reduceIte,zA,zB,zC,zD,zE,zF,zG,zH,zI,reduceCtorEq]
    refine zL fun K hK=> ?_
    refine zM zP zN [] rfl ?_
    all_goals simp only [push_cast,↓zK,↓zJ,↓reduceIte,zA,zB,zC,zD,zE,zF,zG,zH,zI,reduceCtorEq]
    all_goals repeat'(first|(apply zO<;>(intro hg;(try simp only [push_cast]at hg)))|(refine⟨_,hBd,?_⟩;simp only [push_cast,↓zK,↓zJ,↓reduceIte,zA,zB,zC,zD,zE,zF,zG,zH,zI,reduceCtorEq])|apply And.intro|(intro hg;(try simp only [push_cast]at hg)))
    all_goals first|exact gA|(exact zQ (by omega))|skip
    all_goals first|(refine hK _ ?_;clear hK K)|(simp only [push_cast];done)
    refine zL fun K10 hK10=> ?_
    refine zU rfl (fun hc=> ?_) (fun hc=> ?_)<;>(try simp only [push_cast]at hc)
    ·
     refine zV ?_
     (try simp only [zR,zS,reduceIte,zF]);refine hK10 _ ?_
     refine zL fun K11 hK11=> ?_
     refine zT ?_
     refine zL fun K hK=> ?_
     refine zM zP zN [] rfl ?_
     all_goals simp only [push_cast,↓zK,↓zJ,↓reduceIte,zA,zB,zC,zD,zE,zF,zG,zH,zI,reduceCtorEq]
     all_goals repeat'(first|(apply zO<;>(intro hg;(try simp only [push_cast]at hg)))|(refine⟨_,hBd,?_⟩;simp only [push_cast,↓zK,↓zJ,↓reduceIte,zA,zB,zC,zD,zE,zF,zG,zH,zI,reduceCtorEq])|apply And.intro|(intro hg;(try simp only [push_cast]at hg)))
     all_goals first|exact gA|(exact zQ (by omega))|skip
     all_goals first|(refine hK _ ?_;clear hK K)|(simp only [push_cast];done)
     refine zL fun K hK=> ?_
     refine zM zP zN [] rfl ?_
     all_goals simp only [push_cast,↓zK,↓zJ,↓reduceIte,zA,zB,zC,zD,zE,zF,zG,zH,zI,reduceCtorEq]
     all_goals repeat'(first|(apply zO<;>(intro hg;(try simp only [push_cast]at hg)))|(refine⟨_,hBd,?_⟩;simp only [push_cast,↓zK,↓zJ,↓reduceIte,zA,zB,zC,zD,zE,zF,zG,zH,zI,reduceCtorEq])|apply And.intro|(intro hg;(try simp only [push_cast]at hg)))
     all_goals first|exact gA|(exact zQ (by omega))|skip
     all_goals first|(refine hK _ ?_;clear hK K)|(simp only [push_cast];done)
     refine zU rfl (fun hc=> ?_) (fun hc=> ?_)<;>(try simp only [push_cast]at hc)
     ·
      refine zM zP zN [] rfl ?_
      all_goals simp only [push_cast,↓zK,↓zJ,↓reduceIte,zA,zB,zC,zD,zE,zF,zG,zH,zI,reduceCtorEq]
      all_goals repeat'(first|(apply zO<;>(intro hg;(try simp only [push_cast]at hg)))|(refine⟨_,hBd,?_⟩;simp only [push_cast,↓zK,↓zJ,↓reduceIte,zA,zB,zC,zD,zE,zF,zG,zH,zI,reduceCtorEq])|apply And.intro|(intro hg;(try simp only [push_cast]at hg)))
      all_goals first|exact gA|(exact zQ (by omega))|skip
      (try simp only [zR,zS,reduceIte,zF]);refine hK11 _ ?_
      refine zM zP zN [] rfl ?_
      all_goals simp only [push_cast,↓zK,↓zJ,↓reduceIte,zA,zB,zC,zD,zE,zF,zG,zH,zI,reduceCtorEq]
      all_goals repeat'(first|(apply zO<;>(intro hg;(try simp only [push_cast]at hg)))|(refine⟨_,hBd,?_⟩;simp only [push_cast,↓zK,↓zJ,↓reduceIte,zA,zB,zC,zD,zE,zF,zG,zH,zI,reduceCtorEq])|apply And.intro|(intro hg;(try simp only [push_cast]at hg)))
      all_goals first|exact gA|(exact zQ (by omega))|skip
      refine hL3 _ ⟨k+1,by omega,by omega,?_⟩
      rw [zG8 (by omega) (by rw [←hdg (by omega)];assumption)]
      refine zW rfl ?_ ?_ ?_<;>simp only [zc,zb,push_cast,↓zK,↓zJ,↓reduceIte,zA,zB,zC,zD,zE,zF,zG,zH,zI,reduceCtorEq]
     ·
      refine zV ?_
      (try simp only [zR,zS,reduceIte,zF]);refine hK11 _ ?_
      refine zM zP zN [] rfl ?_
      all_goals simp only [push_cast,↓zK,↓zJ,↓reduceIte,zA,zB,zC,zD,zE,zF,zG,zH,zI,reduceCtorEq]
      all_goals repeat'(first|(apply zO<;>(intro hg;(try simp only [push_cast]at hg)))|(refine⟨_,hBd,?_⟩;simp only [push_cast,↓zK,↓zJ,↓reduceIte,zA,zB,zC,zD,zE,zF,zG,zH,zI,reduceCtorEq])|apply And.intro|(intro hg;(try simp only [push_cast]at hg)))
      all_goals first|exact gA|(exact zQ (by omega))|skip
      refine hL3 _ ⟨k+1,by omega,by omega,?_⟩
      rw [zFH (by omega) (by rw [←hdg (by omega)];assumption)]
      refine zW rfl ?_ ?_ ?_<;>simp only [zc,zb,push_cast,↓zK,↓zJ,↓reduceIte,zA,zB,zC,zD,zE,zF,zG,zH,zI,reduceCtorEq]
    ·
     refine ze ?_
     (try simp only [zR,zS,reduceIte,zF]);refine hK9 _ ?_
     refine zL fun K hK=> ?_
     refine zM zP zN [] rfl ?_
     all_goals simp only [push_cast,↓zK,↓zJ,↓reduceIte,zA,zB,zC,zD,zE,zF,zG,zH,zI,reduceCtorEq]
     all_goals repeat'(first|(apply zO<;>(intro hg;(try simp only [push_cast]at hg)))|(refine⟨_,hBd,?_⟩;simp only [push_cast,↓zK,↓zJ,↓reduceIte,zA,zB,zC,zD,zE,zF,zG,zH,zI,reduceCtorEq])|apply And.intro|(intro hg;(try simp only [push_cast]at hg)))
     all_goals first|exact gA|(exact zQ (by omega))|skip
     all_goals first|(refine hK _ ?_;clear hK K)|(simp only [push_cast];done)
     refine zX ?_
     (try simp only [zR,zS])
     refine⟨Or.inl rfl,?_⟩
     simp only [zg,push_cast,↓zK,↓zJ,↓reduceIte,zA,zB,zC,zD,zE,zF,zG,zH,zI,reduceCtorEq]
     rw [show k=c1.length from by omega,zFy,hcc]
     refine⟨rfl,?_⟩
     rw [List.length_map,←hcc]
     omega
end Go.Proofs.Ytdbecmmeifdafaa
