/- Slices as data: what a value reads as, who owns its blocks, and what a change of memory leaves alone. No program. -/
import Derived.WalkKit
import Derived.ProofKit
import Derived.Lib.Hide
import Derived.Lib.SmallJoins
import Derived.BigQuiet
import Derived.Laws.StructEq
import Derived.Maps.AppendAt
namespace Go.Proofs.Ytggpbepdeilpgaa
open Go.RowKit
set_option linter.unusedVariables false
set_option linter.unusedSimpArgs false
theorem gA {P:Prop}(h:P:=by first|exact True.intro|exact rfl|contradiction|omega|with_reducible assumption):P:=h
theorem gB {P:Prop}(h:P:=by first|exact True.intro|exact rfl|omega|with_reducible assumption|(simp only [List.length_set,List.length_append,List.length_replicate,List.length_cons,List.length_nil];omega)):P:=h
inductive D where
 |int (k:IntKind) (n:Int)
 |bool (b:Bool)
 |hole
 |lst (e:TypeId) (xs:List D)
inductive Pl where
 |root (d:Nat) (p:List Nat)
 |box (t:Nat)
 |ext
inductive Md where
 |sh
 |ex (d:Nat) (p:List Nat)
 |top (d:Nat) (p:List Nat)
def Md.kid :Md→Nat→Md
 | .ex d p,i=> .ex d (p++ [i])
 | .top _ _,_=> .sh
 | .sh,_=> .sh
section
variable (S:TypeId→Nat) (lo:Nat)
def Hd (w:World)(ow:Nat→Option Pl)(m:Md)(e:TypeId)(v:Value)(N:Nat)(vs:List Value):Prop:=
 vs.length=N∧∃n,N=n*S e∧
 match m with
 | .sh=> ∃A c,v= .slice A n c∧n≤c∧c≤maxLen∧(n≠0→∃b o,A=some ⟨b,o,none⟩∧b<w.heap.size∧ow b=none∧∀i u,vs[i]? =some u→w.cell? ⟨b,o+i,none⟩=some u)
 | .ex d p=>w.ownsRow lo e (S e) v n vs∧∀b,v.ownBlock=some b→ow b=some (.root d p)
 | .top d p=>w.ownsRow lo e (S e) v n vs∧∀b,v.ownBlock=some b→ow b=some (.root d p)
mutual
def Rp (w:World)(ow:Nat→Option Pl):Md→D→Value→Prop
 |_, .int k n,v=>v= .int k n
 |_, .bool b,v=>v= .bool b
 |_, .hole,v=> ∃A n c,v= .slice A n c
 |m, .lst e xs,v=> ∃vs,Hd S lo w ow m e v xs.length vs∧RpL w ow m 0 xs vs
def RpL (w:World)(ow:Nat→Option Pl):Md→Nat→List D→List Value→Prop
 |_,_,[],vs=>vs= []
 |m,k,x::xs,vs=> ∃v vs',vs=v::vs'∧Rp w ow (m.kid k) x v∧RpL w ow m (k+1) xs vs'
end
theorem Wu {w:World}{ow:Nat→Option Pl}{m:Md}: ∀{xs:List D} {vs:List Value} {k:Nat},
  RpL S lo w ow m k xs vs↔vs.length=xs.length∧∀i x v,xs[i]? =some x→vs[i]? =some v→Rp S lo w ow (m.kid (k+i)) x v
 | [],vs,k=>by
  simp only [RpL]
  constructor
  ·rintro rfl;exact⟨rfl,fun i x v h=>by simp at h⟩
  ·rintro⟨h,_⟩;exact List.eq_nil_of_length_eq_zero h
 |x::xs,vs,k=>by
  simp only [RpL]
  constructor
  ·rintro⟨v,vs',rfl,h1,h2⟩
   obtain⟨h3,h4⟩:=(Wu (xs:=xs) (vs:=vs') (k:=k+1)).1 h2
   refine⟨by simp [h3],fun i y u hy hu=> ?_⟩
   cases i with
   |zero=>simp at hy hu;subst hy;subst hu;simpa using h1
   |succ i=>
    simp at hy hu
    have :=h4 i y u hy hu
    rwa [show k+1+i=k+(i+1)from by omega]at this
  ·rintro⟨h1,h2⟩
   cases vs with
   |nil=>simp at h1
   |cons v vs'=>
    refine⟨v,vs',rfl,by simpa using h2 0 x v rfl rfl,(Wu (xs:=xs) (vs:=vs') (k:=k+1)).2 ⟨by simpa using h1,fun i y u hy hu=> ?_⟩⟩
    have :=h2 (i+1) y u (by simpa using hy) (by simpa using hu)
    rwa [show k+1+i=k+(i+1)from by omega]
theorem zw {w:World}{ow:Nat→Option Pl}{m:Md}{e:TypeId}{xs:List D}{v:Value}:
  Rp S lo w ow m (.lst e xs) v↔∃vs,Hd S lo w ow m e v xs.length vs∧∀i x u,xs[i]? =some x→vs[i]? =some u→Rp S lo w ow (m.kid i) x u:=by
 simp only [Rp]
 constructor
 ·rintro⟨vs,h1,h2⟩
  refine⟨vs,h1,fun i x u hx hu=> ?_⟩
  have :=((Wu S lo).1 h2).2 i x u hx hu
  rwa [Nat.zero_add]at this
 ·rintro⟨vs,h1,h2⟩
  exact⟨vs,h1,(Wu S lo).2 ⟨h1.1,fun i x u hx hu=>by rw [Nat.zero_add];exact h2 i x u hx hu⟩⟩
def rel (m:Md)(o:Option Pl):Prop:=
 match m with
 | .sh=>o=none
 | .ex d p=> ∃q,o=some (.root d (p++q))
 | .top d p=>o=none∨o=some (.root d p)
theorem JT {m:Md}{i:Nat}{o:Option Pl}(h:rel (m.kid i) o):rel m o:=by
 cases m with
 |sh=>exact h
 |ex d p=>obtain⟨q,h⟩:=h;exact⟨i::q,by simpa using h⟩
 |top d p=>exact .inl h
theorem zGO {w w':World}{ow ow':Nat→Option Pl}{m:Md}{e:TypeId}{v:Value}{N:Nat}{vs:List Value}
  (hs:w.heap.size≤w'.heap.size) (hf: ∀b,b<w.heap.size→rel m (ow b)→w'.heap[b]? =w.heap[b]? ∧ow' b=ow b) (h:Hd S lo w ow m e v N vs):Hd S lo w' ow' m e v N vs:=by
 obtain⟨h1,n,h2,h3⟩:=h
 refine⟨h1,n,h2,?_⟩
 have own: ∀(p:Pl),(∀b,ow b=some p→rel m (ow b))→(w.ownsRow lo e (S e) v n vs∧∀b,v.ownBlock=some b→ow b=some p)→(w'.ownsRow lo e (S e) v n vs∧∀b,v.ownBlock=some b→ow' b=some p):=by
  rintro p hp ⟨h3,h4⟩
  refine⟨⟨h3.1,?_⟩,fun b hb=> ?_⟩
  ·rcases h3.2 with hn|⟨g,cap,cur,hv,hb,hg,rest⟩
   ·exact .inl hn
   ·refine .inr ⟨g,cap,cur,hv,hb,?_,rest⟩
    have hlt:g<w.heap.size:=(Array.getElem?_eq_some_iff.1 hg).1
    have ho:=h4 g (by rw [hv];rfl)
    rw [(hf g hlt (hp g ho)).1];exact hg
  ·have ho:=h4 b hb
   have hlt:=(h3.lt b hb).2
   rw [(hf b hlt (hp b ho)).2];exact ho
 cases m with
 |sh=>
  obtain⟨A,c,hv,hn,hc,hm⟩:=h3
  refine⟨A,c,hv,hn,hc,fun h0=> ?_⟩
  obtain⟨b,o,hA,hb,ho,hcell⟩:=hm h0
  obtain⟨e1,e2⟩:=hf b hb ho
  refine⟨b,o,hA,by omega,by rw [e2];exact ho,fun i u hu=> ?_⟩
  rw [World.cell?_of_block (w:=w) (w':=w') (a:=⟨b,o+i,none⟩) e1]
  exact hcell i u hu
 |ex d p=>exact own _ (fun b hb=>⟨[],by simpa using hb⟩) h3
 |top d p=>exact own _ (fun b hb=> .inr hb) h3
mutual
theorem yE {w w':World}{ow ow':Nat→Option Pl}(hs:w.heap.size≤w'.heap.size): ∀(t:D) (m:Md) (v:Value),
  (∀b,b<w.heap.size→rel m (ow b)→w'.heap[b]? =w.heap[b]? ∧ow' b=ow b)→Rp S lo w ow m t v→Rp S lo w' ow' m t v
 | .int k n,m,v,_,h=>by simpa only [Rp]using h
 | .bool b,m,v,_,h=>by simpa only [Rp]using h
 | .hole,m,v,_,h=>by simpa only [Rp]using h
 | .lst e xs,m,v,hf,h=>by
  simp only [Rp]at h⊢
  obtain⟨vs,h1,h2⟩:=h
  exact⟨vs,zGO S lo hs hf h1,uE hs xs m 0 vs hf h2⟩
theorem uE {w w':World}{ow ow':Nat→Option Pl}(hs:w.heap.size≤w'.heap.size): ∀(xs:List D) (m:Md) (k:Nat) (vs:List Value),
  (∀b,b<w.heap.size→rel m (ow b)→w'.heap[b]? =w.heap[b]? ∧ow' b=ow b)→RpL S lo w ow m k xs vs→RpL S lo w' ow' m k xs vs
 | [],m,k,vs,_,h=>by simpa only [RpL]using h
 |x::xs,m,k,vs,hf,h=>by
  simp only [RpL]at h⊢
  obtain⟨v,vs',h1,h2,h3⟩:=h
  exact⟨v,vs',h1,yE hs x (m.kid k) v (fun b hb hr=>hf b hb (JT hr)) h2,uE hs xs m (k+1) vs' hf h3⟩
end
theorem zGP {w:World}{ow ow':Nat→Option Pl}{m:Md}{e:TypeId}{v:Value}{N:Nat}{vs:List Value}
  (ho: ∀b,b<w.heap.size→rel m (ow b)→ow' b=none) (h:Hd S lo w ow m e v N vs):Hd S lo w ow' .sh e v N vs:=by
 obtain⟨h1,n,h2,h3⟩:=h
 refine⟨h1,n,h2,?_⟩
 have own: ∀(p:Pl),(∀b,ow b=some p→rel m (ow b))→(w.ownsRow lo e (S e) v n vs∧∀b,v.ownBlock=some b→ow b=some p)→
   ∃A c,v= .slice A n c∧n≤c∧c≤maxLen∧(n≠0→∃b o,A=some ⟨b,o,none⟩∧b<w.heap.size∧ow' b=none∧∀i u,vs[i]? =some u→w.cell? ⟨b,o+i,none⟩=some u):=by
  rintro p hp ⟨h3,h4⟩
  rcases h3.2 with⟨hv,h0⟩|⟨g,cap,cur,hv,hb,hg,hnc,hcm,hcs,htake⟩
  ·subst h0
   exact⟨none,0,hv,Nat.le_refl _,by unfold maxLen;omega,fun h=>absurd rfl h⟩
  ·have hlt:g<w.heap.size:=(Array.getElem?_eq_some_iff.1 hg).1
   refine⟨_,_,hv,hnc,hcm,fun _=>⟨g,0,rfl,hlt,ho g hlt (hp g (h4 g (by rw [hv];rfl))),fun i u hu=> ?_⟩⟩
   have :=h3.cells (g:=g) (by rw [hv];rfl) i u hu
   rw [Nat.zero_add]
   rwa [Addr.add_lit,Nat.zero_add]at this
 cases m with
 |sh=>
  obtain⟨A,c,hv,hn,hc,hm⟩:=h3
  refine⟨A,c,hv,hn,hc,fun h0=> ?_⟩
  obtain⟨b,o,hA,hb,ho',hcell⟩:=hm h0
  exact⟨b,o,hA,hb,ho b hb ho',hcell⟩
 |ex d p=>exact own _ (fun b hb=>⟨[],by simpa using hb⟩) h3
 |top d p=>exact own _ (fun b hb=> .inr hb) h3
mutual
theorem Qz {w:World}{ow ow':Nat→Option Pl}: ∀(t:D) (m:Md) (v:Value),
  (∀b,b<w.heap.size→rel m (ow b)→ow' b=none)→Rp S lo w ow m t v→Rp S lo w ow' .sh t v
 | .int k n,m,v,_,h=>by simpa only [Rp]using h
 | .bool b,m,v,_,h=>by simpa only [Rp]using h
 | .hole,m,v,_,h=>by simpa only [Rp]using h
 | .lst e xs,m,v,ho,h=>by
  simp only [Rp]at h⊢
  obtain⟨vs,h1,h2⟩:=h
  exact⟨vs,zGP S lo ho h1,uH xs m 0 vs ho h2⟩
theorem uH {w:World}{ow ow':Nat→Option Pl}: ∀(xs:List D) (m:Md) (k:Nat) (vs:List Value),
  (∀b,b<w.heap.size→rel m (ow b)→ow' b=none)→RpL S lo w ow m k xs vs→RpL S lo w ow' .sh k xs vs
 | [],m,k,vs,_,h=>by simpa only [RpL]using h
 |x::xs,m,k,vs,ho,h=>by
  simp only [RpL]at h⊢
  obtain⟨v,vs',h1,h2,h3⟩:=h
  exact⟨v,vs',h1,Qz x (m.kid k) v (fun b hb hr=>ho b hb (JT hr)) h2,uH xs m (k+1) vs' ho h3⟩
end
theorem zIX {w:World}{ow ow':Nat→Option Pl}{d d':Nat}{p p':List Nat}{e:TypeId}{v:Value}{N:Nat}{vs:List Value}
  (ho: ∀b q,b<w.heap.size→ow b=some (.root d (p++q))→ow' b=some (.root d' (p'++q))) (h:Hd S lo w ow (.ex d p) e v N vs):Hd S lo w ow' (.ex d' p') e v N vs:=by
 obtain⟨h1,n,h2,h3,h4⟩:=h
 refine⟨h1,n,h2,h3,fun b hb=> ?_⟩
 simpa using ho b [] (h3.lt b hb).2 (by simpa using h4 b hb)
mutual
theorem qW {w:World}{ow ow':Nat→Option Pl}: ∀(t:D) (d d':Nat) (p p':List Nat) (v:Value),
  (∀b q,b<w.heap.size→ow b=some (.root d (p++q))→ow' b=some (.root d' (p'++q)))→Rp S lo w ow (.ex d p) t v→Rp S lo w ow' (.ex d' p') t v
 | .int k n,_,_,_,_,v,_,h=>by simpa only [Rp]using h
 | .bool b,_,_,_,_,v,_,h=>by simpa only [Rp]using h
 | .hole,_,_,_,_,v,_,h=>by simpa only [Rp]using h
 | .lst e xs,d,d',p,p',v,ho,h=>by
  simp only [Rp]at h⊢
  obtain⟨vs,h1,h2⟩:=h
  exact⟨vs,zIX S lo ho h1,Uo xs d d' p p' 0 0 vs (fun b j q hb h=>by simpa using ho b ((0+j)::q) hb (by simpa using h)) h2⟩
theorem Uo {w:World}{ow ow':Nat→Option Pl}: ∀(xs:List D) (d d':Nat) (p p':List Nat) (k k':Nat) (vs:List Value),
  (∀b j q,b<w.heap.size→ow b=some (.root d (p++(k+j)::q))→ow' b=some (.root d' (p'++(k'+j)::q)))→RpL S lo w ow (.ex d p) k xs vs→RpL S lo w ow' (.ex d' p') k' xs vs
 | [],_,_,_,_,k,k',vs,_,h=>by simpa only [RpL]using h
 |x::xs,d,d',p,p',k,k',vs,ho,h=>by
  simp only [RpL]at h⊢
  obtain⟨v,vs',h1,h2,h3⟩:=h
  refine⟨v,vs',h1,?_,Uo xs d d' p p' (k+1) (k'+1) vs' (fun b j q hb h=> ?_) h3⟩
  ·exact qW x d d' (p++ [k]) (p'++ [k']) v (fun b q hb h=>by simpa using ho b 0 q hb (by simpa using h)) h2
  ·have :=ho b (j+1) q hb (by rw [show k+(j+1)=k+1+j from by omega];exact h)
   rwa [show k'+(j+1)=k'+1+j from by omega]at this
end
end
inductive AV where
 |int (k:IntKind) (n:Int)
 |bool (b:Bool)
 |sl (d:Nat) (p:List Nat) (off len:Nat) (e:TypeId)
 |nil
 |ep (d:Nat) (p:List Nat) (i:Nat)
 |bp (t i:Nat)
 |agg (vs:List AV)
 |tup (vs:List AV)
 |fn (f:FuncId) (vs:List AV)
 |dead
 |raw (u:Value)
inductive O3 where
 |sh
 |ex
 |top
def md :O3→Nat→Md
 | .sh,_=> .sh
 | .ex,d=> .ex d []
 | .top,d=> .top d []
structure zr where
 o:O3
 e:TypeId
 xs:List D
 pin:Option Nat
structure Fz where
 w:World
 kp:Nat→Prop
 pin:Nat→Option Value
def Fz.plain (w:World):Fz:=⟨w,fun _=>True,fun _=>none⟩
def Fz.fre (w0:Fz)(b:Nat):Prop:=b<w0.w.heap.size→¬w0.kp b
structure yu (w0:Fz)(w:World):Prop where
 os:w.os=w0.w.os
 tape:w.tape=w0.w.tape
 output:w.output=w0.w.output
 size:w0.w.heap.size≤w.heap.size
 block: ∀b,b<w0.w.heap.size→w0.kp b→w.heap[b]? =w0.w.heap[b]?
theorem yu.start (w0:Fz):yu w0 w0.w:=⟨rfl,rfl,rfl,Nat.le_refl _,fun _ _ _=>rfl⟩
theorem yu.step {w0:Fz}{w w':World}(h:yu w0 w)(h1:w'.os=w.os)(h2:w'.tape=w.tape)(h3:w'.output=w.output)(h4:w.heap.size≤w'.heap.size)(h5: ∀b,b<w.heap.size→¬w0.fre b→w'.heap[b]? =w.heap[b]?):yu w0 w':=
 ⟨h1.trans h.os,h2.trans h.tape,h3.trans h.output,Nat.le_trans h.size h4,fun b hb hk=>(h5 b (Nat.lt_of_lt_of_le hb h.size) (fun hf=>hf hb hk)).trans (h.block b hb hk)⟩
theorem yu.below {w0:Fz}{w w':World}(h:yu w0 w)(hb:Below w.heap.size w w'):yu w0 w':=h.step hb.os hb.tape hb.output hb.size (fun b hlt _=>hb.block b hlt)
theorem yu.drew {w0:Fz}{w:World}(h:yu w0 w):yu w0 w.drew:=⟨h.os,h.tape,h.output,h.size,h.block⟩
theorem yu.alloc {w0:Fz}{w:World}(h:yu w0 w)(o:Obj):yu w0 (w.alloc o):=h.step rfl rfl rfl (by simp) (fun b hlt _=>Below.heap_alloc w o b hlt)
theorem yu.setCell {w0:Fz}{w:World}(h:yu w0 w){p:Addr}(hp:w0.fre p.block)(u:Value):yu w0 (w.setCell p u):=
 h.step rfl rfl rfl (by simp [World.setCell]) (fun b _ hf=>Below.heap_setCell w p u b (fun e=>hf (by rw [e];exact hp)))
theorem yu.grown {w0:Fz}{w w':World}{row:Option Nat}(h:yu w0 w)(hg:w.grownBy w' row)(hr: ∀k,row=some k→w0.fre k):yu w0 w':=
 h.step hg.os hg.tape hg.output hg.size (fun b hlt hf=>hg.block b hlt (fun e=>hf (hr b e.symm)))
theorem yu.to_below {w w':World}(h:yu (.plain w) w'):Below w.heap.size w w':=⟨h.os,h.tape,h.output,h.size,fun b hb=>h.block b hb trivial⟩
structure St where
 n:Nat
 s:List (Nat×AV)
 b:List (Nat×List AV)
 r:List (Nat×zr)
def lk {α:Type}:List (Nat×α)→Nat→Option α
 | [],_=>none
 |(j,x)::l,k=>if j=k then some x else lk l k
theorem xJ {α:Type}(k:Nat):lk ([]:List (Nat×α)) k=none:=rfl
theorem zd {α:Type}(j:Nat)(x:α)(l:List (Nat×α))(k:Nat):lk ((j,x)::l) k=if j=k then some x else lk l k:=rfl
def rm {α:Type}(ds:Nat→Bool)(l:List (Nat×α)):List (Nat×α):=l.filter fun x=> !ds x.1
theorem yr {α:Type}(ds:Nat→Bool)(l:List (Nat×α))(k:Nat):lk (rm ds l) k=if ds k then none else lk l k:=by
 induction l with
 |nil=>simp [rm,lk]
 |cons x l ih=>
  obtain⟨j,x⟩:=x
  unfold rm at ih⊢
  by_cases hj:ds j=true
  ·rw [List.filter_cons_of_neg (by simp [hj]),ih,zd]
   by_cases hk:ds k=true
   ·simp [hk]
   ·have :j≠k:=by intro e;subst e;exact hk hj
    simp [hk,this]
  ·rw [List.filter_cons_of_pos (by simp [hj]),zd,zd,ih]
   by_cases hjk:j=k
   ·subst hjk;simp [hj]
   ·simp [hjk]
inductive CK where
 |int (k:IntKind)
 |bool
 |sl (e:TypeId)
inductive TK where
 |sc (c:CK)
 |st (cs:List CK) (fs:List (Nat×TypeId))
abbrev Ty :=List (TypeId×TK×Nat)
def TK.cells :TK→List CK
 | .sc c=> [c]
 | .st cs _=>cs
def tk (τ:Ty)(t:TypeId):Option (TK×Nat):=lk τ t
def cks (τ:Ty)(t:TypeId):List CK:=match lk τ t with|some (k,_)=>k.cells|none=> []
def sz (τ:Ty)(t:TypeId):Nat:=(cks τ t).length
def CK.zero :CK→Value
 | .int k=> .int k 0
 | .bool=> .bool false
 | .sl _=> .slice none 0 0
def CK.desc :CK→TypeDesc
 | .int k=> .int k
 | .bool=> .bool
 | .sl e=> .slice e
def zIB (cs:List CK):Bool:=cs.all fun c=>match c with| .int _=>true|_=>false
def zDZ (P:Program)(t:TypeId):TK×Nat→Prop
 |(.sc c,by_)=>P.underlying t=some c.desc∧∃i,P.info? t=some i∧i.size=1∧i.zero=some c.zero∧i.bytes=by_∧0<by_
 |(.st cs offs,by_)=> ∃fs:Array Field,P.underlying t=some (.struct fs)∧fs.toList.map (fun f=>(f.offset,f.type))=offs∧∃i,P.info? t=some i∧i.size=cs.length∧i.zero=some (.agg (cs.map CK.zero).toArray)∧i.bytes=by_∧0<by_∧(∀f∈fs.toList,(P.info? f.type).isSome=true)∧(zIB cs=true→P.stoodInHeld t=false∧P.eqGuardType P.depth t=false∧∀f∈fs.toList,f.name≠ "_")
def zx (P:Program)(τ:Ty):Prop:= ∀t k,lk τ t=some k→zDZ P t k
def zk :List D→List Nat→Prop
 |_,[]=>True
 |xs,i::q=> ∃e ys,xs[i]? =some (.lst e ys)∧zk ys q
def xD (xs:List D)(i:Nat):List D:=match xs[i]? with|some (.lst _ ys)=>ys|_=> []
def qi (xs:List D)(i:Nat):TypeId:=match xs[i]? with|some (.lst e _)=>e|_=>0
def XB (xs:List D)(i:Nat):Int:=match xs[i]? with|some (.int _ n)=>n|_=>0
def getB (xs:List D)(i:Nat):Bool:=match xs[i]? with|some (.bool b)=>b|_=>false
def yI (xs:List D):List Nat→List D
 | []=>xs
 |i::q=>yI (xD xs i) q
def vF (e:TypeId)(xs:List D):List Nat→TypeId
 | []=>e
 |i::q=>vF (qi xs i) (xD xs i) q
def qP (xs:List D):List Nat→Nat→D→List D
 | [],i,x=>xs.set i x
 |j::p,i,x=>xs.set j (.lst (qi xs j) (qP (xD xs j) p i x))
def xK (c:CK)(xs:List D)(i:Nat):Prop:=
 match c with
 | .int k=> ∃n,xs[i]? =some (.int k n)
 | .bool=> ∃b,xs[i]? =some (.bool b)
 | .sl e=> ∃ys,xs[i]? =some (.lst e ys)
def yC (w:World):Value→List Nat→Option Value
 |hv,[]=>some hv
 | .slice (some a) _ _,i::q=>(w.cell? ⟨a.block,a.off+i,none⟩).bind fun u=>yC w u q
 |_,_::_=>none
def Sub (s:Nat)(hv:Value)(off len:Nat)(v:Value):Prop:=
 ∃A n c A' c',(off+c'≤c∧∀b o,A=some ⟨b,o,none⟩→c'≠0→A'=some ⟨b,o+off*s,none⟩)∧hv= .slice A n c∧v= .slice A' len c'∧off+len≤n∧len≤c'∧c'≤maxLen∧(off=0→A'=A∧c'=c)∧(len≠0→∃b o,A=some ⟨b,o,none⟩∧A'=some ⟨b,o+off*s,none⟩)
theorem nw0 {A:Option Addr}{c s:Nat}:0+c≤c∧∀b o,A=some ⟨b,o,none⟩→c≠0→A=some ⟨b,o+0*s,none⟩:=⟨by omega,fun b o e _=>by rw [e,Nat.zero_mul];rfl⟩
def bk0 (f:Nat→Value):Nat→Nat:=fun t=>match f (t - 1)with| .pointer (some ad)=>ad.block|_=>0
section
variable (τ:Ty) (lo:Nat)
mutual
def AvR (w:World)(rr:List (Nat×zr))(bb:List (Nat×List AV))(hd:Nat→Value)(bk:Nat→Nat):AV→Value→Prop
 | .int k n,v=>v= .int k n
 | .bool b,v=>v= .bool b
 | .sl d p off len e,v=>(∃A n c,v= .slice A n c)∧∀R,lk rr d=some R→zk R.xs p→∃hv,yC w (hd d) p=some hv∧Sub (sz τ e) hv off len v
 | .nil,v=>v= .slice none 0 0
 | .ep d p i,v=>(∃q,v= .pointer q)∧∀R,lk rr d=some R→zk R.xs p→∃b o n c,yC w (hd d) p=some (.slice (some ⟨b,o,none⟩) n c)∧v= .pointer (some ⟨b,o+i,none⟩)
 | .bp t i,v=>(∃q,v= .pointer q)∧((∃cs,lk bb t=some cs)→v= .pointer (some ⟨bk t,i,none⟩))
 | .agg vs,v=> ∃cs:List Value,v= .agg cs.toArray∧zY w rr bb hd bk vs cs
 | .tup vs,v=> ∃cs:List Value,v= .tuple cs.toArray∧zY w rr bb hd bk vs cs
 | .fn f vs,v=> ∃cs:List Value,v= .func (.func f) #[] cs.toArray∧zY w rr bb hd bk vs cs
 | .dead,v=>True
 | .raw u,v=>v=u
def zY (w:World)(rr:List (Nat×zr))(bb:List (Nat×List AV))(hd:Nat→Value)(bk:Nat→Nat):List AV→List Value→Prop
 | [],cs=>cs= []
 |x::xs,cs=> ∃v vs',cs=v::vs'∧AvR w rr bb hd bk x v∧zY w rr bb hd bk xs vs'
end
def one :AV→Bool
 | .agg _=>false
 | .tup _=>false
 |_=>true
structure ze (w0:Fz)(ow:Nat→Option Pl)(hd:Nat→Value)(bk:Nat→Nat)(st:St)(a:Act)(w:World):Prop where
 big: ∀j ad,j<16→w0.pin (999999+j)=some (.pointer (some ad))→bk (1000000+j)=ad.block
 defers:a.defers= []
 size:a.tmps.size=st.n
 low:lo≤w.heap.size
 below:yu w0 w
 ge: ∀b p,b<w.heap.size→ow b=some p→p≠ .ext→lo≤b∧w0.fre b
 new: ∀b,w.heap.size≤b→ow b=none
 slot: ∀k v,lk st.s k=some v→AvR τ w st.r st.b hd bk v (a.tmps.getD k undef)
 root: ∀d R,lk st.r d=some R→Rp (sz τ) lo w ow (md R.o d) (.lst R.e R.xs) (hd d)
 box: ∀t vs,lk st.b t=some vs→∃cs ty,w.heap[bk t]? =some (.cells (List.toArray cs) ty (0,0))∧ow (bk t)=some (.box t)∧zY τ w st.r st.b hd bk vs cs
 pin: ∀d R i,lk st.r d=some R→R.pin=some i→w0.pin i=some (hd d)
def Rel (w0:Fz)(st:St)(a:Act)(w:World):Prop:= ∃ow hd bk,ze τ lo w0 ow hd bk st a w
end
mutual
def AV.kill (ds bs:Nat→Bool):AV→AV
 | .int k n=> .int k n
 | .bool b=> .bool b
 | .sl d p off len e=>if ds d then .dead else .sl d p off len e
 | .nil=> .nil
 | .ep d p i=>if ds d then .dead else .ep d p i
 | .bp t i=>if bs t then .dead else .bp t i
 | .agg vs=> .agg (AV.killL ds bs vs)
 | .tup vs=> .tup (AV.killL ds bs vs)
 | .fn f vs=> .fn f (AV.killL ds bs vs)
 | .dead=> .dead
 | .raw u=> .raw u
def AV.killL (ds bs:Nat→Bool):List AV→List AV
 | []=> []
 |x::xs=>AV.kill ds bs x::AV.killL ds bs xs
end
theorem uc (ds bs:Nat→Bool): ∀vs,(AV.killL ds bs vs).length=vs.length
 | []=>rfl
 |x::xs=>by simp [AV.killL,uc ds bs xs]
def noB :Nat→Bool:=fun _=>false
mutual
theorem qX : ∀v:AV,v.kill noB noB=v
 | .int k n=>rfl
 | .bool b=>rfl
 | .sl d p off len e=>by simp [AV.kill,noB]
 | .nil=>rfl
 | .ep d p i=>by simp [AV.kill,noB]
 | .bp t i=>by simp [AV.kill,noB]
 | .agg vs=>by simp [AV.kill,xF vs]
 | .tup vs=>by simp [AV.kill,xF vs]
 | .fn f vs=>by simp [AV.kill,xF vs]
 | .dead=>rfl
 | .raw u=>rfl
theorem xF : ∀vs:List AV,AV.killL noB noB vs=vs
 | []=>rfl
 |x::xs=>by simp [AV.killL,qX x,xF xs]
end
def wh {α:Type}(f:α→α)(l:List (Nat×α)):List (Nat×α):=l.map fun x=>(x.1,f x.2)
theorem zz {α:Type}(f:α→α)(l:List (Nat×α))(k:Nat):lk (wh f l) k=(lk l k).map f:=by
 induction l with
 |nil=>rfl
 |cons x l ih=>
  obtain⟨j,x⟩:=x
  simp only [wh,List.map_cons,zd]at ih⊢
  split
  ·rfl
  ·exact ih
def St.kill (ds bs:Nat→Bool)(st:St):St:={st with s:=wh (AV.kill ds bs) st.s,b:=wh (AV.killL ds bs) st.b}
section
variable {τ:Ty} {lo:Nat}
theorem qV {S:TypeId→Nat}{w:World}{ow:Nat→Option Pl}{m:Md}{e:TypeId}{v:Value}{N:Nat}{vs:List Value}{i:Nat}{u:Value}
  (h:Hd S lo w ow m e v N vs) (hu:vs[i]? =some u): ∃b o n c,v= .slice (some ⟨b,o,none⟩) n c∧N=n*S e∧b<w.heap.size∧rel m (ow b)∧w.cell? ⟨b,o+i,none⟩=some u:=by
 obtain⟨h1,n,h2,h3⟩:=h
 have hi:i<N:=by rw [←h1];exact(List.getElem?_eq_some_iff.1 hu).1
 have hn:n≠0:=by intro h0;rw [h0,Nat.zero_mul]at h2;omega
 have own: ∀(p:Pl),(∀b,ow b=some p→rel m (ow b))→(w.ownsRow lo e (S e) v n vs∧∀b,v.ownBlock=some b→ow b=some p)→
   ∃b o n c,v= .slice (some ⟨b,o,none⟩) n c∧N=n*S e∧b<w.heap.size∧rel m (ow b)∧w.cell? ⟨b,o+i,none⟩=some u:=by
  rintro p hp ⟨h3,h4⟩
  rcases h3.2 with⟨hv,h0⟩|⟨g,cap,cur,hv,hb,hg,rest⟩
  ·exact absurd h0 hn
  ·have hlt:g<w.heap.size:=(Array.getElem?_eq_some_iff.1 hg).1
   refine⟨g,0,n,cap,hv,h2,hlt,hp g (h4 g (by rw [hv];rfl)),?_⟩
   have :=h3.cells (g:=g) (by rw [hv];rfl) i u hu
   rwa [Addr.add_lit]at this
 cases m with
 |sh=>
  obtain⟨A,c,hv,hn',hc,hm⟩:=h3
  obtain⟨b,o,hA,hb,ho,hcell⟩:=hm hn
  subst hA
  exact⟨b,o,n,c,hv,h2,hb,ho,hcell i u hu⟩
 |ex d p=>exact own _ (fun b hb=>⟨[],by simpa using hb⟩) h3
 |top d p=>exact own _ (fun b hb=> .inr hb) h3
theorem xZ {S:TypeId→Nat}{w:World}{ow:Nat→Option Pl}{m:Md}{e:TypeId}{xs:List D}{v:Value}(h:Rp S lo w ow m (.lst e xs) v):
  ∃A n c,v= .slice A n c∧xs.length=n*S e∧n≤c∧c≤maxLen:=by
 obtain⟨vs,⟨h1,n,h2,h3⟩,_⟩:=(zw S lo).1 h
 have own:w.ownsRow lo e (S e) v n vs→∃A n c,v= .slice A n c∧xs.length=n*S e∧n≤c∧c≤maxLen:=by
  intro h3
  rcases h3.2 with⟨hv,h0⟩|⟨g,cap,cur,hv,hb,hg,hnc,hcm,rest⟩
  ·subst h0;exact⟨none,0,0,hv,h2,Nat.le_refl _,by unfold maxLen;omega⟩
  ·exact⟨_,_,_,hv,h2,hnc,hcm⟩
 cases m with
 |sh=>obtain⟨A,c,hv,hn,hc,_⟩:=h3;exact⟨A,n,c,hv,h2,hn,hc⟩
 |ex d p=>exact own h3.1
 |top d p=>exact own h3.1
theorem YP {S:TypeId→Nat}{w:World}{ow:Nat→Option Pl}: ∀(p:List Nat) (m:Md) (e:TypeId) (xs:List D) (hv:Value),Rp S lo w ow m (.lst e xs) hv→zk xs p→
  ∃m' e' u,yC w hv p=some u∧Rp S lo w ow m' (.lst e' (yI xs p)) u∧(∀o,rel m' o→rel m o)∧(e'=vF e xs p)∧(∀d q,m= .ex d q→m'= .ex d (q++p))∧(p= []→m'=m)∧(m= .sh→m'= .sh)∧(∀d q,m= .top d q→p≠ []→m'= .sh)
 | [],m,e,xs,hv,h,_=>⟨m,e,hv,rfl,h,fun _ h=>h,rfl,fun d q hm=>by simpa using hm,fun _=>rfl,fun h=>h,fun d q hm hp=>absurd rfl hp⟩
 |i::q,m,e,xs,hv,h,hp=>by
  obtain⟨e1,ys,hx,hq⟩:=hp
  obtain⟨vs,h1,h2⟩:=(zw S lo).1 h
  have hlt:i<vs.length:=by rw [h1.1];exact(List.getElem?_eq_some_iff.1 hx).1
  have hu:vs[i]? =some vs[i]:=List.getElem?_eq_getElem hlt
  obtain⟨b,o,n,c,hv',hN,hb,hr,hc⟩:=qV h1 hu
  have hk:=h2 i _ _ hx hu
  obtain⟨m',e',u,a1,a2,a3,a4,a5,a6,a7,a8⟩:=YP q (m.kid i) e1 ys vs[i] hk hq
  refine⟨m',e',u,?_,?_,fun o ho=>JT (a3 o ho),?_,fun d q' hm=> ?_,fun h=>(List.cons_ne_nil _ _ h).elim,fun hm=> ?_,fun d q' hm hp=> ?_⟩
  ·subst hv';simp only [yC,hc,Option.bind_some,a1]
  ·have :xD xs i=ys:=by unfold xD;rw [hx]
   simpa only [yI,this]using a2
  ·have h1:xD xs i=ys:=by unfold xD;rw [hx]
   have h2:qi xs i=e1:=by unfold qi;rw [hx]
   rw [vF,h1,h2];exact a4
  ·subst hm;simpa using a5 d (q'++ [i]) rfl
  ·subst hm;exact a7 rfl
  ·subst hm;exact a7 rfl
theorem xE {S:TypeId→Nat}{w w':World}{ow:Nat→Option Pl}: ∀(p:List Nat) (m:Md) (e:TypeId) (xs:List D) (hv:Value),Rp S lo w ow m (.lst e xs) hv→zk xs p→
  (∀b o A n c,b<w.heap.size→rel m (ow b)→w.cell? ⟨b,o,none⟩=some (.slice A n c)→w'.cell? ⟨b,o,none⟩=some (.slice A n c))→yC w' hv p=yC w hv p
 | [],m,e,xs,hv,_,_,_=>rfl
 |i::q,m,e,xs,hv,h,hp,hk=>by
  obtain⟨e1,ys,hx,hq⟩:=hp
  obtain⟨vs,h1,h2⟩:=(zw S lo).1 h
  have hlt:i<vs.length:=by rw [h1.1];exact(List.getElem?_eq_some_iff.1 hx).1
  have hu:vs[i]? =some vs[i]:=List.getElem?_eq_getElem hlt
  obtain⟨b,o,n,c,hv',hN,hb,hr,hc⟩:=qV h1 hu
  have hki:=h2 i _ _ hx hu
  obtain⟨A',n',c',hf,_⟩:=xZ hki
  have hc':=hk b (o+i) A' n' c' hb hr (by rw [hc,hf])
  subst hv'
  simp only [yC,hc,hc',Option.bind_some,hf]
  rw [hf]at hki
  exact xE q (m.kid i) e1 ys _ hki hq (fun b o A n c hb hr=>hk b o A n c hb (JT hr))
def yq (w w':World)(rr rr':List (Nat×zr))(hd hd':Nat→Value)(d:Nat):Prop:=
 ∀R',lk rr' d=some R'→∃R,lk rr d=some R∧hd' d=hd d∧∀p,zk R'.xs p→zk R.xs p∧yC w' (hd d) p=yC w (hd d) p
def yp (bb bb':List (Nat×List AV))(bk bk':Nat→Nat)(t:Nat):Prop:=(∃cs,lk bb' t=some cs)→(∃cs,lk bb t=some cs)∧bk' t=bk t
mutual
theorem yl {w w':World}{rr rr':List (Nat×zr)}{bb bb':List (Nat×List AV)}{hd hd':Nat→Value}{bk bk':Nat→Nat}{ds bs:Nat→Bool}(hD: ∀d,ds d=false→yq w w' rr rr' hd hd' d)(hB: ∀t,bs t=false→yp bb bb' bk bk' t):
  ∀(v:AV) (x:Value),AvR τ w rr bb hd bk v x→AvR τ w' rr' bb' hd' bk' (v.kill ds bs) x
 | .int k n,x,h=>by simpa only [AV.kill,AvR]using h
 | .bool b,x,h=>by simpa only [AV.kill,AvR]using h
 | .nil,x,h=>by simpa only [AV.kill,AvR]using h
 | .dead,x,h=>by simp only [AV.kill,AvR]
 | .raw u,x,h=>by simpa only [AV.kill,AvR]using h
 | .sl d p off len e,x,h=>by
  simp only [AV.kill]
  split
  ·simp only [AvR]
  ·rename_i hd0
   simp only [AvR]at h⊢
   refine⟨h.1,?_⟩
   intro R' hR' hp
   obtain⟨R,hR,he,hk⟩:=hD d (by simpa using hd0) R' hR'
   obtain⟨hp0,hi⟩:=hk p hp
   rw [he,hi]
   exact h.2 R hR hp0
 | .ep d p i,x,h=>by
  simp only [AV.kill]
  split
  ·simp only [AvR]
  ·rename_i hd0
   simp only [AvR]at h⊢
   refine⟨h.1,?_⟩
   intro R' hR' hp
   obtain⟨R,hR,he,hk⟩:=hD d (by simpa using hd0) R' hR'
   obtain⟨hp0,hi⟩:=hk p hp
   rw [he,hi]
   exact h.2 R hR hp0
 | .bp t i,x,h=>by
  simp only [AV.kill]
  split
  ·simp only [AvR]
  ·rename_i hb0
   simp only [AvR]at h⊢
   refine⟨h.1,?_⟩
   intro hl
   obtain⟨h1,h2⟩:=hB t (by simpa using hb0) hl
   rw [h2]
   exact h.2 h1
 | .agg vs,x,h=>by
  simp only [AV.kill,AvR]at h⊢
  obtain⟨cs,h1,h2⟩:=h
  exact⟨cs,h1,yA hD hB vs cs h2⟩
 | .tup vs,x,h=>by
  simp only [AV.kill,AvR]at h⊢
  obtain⟨cs,h1,h2⟩:=h
  exact⟨cs,h1,yA hD hB vs cs h2⟩
 | .fn f vs,x,h=>by
  simp only [AV.kill,AvR]at h⊢
  obtain⟨cs,h1,h2⟩:=h
  exact⟨cs,h1,yA hD hB vs cs h2⟩
theorem yA {w w':World}{rr rr':List (Nat×zr)}{bb bb':List (Nat×List AV)}{hd hd':Nat→Value}{bk bk':Nat→Nat}{ds bs:Nat→Bool}(hD: ∀d,ds d=false→yq w w' rr rr' hd hd' d)(hB: ∀t,bs t=false→yp bb bb' bk bk' t):
  ∀(vs:List AV) (xs:List Value),zY τ w rr bb hd bk vs xs→zY τ w' rr' bb' hd' bk' (AV.killL ds bs vs) xs
 | [],xs,h=>by simpa only [AV.killL,zY]using h
 |v::vs,xs,h=>by
  simp only [AV.killL,zY]at h⊢
  obtain⟨x,xs',h1,h2,h3⟩:=h
  exact⟨x,xs',h1,yl hD hB v x h2,yA hD hB vs xs' h3⟩
end
theorem zp {w:World}{rr:List (Nat×zr)}{bb:List (Nat×List AV)}{hd:Nat→Value}{bk:Nat→Nat}: ∀{vs:List AV} {xs:List Value},
  zY τ w rr bb hd bk vs xs↔xs.length=vs.length∧∀(i:Nat) (v:AV) (x:Value),vs[i]? =some v→xs[i]? =some x→AvR τ w rr bb hd bk v x
 | [],xs=>by
  simp only [zY]
  exact⟨by rintro rfl;exact⟨rfl,fun i v x h=>by rw [List.getElem?_nil]at h;cases h⟩,fun h=>List.eq_nil_of_length_eq_zero h.1⟩
 |v::vs,xs=>by
  simp only [zY]
  constructor
  ·rintro⟨x,xs',rfl,h1,h2⟩
   obtain⟨h3,h4⟩:=(zp (vs:=vs) (xs:=xs')).1 h2
   refine⟨by simp [h3],fun i u y hu hy=> ?_⟩
   cases i with
   |zero=>simp at hu hy;subst hu;subst hy;exact h1
   |succ i=>exact h4 i u y (by simpa using hu) (by simpa using hy)
  ·rintro⟨h1,h2⟩
   cases xs with
   |nil=>simp at h1
   |cons x xs'=>exact⟨x,xs',rfl,h2 0 v x rfl rfl,(zp (vs:=vs) (xs:=xs')).2 ⟨by simpa using h1,fun i u y hu hy=>h2 (i+1) u y (by simpa using hu) (by simpa using hy)⟩⟩
def St.put (st:St)(d:Option Tmp)(v:AV):St:=match d with|none=>st|some d=>{st with s:=(d,v)::st.s}
theorem zGT {w0:Fz}{ow:Nat→Option Pl}{hd:Nat→Value}{bk:Nat→Nat}{st:St}{a:Act}{w:World}(h:ze τ lo w0 ow hd bk st a w)(d:Option Tmp)(hdn: ∀k,d=some k→k<st.n)(v:AV)(x:Value)
  (hv:AvR τ w st.r st.b hd bk v x):ze τ lo w0 ow hd bk (st.put d v) (a.put d x) w:=by
 cases d with
 |none=>exact h
 |some k=>
  have hk:k<a.tmps.size:=by rw [h.size];exact hdn k rfl
  refine⟨h.big,h.defers,by simpa [Act.put,St.put]using h.size,h.low,h.below,h.ge,h.new,fun j u hu=> ?_,h.root,?_,h.pin⟩
  ·simp only [St.put,zd]at hu
   simp only [Act.put]
   split at hu
   ·rename_i hjk
    subst hjk
    cases hu
    rw [Array.getD_eq_getD_getElem?,Array.getElem?_setIfInBounds,if_pos rfl,if_pos hk]
    exact hv
   ·rename_i hjk
    rw [Array.getD_eq_getD_getElem?,Array.getElem?_setIfInBounds,if_neg hjk,←Array.getD_eq_getD_getElem?]
    exact h.slot j u hu
  ·exact h.box
theorem uZ (w:World): ∀(p:List Nat) (hv:Value),yC w.drew hv p=yC w hv p
 | [],hv=>rfl
 |i::q,hv=>by
  cases hv with
  |slice A n c=>
   cases A with
   |none=>rfl
   |some a=>
    have :w.drew.cell? ⟨a.block,a.off+i,none⟩=w.cell? ⟨a.block,a.off+i,none⟩:=rfl
    simp only [yC,this]
    cases w.cell? ⟨a.block,a.off+i,none⟩with
    |none=>rfl
    |some u=>simp only [Option.bind_some];exact uZ w q u
  |_=>rfl
theorem zEX {w0:Fz}{ow:Nat→Option Pl}{hd:Nat→Value}{bk:Nat→Nat}{st:St}{a:Act}{w:World}(h:ze τ lo w0 ow hd bk st a w):ze τ lo w0 ow hd bk st a w.drew:=by
 have keep: ∀v x,AvR τ w st.r st.b hd bk v x→AvR τ w.drew st.r st.b hd bk v x:=fun v x hv=>by
  have :=yl (τ:=τ) (w:=w) (w':=w.drew) (rr:=st.r) (rr':=st.r) (bb:=st.b) (bb':=st.b) (hd:=hd) (hd':=hd) (bk:=bk) (bk':=bk) (ds:=noB) (bs:=noB)
   (fun d _ R hR=>⟨R,hR,rfl,fun p hp=>⟨hp,uZ w p _⟩⟩) (fun t _ hl=>⟨hl,rfl⟩) v x hv
  rwa [qX]at this
 refine⟨h.big,h.defers,h.size,h.low,h.below.drew,h.ge,h.new,fun k v hv=>keep v _ (h.slot k v hv),fun d R hR=> ?_,fun t vs hv=> ?_,h.pin⟩
 ·exact yE _ _ (show w.heap.size≤w.drew.heap.size from Nat.le_refl _) _ _ _ (fun b _ _=>⟨rfl,rfl⟩) (h.root d R hR)
 ·obtain⟨cs,ty,h1,h2,h3⟩:=h.box t vs hv
  exact⟨cs,ty,h1,h2,zp.2 ⟨(zp.1 h3).1,fun i v x hv hx=>keep v x ((zp.1 h3).2 i v x hv hx)⟩⟩
end
def upd {α:Type}(f:Nat→α)(d:Nat)(x:α):Nat→α:=fun k=>if k=d then x else f k
theorem yF {α:Type}(f:Nat→α)(d:Nat)(x:α):upd f d x d=x:=if_pos rfl
theorem qf {α:Type}(f:Nat→α){d k:Nat}(x:α)(h:k≠d):upd f d x k=f k:=if_neg h
def is1 (d:Nat):Nat→Bool:=fun k=>k==d
section
variable {τ:Ty} {lo:Nat} {w0:Fz} {ow:Nat→Option Pl} {hd:Nat→Value} {bk:Nat→Nat} {st:St} {a:Act} {w:World}
theorem xe {w w':World}{b o:Nat}(h:w'.heap[b]? =w.heap[b]?):w'.cell? ⟨b,o,none⟩=w.cell? ⟨b,o,none⟩:=World.cell?_of_block (w:=w) (w':=w') (a:=⟨b,o,none⟩) h
theorem XP (h:ze τ lo w0 ow hd bk st a w){w':World}{ow':Nat→Option Pl}(hs:w.heap.size≤w'.heap.size)(hk: ∀b,b<w.heap.size→w'.heap[b]? =w.heap[b]? ∧ow' b=ow b)
  (hb:yu w0 w') (hg: ∀b p,w.heap.size≤b→ow' b=some p→p≠ .ext→lo≤b∧w0.fre b) (hn: ∀b,w'.heap.size≤b→ow' b=none):ze τ lo w0 ow' hd bk st a w':=by
 have hD: ∀d,noB d=false→yq w w' st.r st.r hd hd d:=fun d _ R hR=>⟨R,hR,rfl,fun p hp=>⟨hp,xE p _ _ _ _ (h.root d R hR) hp (fun b o A n c hb _ hc=>by
  rw [xe (hk b hb).1];exact hc)⟩⟩
 have hB: ∀t,noB t=false→yp st.b st.b bk bk t:=fun t _ hl=>⟨hl,rfl⟩
 refine⟨h.big,h.defers,h.size,Nat.le_trans h.low hs,hb,fun b p hlt hb hp=> ?_,hn,fun k v hv=> ?_,fun d R hR=> ?_,fun t vs hv=> ?_,h.pin⟩
 ·by_cases hlt2:b<w.heap.size
  ·rw [(hk b hlt2).2]at hb;exact h.ge b p hlt2 hb hp
  ·exact hg b p (by omega) hb hp
 ·have :=yl hD hB v _ (h.slot k v hv)
  rwa [qX]at this
 ·exact yE _ _ hs _ _ _ (fun b hb _=>hk b hb) (h.root d R hR)
 ·obtain⟨cs,ty,h1,h2,h3⟩:=h.box t vs hv
  have hlt:bk t<w.heap.size:=(Array.getElem?_eq_some_iff.1 h1).1
  have :=yA hD hB vs cs h3
  rw [xF]at this
  exact⟨cs,ty,by rw [(hk _ hlt).1];exact h1,by rw [(hk _ hlt).2];exact h2,this⟩
def St.addR (st:St)(d:Nat)(R:zr):St:={st.kill (is1 d) noB with r:=(d,R)::st.r}
theorem xx (h:ze τ lo w0 ow hd bk st a w)(d:Nat)(R:zr)(hv:Value)(hR:Rp (sz τ) lo w ow (md R.o d) (.lst R.e R.xs) hv)(hpin: ∀i,R.pin=some i→w0.pin i=some hv:=by intro i h;cases h):ze τ lo w0 ow (upd hd d hv) bk (st.addR d R) a w:=by
 have hD: ∀k,is1 d k=false→yq w w st.r (st.addR d R).r hd (upd hd d hv) k:=fun k hk R' hR'=>by
  have hne: ¬d=k:=by intro e;subst e;simp [is1]at hk
  simp only [St.addR,zd,if_neg hne]at hR'
  exact⟨R',hR',qf _ _ (fun e=>hne e.symm),fun p hp=>⟨hp,rfl⟩⟩
 have hB: ∀t,noB t=false→yp st.b (st.addR d R).b bk bk t:=fun t _ hl=>by
  simp only [St.addR,St.kill,zz]at hl
  obtain⟨cs,hcs⟩:=hl
  cases hx:lk st.b t with
  |none=>rw [hx]at hcs;cases hcs
  |some cs'=>exact⟨⟨cs',rfl⟩,rfl⟩
 refine⟨h.big,h.defers,h.size,h.low,h.below,h.ge,h.new,fun k v hv'=> ?_,fun k R' hR'=> ?_,fun t vs hv'=> ?_,fun k R' i hR' hp=> ?_⟩
 ·simp only [St.addR,St.kill,zz]at hv'
  cases hx:lk st.s k with
  |none=>rw [hx]at hv';cases hv'
  |some u=>rw [hx]at hv';cases hv';exact yl hD hB u _ (h.slot k u hx)
 ·simp only [St.addR,zd]at hR'
  split at hR'
  ·rename_i e;subst e;cases hR';rw [yF];exact hR
  ·rename_i e;rw [qf _ _ (fun h=>e h.symm)];exact h.root k R' hR'
 ·simp only [St.addR,St.kill,zz]at hv'
  cases hx:lk st.b t with
  |none=>rw [hx]at hv';cases hv'
  |some u=>
   rw [hx]at hv';cases hv'
   obtain⟨cs,ty,h1,h2,h3⟩:=h.box t u hx
   exact⟨cs,ty,h1,h2,yA hD hB u cs h3⟩
 ·simp only [St.addR,zd]at hR'
  split at hR'
  ·rename_i e;subst e;cases hR';rw [yF];exact hpin i hp
  ·rename_i e;rw [qf _ _ (fun h=>e h.symm)];exact h.pin k R' i hR' hp
def St.delR (st:St)(d:Nat):St:={st.kill (is1 d) noB with r:=rm (is1 d) st.r}
theorem ZC (h:ze τ lo w0 ow hd bk st a w)(d:Nat):ze τ lo w0 ow hd bk (st.delR d) a w:=by
 have hD: ∀k,is1 d k=false→yq w w st.r (st.delR d).r hd hd k:=fun k hk R' hR'=>by
  simp only [St.delR,yr,hk]at hR'
  exact⟨R',by simpa using hR',rfl,fun p hp=>⟨hp,rfl⟩⟩
 have hB: ∀t,noB t=false→yp st.b (st.delR d).b bk bk t:=fun t _ hl=>by
  simp only [St.delR,St.kill,zz]at hl
  obtain⟨cs,hcs⟩:=hl
  cases hx:lk st.b t with
  |none=>rw [hx]at hcs;cases hcs
  |some cs'=>exact⟨⟨cs',rfl⟩,rfl⟩
 refine⟨h.big,h.defers,h.size,h.low,h.below,h.ge,h.new,fun k v hv'=> ?_,fun k R' hR'=> ?_,fun t vs hv'=> ?_,fun k R' i hR' hp=> ?_⟩
 ·simp only [St.delR,St.kill,zz]at hv'
  cases hx:lk st.s k with
  |none=>rw [hx]at hv';cases hv'
  |some u=>rw [hx]at hv';cases hv';exact yl hD hB u _ (h.slot k u hx)
 ·simp only [St.delR,yr]at hR'
  split at hR'
  ·cases hR'
  ·exact h.root k R' hR'
 ·simp only [St.delR,St.kill,zz]at hv'
  cases hx:lk st.b t with
  |none=>rw [hx]at hv';cases hv'
  |some u=>
   rw [hx]at hv';cases hv'
   obtain⟨cs,ty,h1,h2,h3⟩:=h.box t u hx
   exact⟨cs,ty,h1,h2,yA hD hB u cs h3⟩
 ·simp only [St.delR,yr]at hR'
  split at hR'
  ·cases hR'
  ·exact h.pin k R' i hR' hp
def St.addB (st:St)(t:Nat)(vs:List AV):St:={st.kill noB (is1 t)with b:=(t,vs)::wh (AV.killL noB (is1 t)) st.b}
theorem Vu (h:ze τ lo w0 ow hd bk st a w)(t:Nat)(ht:t<1000000)(g:Nat)(vs:List AV)(cs:List Value)(ty:TypeId)(hg:w.heap[g]? =some (.cells cs.toArray ty (0,0)))(ho:ow g=some (.box t))
  (hv:zY τ w st.r st.b hd bk vs cs):ze τ lo w0 ow hd (upd bk t g) (st.addB t (AV.killL noB (is1 t) vs)) a w:=by
 have hD: ∀k,noB k=false→yq w w st.r (st.addB t (AV.killL noB (is1 t) vs)).r hd hd k:=fun k _ R' hR'=>⟨R',hR',rfl,fun p hp=>⟨hp,rfl⟩⟩
 have hB: ∀k,is1 t k=false→yp st.b (st.addB t (AV.killL noB (is1 t) vs)).b bk (upd bk t g) k:=fun k hk hl=>by
  have hne: ¬t=k:=by intro e;subst e;simp [is1]at hk
  simp only [St.addB,zd,if_neg hne,zz]at hl
  obtain⟨cs,hcs⟩:=hl
  cases hx:lk st.b k with
  |none=>rw [hx]at hcs;cases hcs
  |some cs'=>exact⟨⟨cs',rfl⟩,qf _ _ (fun e=>hne e.symm)⟩
 refine⟨fun j ad hj had=>by rw [qf _ _ (by omega)];exact h.big j ad hj had,h.defers,h.size,h.low,h.below,h.ge,h.new,fun k v hv'=> ?_,h.root,fun k us hv'=> ?_,h.pin⟩
 ·simp only [St.addB,St.kill,zz]at hv'
  cases hx:lk st.s k with
  |none=>rw [hx]at hv';cases hv'
  |some u=>rw [hx]at hv';cases hv';exact yl hD hB u _ (h.slot k u hx)
 ·simp only [St.addB,zd]at hv'
  split at hv'
  ·rename_i e;subst e;cases hv'
   exact⟨cs,ty,by rw [yF];exact hg,by rw [yF];exact ho,yA hD hB vs cs hv⟩
  ·rename_i e
   rw [zz]at hv'
   cases hx:lk st.b k with
   |none=>rw [hx]at hv';cases hv'
   |some u=>
    rw [hx]at hv';cases hv'
    obtain⟨cs,ty,h1,h2,h3⟩:=h.box k u hx
    rw [qf _ _ (fun h=>e h.symm)]
    exact⟨cs,ty,h1,h2,yA hD hB u cs h3⟩
theorem ZN (h:ze τ lo w0 ow hd bk st a w)(o:Obj)(p:Option Pl)(hp:p≠some .ext):ze τ lo w0 (upd ow w.heap.size p) hd bk st a (w.alloc o):=by
 have hsz:(w.alloc o).heap.size=w.heap.size+1:=by simp
 refine XP h (by omega) (fun b hb=>⟨Below.heap_alloc w o b hb,qf _ _ (by omega)⟩) (h.below.alloc o) (fun b p' hb ho hne=> ?_) (fun b hb=> ?_)
 ·exact⟨by have :=h.low;omega,fun hlt=>by have :=h.below.size;omega⟩
 ·rw [qf _ _ (by omega)];exact h.new b (by omega)
end
def cv1 :Value→AV
 | .int k n=> .int k n
 | .bool b=> .bool b
 | .slice none 0 0=> .nil
 |_=> .dead
def cv :Value→AV
 | .agg cs=> .agg (cs.toList.map cv1)
 |v=>cv1 v
def ev (st:St):Operand→AV
 | .tmp t=>(lk st.s t).getD .dead
 | .const v=>cv v
 | .func f=> .fn f []
 | .global _=> .dead
def jH (n:Int):Prop:= -9223372036854775808≤n∧n≤9223372036854775807
def ar (k:IntKind)(n:Int):AV×Prop:=
 match k with
 | .i64=>(.int .i64 n,jH n)
 |k=>(.int k (k.wrap n),True)
def VH (op:BinOp)(a b:Int):Option Bool:=
 match op with
 | .eql=>some (a==b)
 | .neq=>some (a !=b)
 | .lss=>some (decide (a<b))
 | .leq=>some (decide (a≤b))
 | .gtr=>some (decide (a>b))
 | .geq=>some (decide (a≥b))
 |_=>none
def arC (k:IntKind)(n:Int):AV×Prop:=
 match k with
 | .u64=>(.int .u64 n,0≤n∧n≤18446744073709551615)
 |k=>ar k n
def shE (op:BinOp)(k:IntKind)(a b:Int):Option (AV×Prop):=
 match op with
 | .shl=>some ((ar k (a*2^(min b.toNat k.bits))).1,0≤b∧(ar k (a*2^(min b.toNat k.bits))).2)
 | .shr=>some (.int k (a / 2^(min b.toNat k.bits)),0≤b)
 |_=>none
def VB (k:IntKind)(a b:Int):Int:=k.wrap (BitVec.ofInt k.bits a&&&BitVec.ofInt k.bits b).toNat
def xorI (k:IntKind)(a b:Int):Int:=k.wrap (BitVec.ofInt k.bits a^^^BitVec.ofInt k.bits b).toNat
def ke (st:St)(v:AV):Option (AV×Prop):=
 match v with
 | .bp t i=>match lk st.b t with|some _=>some (.bp t i,True)|none=>none
 |_=>none
def jz (op:BinOp)(x y:AV):Option (AV×Prop):=
 match x,y with
 | .int k a, .int k' b=>
  if k=k' then
   match op with
   | .shl=>shE .shl k a b
   | .shr=>shE .shr k a b
   | .and=>if k= .i64∧b=1 then some (.int k (a%2),0≤a)else some (.int k (VB k a b),True)
   | .xor=>some (.int k (xorI k a b),True)
   | .add=>some (ar k (a+b))
   | .sub=>some (ar k (a - b))
   | .mul=>some (ar k (a*b))
   | .quo=>some ((ar k (a.tdiv b)).1,b≠0∧(ar k (a.tdiv b)).2)
   | .rem=>some (.int k (a.tmod b),b≠0)
   |op=>(VH op a b).map fun t=>(.bool t,True)
  else shE op k a b
 |_,_=>none
def Wz (op:BinOp)(x y:AV):Option (AV×Prop):=
 match x,y with
 | .bool a, .bool b=>
  match op with
  | .eql=>some (.bool (a==b),True)
  | .neq=>some (.bool (!(a==b)),True)
  |_=>none
 |_,_=>none
def ju (τ:Ty)(cs:List CK)(fs:List (Nat×TypeId))(op:BinOp)(x y:AV):Option (AV×Prop):=
 match cs,fs,x,y with
 | [.int _, .int _],[(0,t0),(1,t1)], .agg [.int j0 a, .int j1 b], .agg [.int j2 c, .int j3 d]=>
  match tk τ t0,tk τ t1 with
  |some (.sc (.int _),_),some (.sc (.int _),_)=>
   if j0=j2∧j1=j3 then
    match op with
    | .eql=>some (.bool (a==c&&b==d),True)
    | .neq=>some (.bool (!(a==c&&b==d)),True)
    |_=>none
   else none
  |_,_=>none
 |_,_,_,_=>none
theorem uI {τ:Ty}{cs:List CK}{fs:List (Nat×TypeId)}{op:BinOp}{x y v:AV}{ob:Prop}(h:ju τ cs fs op x y=some (v,ob)): ∃b,v= .bool b:=by
 unfold ju at h
 repeat' split at h
 all_goals first|(cases h;done)|(cases h;exact⟨_,rfl⟩)
def unE (op:UnOp)(x:AV):Option (AV×Prop):=
 match op,x with
 | .neg, .int k n=>some (ar k (-n))
 | .not, .bool b=>some (.bool !b,True)
 |_,_=>none
def wt (τ:Ty)(d:Nat)(p:List Nat)(i:Nat)(xs:List D):CK→AV
 | .int k=> .int k (XB xs i)
 | .bool=> .bool (getB xs i)
 | .sl e=> .sl d (p++ [i]) 0 ((xD xs i).length / sz τ e) e
def vg (τ:Ty)(d:Nat)(p:List Nat)(xs:List D):Nat→List CK→List AV
 |_,[]=> []
 |i,c::cs=>wt τ d p i xs c::vg τ d p xs (i+1) cs
def UN (xs:List D):Nat→List CK→Prop
 |_,[]=>True
 |i,c::cs=>xK c xs i∧UN xs (i+1) cs
def ZX (st:St)(x:Option Operand)(dflt:Nat):Option (Nat×Prop):=
 match x with
 |none=>some (dflt,True)
 |some x=>match ev st x with
  | .int _ n=>some (n.toNat,0≤n)
  |_=>none
def ka (x y:AV):Option (AV×Prop):=
 match x,y with
 | .int k a, .int _ b=>some (.int k (if b>a then b else a),True)
 |_,_=>none
def kc (x y:AV):Option (AV×Prop):=
 match x,y with
 | .int k a, .int _ b=>some (.int k (if b<a then b else a),True)
 |_,_=>none
def JO (x y z:AV):Option (AV×Prop):=
 match x,y,z with
 | .int k a, .int _ b, .int _ c=>some (.int k (if c>(if b>a then b else a)then c else(if b>a then b else a)),True)
 |_,_,_=>none
def qu (τ:Ty)(st:St)(t:TypeId)(v:AV):Option (AV×Prop):=
 match v with
 | .bp b i=>
  match lk st.b b,tk τ t with
  |some cs,some (.sc _,_)=>some (cs.getD i .dead,i<cs.length)
  |some cs,some (.st ks _,_)=>some (.agg ((cs.drop i).take ks.length),i+ks.length≤cs.length)
  |_,_=>none
 | .ep d p i=>
  match lk st.r d,tk τ t with
  |some R,some (.sc c,_)=>some (wt τ d p i (yI R.xs p) c,zk R.xs p∧xK c (yI R.xs p) i)
  |some R,some (.st ks _,_)=>some (.agg (vg τ d p (yI R.xs p) i ks),zk R.xs p∧UN (yI R.xs p) i ks)
  |_,_=>none
 |_=>none
def onR (st:St)(d:Nat)(p:List Nat)(v:AV)(ob:Prop):Option (AV×Prop):=
 match lk st.r d with
 |some R=>some (v,zk R.xs p∧ob)
 |none=>none
def VR (st:St)(v:AV):Option (AV×Prop):=
 match v with
 | .sl d p _ len _=>onR st d p (.int .i64 len) True
 | .nil=>some (.int .i64 0,True)
 |_=>none
def zAZ (τ:Ty)(fs:List (Nat×TypeId))(f:Nat):Option Nat:=
 match fs[f]? with
 |some x=>if sz τ x.2=0 then none else some x.1
 |none=>none
def ZZ (τ:Ty)(st:St)(t:TypeId)(f:Nat)(v:AV):Option (AV×Prop):=
 match tk τ t with
 |some (.st _ fs,_)=>
  match zAZ τ fs f with
  |some k=>
   match v with
   | .bp b i=>match lk st.b b with|some _=>some (.bp b (i+k),True)|none=>none
   | .ep d p i=>onR st d p (.ep d p (i+k)) True
   |_=>none
  |none=>none
 |_=>none
def Zc (τ:Ty)(st:St)(t:TypeId)(x ix:AV):Option (AV×Prop):=
 match tk τ t with
 |some (.sc (.sl e),_)=>
  match x,ix with
  | .sl d p off len e', .int _ n=>if e=e' then onR st d p (.ep d p ((off+n.toNat)*sz τ e)) (0≤n∧n<len)else none
  |_,_=>none
 |_=>none
def Zg (τ:Ty)(st:St)(t:TypeId)(x:AV)(lo hi:Option Operand):Option (AV×Prop):=
 match tk τ t with
 |some (.sc (.sl e),_)=>
  match x with
  | .sl d p off len e'=>
   match ZX st lo 0,ZX st hi len with
   |some (l,pl),some (h,ph)=>if e=e' then onR st d p (.sl d p (off+l) (h - l) e) (pl∧ph∧l≤h∧h≤len)else none
   |_,_=>none
  |_=>none
 |_=>none
def fieldsOf (v:AV):Option (List AV):=match v with| .agg vs=>some vs| .tup _=>none| .dead=>none| .raw _=>none|v=>some [v]
def wa :CK→AV
 | .int k=> .int k 0
 | .bool=> .bool false
 | .sl _=> .nil
def lay {α:Type}(cells:List α)(off:Nat)(vs:List α):List α:=cells.take off++vs++cells.drop (off+vs.length)
def vY (τ:Ty)(fs:List (Nat×TypeId)):List AV→List (Nat×AV)→Option (List AV)
 |cells,[]=>some cells
 |cells,(i,v)::rest=>
  match fs[i]?,fieldsOf v with
  |some x,some vs=>if vs.length=sz τ x.2∧sz τ x.2≠0∧x.1+vs.length≤cells.length then vY τ fs (lay cells x.1 vs) rest else none
  |_,_=>none
def QY (τ:Ty)(t:TypeId)(parts:List (Nat×AV)):Option (AV×Prop):=
 match tk τ t with
 |some (.st ks fs,_)=>(vY τ fs (ks.map wa) parts).map fun vs=>(.agg vs,True)
 |_=>none
def vx (τ:Ty)(st:St)(c:Call):Option (AV×Prop):=
 match c.callee with
 | .builtin b=>
  match b,c.args.toList,c.argTypes.toList with
  | .len,[x],[t]=>match tk τ t with|some (.sc (.sl _),_)=>VR st (ev st x)|_=>none
  | .max,[x,y],_=>ka (ev st x) (ev st y)
  | .min,[x,y],_=>kc (ev st x) (ev st y)
  | .max,[x,y,z],_=>JO (ev st x) (ev st y) (ev st z)
  |_,_,_=>none
 |_=>none
def WK (τ:Ty)(t:TypeId)(f:Nat)(v:AV):Option (AV×Prop):=
 match tk τ t with
 |some (.st _ fs,_)=>
  match fs[f]? with
  |some (k,ft)=>
   match tk τ ft,v with
   |some (.sc _,_), .agg us=>(us[k]?).map fun u=>(u,True)
   |_,_=>none
  |none=>none
 |_=>none
theorem Ji {τ:Ty}{t:TypeId}{f:Nat}{v u:AV}{ob:Prop}(h:WK τ t f v=some (u,ob)): ∃(us:List AV) (k:Nat),v= .agg us∧us[k]? =some u:=by
 unfold WK at h
 split at h
 ·split at h
  ·rename_i k ft hk
   split at h
   ·rename_i us _
    cases hu:us[k]? with
    |none=>rw [hu]at h;cases h
    |some y=>rw [hu]at h;cases h;exact⟨us,k,rfl,hu⟩
   ·cases h
  ·cases h
 ·cases h
def qF (τ:Ty)(o:Oper)(st:St):Option (AV×Prop):=
 match o.op with
 | .move x=>some (ev st x,True)
 | .assign x=>some (ev st x,True)
 | .pick c x y=>match ev st c with| .bool b=>some (if b then ev st x else ev st y,True)|_=>none
 | .load t x=>qu τ st t (ev st x)
 | .fieldAddr t x f=>ZZ τ st t f (ev st x)
 | .field t x f=>WK τ t f (ev st x)
 | .indexAddr t x ix=>Zc τ st t (ev st x) (ev st ix)
 | .extract x i=>match ev st x with| .tup vs=>(vs[i]?).map fun v=>(v,True)|_=>none
 | .binOp op t x y _=>
  match tk τ t with
  |some (.sc (.int _),_)=>jz op (ev st x) (ev st y)
  |some (.sc .bool,_)=>Wz op (ev st x) (ev st y)
  |some (.st cs fs,_)=>ju τ cs fs op (ev st x) (ev st y)
  |_=>none
 | .unOp op _ x=>unE op (ev st x)
 | .build t parts=>QY τ t (parts.toList.map fun x=>(x.1,ev st x.2))
 | .convert src dst x=>
  match tk τ src,tk τ dst,ev st x with
  |some (.sc (.int _),_),some (.sc (.int k'),_), .int _ n=>some (arC k' n)
  |_,_,_=>none
 | .nilCheck x=>ke st (ev st x)
 | .slice t x lo hi mx=>match mx with|none=>Zg τ st t (ev st x) lo hi|some _=>none
 | .call c=>vx τ st c
 |_=>none
section
variable {P:Program} {τ:Ty} {lo:Nat} {w0:Fz} {ow:Nat→Option Pl} {hd:Nat→Value} {bk:Nat→Nat} {st:St} {a:Act} {w:World}
theorem zCM (v:Value):AvR τ w st.r st.b hd bk (cv1 v) v:=by
 unfold cv1
 split<;>simp only [AvR]
theorem zJi (v:Value):AvR τ w st.r st.b hd bk (cv v) v:=by
 unfold cv
 split
 ·rename_i cs
  simp only [AvR]
  refine⟨cs.toList,by simp,zp.2 ⟨by simp,fun i u x hu hx=> ?_⟩⟩
  rw [List.getElem?_map]at hu
  rw [hx]at hu
  cases hu
  exact zCM (st:=st) x
 ·exact zCM (st:=st) _
theorem zZ (h:ze τ lo w0 ow hd bk st a w)(x:Operand):AvR τ w st.r st.b hd bk (ev st x) (a.eval x):=by
 cases x with
 |tmp t=>
  simp only [ev,Act.eval]
  cases hl:lk st.s t with
  |none=>simp only [Option.getD_none,AvR]
  |some v=>exact h.slot t v hl
 |const v=>exact zJi (st:=st) v
 |func f=>simp only [ev,Act.eval,AvR];exact⟨[],rfl,by simp [zY]⟩
 |global g=>simp only [ev,AvR]
theorem zDP {n:Int}(h:jH n):IntKind.i64.wrap n=n:=IntWalk.i64_in n h
theorem Jx {k:IntKind}{n:Int}(h:(ar k n).2):AvR τ w st.r st.b hd bk (ar k n).1 (.int k (k.wrap n)):=by
 unfold ar at h⊢
 cases k<;>simp only [AvR]
 rw [zDP h]
theorem yM (hτ:zx P τ){t:TypeId}{k:TK}{b:Nat}(h:tk τ t=some (k,b)):zDZ P t (k,b):=hτ t (k,b) h
theorem Yk {t:TypeId}{c:CK}{b:Nat}(h:tk τ t=some (.sc c,b)):sz τ t=1:=by unfold tk at h;simp [sz,cks,h,TK.cells]
theorem Ud {t:TypeId}{cs:List CK}{fs:List (Nat×TypeId)}{b:Nat}(h:tk τ t=some (.st cs fs,b)):sz τ t=cs.length:=by unfold tk at h;simp [sz,cks,h,TK.cells]
theorem zEz {op:BinOp}{x y:Int}{t:Bool}(h:VH op x y=some t):(Op.intCmp op x y).run P w= .ok (.bool t) w:=by
 unfold VH at h
 cases op<;>simp at h<;>subst h<;>simp [Op.intCmp]
theorem Kq {k:IntKind}{n:Int}{v:AV}{ob:Prop}(h:some (ar k n)=some (v,ob))(hob:ob):AvR τ w st.r st.b hd bk v (.int k (k.wrap n)):=by
 simp only [Option.some.injEq]at h
 have h1:(ar k n).2:=by rw [h];exact hob
 have :=Jx (τ:=τ) (hd:=hd) (bk:=bk) (st:=st) (w:=w) h1
 rw [h]at this
 exact this
theorem zJw {k:IntKind}{n:Int}{v:AV}{ob:Prop}(h:some (arC k n)=some (v,ob))(hob:ob):AvR τ w st.r st.b hd bk v (.int k (k.wrap n)):=by
 cases k<;>try exact Kq (st:=st) h hob
 simp only [arC,Option.some.injEq,Prod.mk.injEq]at h
 obtain⟨rfl,rfl⟩:=h
 have e:IntKind.u64.wrap n=n:=by
  unfold IntKind.wrap
  simp only [IntKind.bits,IntKind.signed,Bool.false_and]
  have :n%2^64=n:=by omega
  simpa using this
 rw [e]
 simp only [AvR]
theorem zF8 {op:BinOp}{k k':IntKind}{a b:Int}{v:AV}{ob:Prop}(t:TypeId)(h:shE op k a b=some (v,ob))(hob:ob): ∃z,(binOp op t (.int k a) (.int k' b)).run P w= .ok z w∧AvR τ w st.r st.b hd bk v z:=by
 cases op<;>simp only [shE]at h<;>try(cases h;done)
 ·simp only [Option.some.injEq,Prod.mk.injEq]at h
  obtain⟨rfl,rfl⟩:=h
  refine⟨.int k (k.wrap (a*2^(min b.toNat k.bits))),?_,Jx (st:=st) hob.2⟩
  have h0: ¬b<0:=by omega
  rw [show binOp .shl t (.int k a) (.int k' b)=Op.shift .shl k a k' b from rfl]
  simp [Op.shift,h0]
 ·simp only [Option.some.injEq,Prod.mk.injEq]at h
  obtain⟨rfl,rfl⟩:=h
  refine⟨.int k (a / 2^(min b.toNat k.bits)),?_,by simp only [AvR]⟩
  have h0: ¬b<0:=by omega
  rw [show binOp .shr t (.int k a) (.int k' b)=Op.shift .shr k a k' b from rfl]
  have hp:(0:Int)≤2^(min b.toNat k.bits):=Int.le_of_lt (Int.pow_pos (by decide))
  simp [Op.shift,h0,Int.fdiv_eq_ediv_of_nonneg _ hp]
theorem zGZ (t:TypeId){a:Int}(h0:0≤a):(binOp .and t (.int .i64 a) (.int .i64 1)).run P w= .ok (.int .i64 (a%2)) w:=by
 have e:(BitVec.ofInt 64 a&&&BitVec.ofInt 64 1).toNat=(a%2).toNat:=by
  rw [BitVec.toNat_and,BitVec.toNat_ofInt,BitVec.toNat_ofInt]
  have :((1:Int)%((2^64:Nat):Int)).toNat=1:=by decide
  rw [this,Nat.and_one_is_mod]
  have h1:(a%((2^64:Nat):Int)).toNat%2=(a%2).toNat:=by
   have :((2^64:Nat):Int)=18446744073709551616:=by decide
   rw [this];omega
  exact h1
 have h2:IntKind.i64.wrap ((a%2).toNat:Int)=a%2:=by rw [zDP (by unfold jH;omega)];omega
 rw [show binOp .and t (.int .i64 a) (.int .i64 1)=Op.intBits .and .i64 a 1 from by simp [binOp]]
 unfold Op.intBits
 simp only [Sem.run_pure]
 exact congrArg (fun m:Int=>Result.ok (Value.int .i64 m) w) ((congrArg (fun m:Nat=>IntKind.i64.wrap (m:Int)) e).trans h2)
theorem jx {k:IntKind}{n:Int}: ∃k' m,(ar k n).1= .int k' m:=by cases k<;>exact⟨_,_,rfl⟩
theorem zAB {k:IntKind}{n:Int}{v:AV}{ob:Prop}(h:some (arC k n)=some (v,ob)): ∃k' m,v= .int k' m:=by
 cases k<;>(cases h;exact⟨_,_,rfl⟩)
theorem KX {op:BinOp}{k:IntKind}{a b:Int}{v:AV}{ob:Prop}(h:shE op k a b=some (v,ob)): ∃k' m,v= .int k' m:=by
 cases op<;>simp only [shE]at h<;>try(cases h;done)
 ·cases h;exact jx
 ·cases h;exact⟨_,_,rfl⟩
theorem uL {op:BinOp}{x y v:AV}{ob:Prop}(h:jz op x y=some (v,ob)):(∃k n,v= .int k n)∨∃b,v= .bool b:=by
 cases x<;>simp only [jz]at h<;>try(cases h)
 rename_i k m
 cases y<;>simp only at h<;>try(cases h)
 rename_i k' m'
 split at h
 ·cases op<;>simp only [VH,Option.map_some,Option.map_none]at h
  case shl=>exact .inl (KX h)
  case shr=>exact .inl (KX h)
  case and=>
   split at h
   ·cases h;exact .inl ⟨_,_,rfl⟩
   ·cases h;exact .inl ⟨_,_,rfl⟩
  case xor=>cases h;exact .inl ⟨_,_,rfl⟩
  case rem=>cases h;exact .inl ⟨_,_,rfl⟩
  all_goals first
   |(cases h;done)
   |(cases h;exact .inr ⟨_,rfl⟩)
   |(obtain⟨k',n',e⟩:=jx (k:=k) (n:=_);rw [Option.some.injEq]at h;have :=congrArg Prod.fst h;rw [e]at this;exact .inl ⟨_,_,this.symm⟩)
   |(have :=congrArg Prod.fst (Option.some.inj h);left;rw [←this];exact jx)
 ·exact .inl (KX h)
theorem zDj {op:BinOp}{x y:AV}{v:AV}{ob:Prop}{u u':Value}(hx:AvR τ w st.r st.b hd bk x u)(hy:AvR τ w st.r st.b hd bk y u')(t:TypeId)(X Y:Operand)
  (h:jz op x y=some (v,ob)) (hob:ob): ∃z,(do eqGuard op t X Y u u';binOp op t u u':Sem Value).run P w= .ok z w∧AvR τ w st.r st.b hd bk v z:=by
 cases x<;>simp only [jz]at h<;>try(cases h)
 rename_i k m
 cases y<;>simp only at h<;>try(cases h)
 rename_i k' m'
 simp only [AvR]at hx hy
 subst hx;subst hy
 have hg0:(eqGuard op t X Y (.int k m) (.int k' m')).run P w= .ok () w:=by
  unfold eqGuard
  cases op<;>simp
 have hsh:shE op k m m'=some (v,ob)→∃z,(do eqGuard op t X Y (.int k m) (.int k' m');binOp op t (.int k m) (.int k' m'):Sem Value).run P w= .ok z w∧AvR τ w st.r st.b hd bk v z:=fun h=>by
  obtain⟨z,hz,hv⟩:=zF8 (P:=P) (w:=w) (st:=st) (τ:=τ) (hd:=hd) (bk:=bk) (k':=k') t h hob
  exact⟨z,by rw [Sem.run_bind,hg0,Result.andThen_ok,hz],hv⟩
 split at h
 ·rename_i hk
  subst hk
  have hg:=hg0
  have hc: ∀b,VH op m m'=some b→(binOp op t (.int k m) (.int k m')).run P w= .ok (.bool b) w:=by
   intro b hb
   have :=zEz (P:=P) (w:=w) hb
   cases op<;>simp [VH]at hb<;>simpa [binOp]using this
  have hcmp: ∀b,VH op m m'=some b→v= .bool b→∃z,(do eqGuard op t X Y (.int k m) (.int k m');binOp op t (.int k m) (.int k m'):Sem Value).run P w= .ok z w∧AvR τ w st.r st.b hd bk v z:=by
   intro b hb hv
   subst hv
   exact⟨.bool b,by simp [Sem.run_bind,hg,hc b hb],by simp only [AvR]⟩
  cases op
  case add=>exact⟨_,by simp [Sem.run_bind,hg,binOp,Op.intArith],Kq (st:=st) h hob⟩
  case sub=>exact⟨_,by simp [Sem.run_bind,hg,binOp,Op.intArith],Kq (st:=st) h hob⟩
  case mul=>exact⟨_,by simp [Sem.run_bind,hg,binOp,Op.intArith],Kq (st:=st) h hob⟩
  case quo=>
   simp only [Option.some.injEq,Prod.mk.injEq]at h
   obtain⟨rfl,rfl⟩:=h
   exact⟨_,by simp [Sem.run_bind,hg,binOp,Op.intDiv,hob.1],Jx (st:=st) hob.2⟩
  case rem=>
   simp only [Option.some.injEq,Prod.mk.injEq]at h
   obtain⟨rfl,rfl⟩:=h
   exact⟨.int k (m.tmod m'),by simp [Sem.run_bind,hg,binOp,Op.intDiv,hob],by simp only [AvR]⟩
  case shl=>exact hsh h
  case shr=>exact hsh h
  case and=>
   simp only at h
   split at h
   ·rename_i hh
    obtain⟨rfl,rfl⟩:=hh
    simp only [Option.some.injEq,Prod.mk.injEq]at h
    obtain⟨rfl,rfl⟩:=h
    exact⟨.int .i64 (m%2),by rw [Sem.run_bind,hg,Result.andThen_ok,zGZ t hob],by simp only [AvR]⟩
   ·simp only [Option.some.injEq,Prod.mk.injEq]at h
    obtain⟨rfl,rfl⟩:=h
    exact⟨.int k (VB k m m'),by simp [Sem.run_bind,hg,binOp,Op.intBits,VB],by simp only [AvR]⟩
  case xor=>
   simp only [Option.some.injEq,Prod.mk.injEq]at h
   obtain⟨rfl,rfl⟩:=h
   exact⟨.int k (xorI k m m'),by simp [Sem.run_bind,hg,binOp,Op.intBits,xorI],by simp only [AvR]⟩
  all_goals
   simp only at h
   cases hb:VH _ m m' with
   |none=>rw [hb]at h;cases h
   |some b=>
    rw [hb]at h
    simp only [Option.map_some,Option.some.injEq,Prod.mk.injEq]at h
    exact hcmp b hb h.1.symm
 ·exact hsh h
theorem zBz (hτ:zx P τ){t:TypeId}{by_:Nat}(ht:tk τ t=some (.sc .bool,by_)){op:BinOp}{x y:AV}{v:AV}{ob:Prop}{u u':Value}(hx:AvR τ w st.r st.b hd bk x u)(hy:AvR τ w st.r st.b hd bk y u')(X Y:Operand)
  (h:Wz op x y=some (v,ob)): ∃z,(do eqGuard op t X Y u u';binOp op t u u':Sem Value).run P w= .ok z w∧AvR τ w st.r st.b hd bk v z:=by
 have hu:P.underlying t=some .bool:=(yM hτ ht).1
 cases x<;>simp only [Wz]at h<;>try(cases h)
 rename_i m
 cases y<;>simp only at h<;>try(cases h)
 rename_i m'
 simp only [AvR]at hx hy
 subst hx;subst hy
 have hg:(eqGuard op t X Y (.bool m) (.bool m')).run P w= .ok () w:=by
  unfold eqGuard
  cases op<;>simp
 cases op<;>simp only at h<;>try(cases h)
 ·have he:(binOp .eql t (.bool m) (.bool m')).run P w= .ok (.bool (m==m')) w:=by
   rw [show binOp .eql t (.bool m) (.bool m')=(do let r←Op.equal t (.bool m) (.bool m');pure (.bool r))from rfl,Sem.run_bind,show Op.equal t (.bool m) (.bool m')=Op.equalIn (9999+1) t (.bool m) (.bool m')from rfl,
    run_equalIn_bool w 9999 t m m' hu,Result.andThen_ok,Sem.run_pure]
  exact⟨.bool (m==m'),by rw [Sem.run_bind,hg,Result.andThen_ok,he],by simp only [AvR]⟩
 ·have he:(binOp .neq t (.bool m) (.bool m')).run P w= .ok (.bool (!(m==m'))) w:=by
   rw [show binOp .neq t (.bool m) (.bool m')=(do let r←Op.equal t (.bool m) (.bool m');pure (.bool !r))from rfl,Sem.run_bind,show Op.equal t (.bool m) (.bool m')=Op.equalIn (9999+1) t (.bool m) (.bool m')from rfl,
    run_equalIn_bool w 9999 t m m' hu,Result.andThen_ok,Sem.run_pure]
  exact⟨.bool (!(m==m')),by rw [Sem.run_bind,hg,Result.andThen_ok,he],by simp only [AvR]⟩
theorem zGK {op:UnOp}{x:AV}{v:AV}{ob:Prop}{u:Value}(hx:AvR τ w st.r st.b hd bk x u)(h:unE op x=some (v,ob))(hob:ob): ∃z,(Op.unary op u).run P w= .ok z w∧AvR τ w st.r st.b hd bk v z:=by
 cases op<;>cases x<;>simp only [unE]at h<;>try(cases h)
 ·simp only [AvR]at hx;subst hx
  rename_i k n
  refine⟨.int k (k.wrap (0 - n)),by simp [Op.unary,Op.intArith],?_⟩
  have :=Kq (τ:=τ) (hd:=hd) (bk:=bk) (st:=st) (w:=w) h hob
  rwa [show -n=0 - n from (Int.zero_sub n).symm]at this
 ·simp only [AvR]at hx;subst hx
  rename_i b
  exact⟨.bool !b,by simp [Op.unary],by simp only [AvR]⟩
theorem QF (h:ze τ lo w0 ow hd bk st a w){d:Nat}{p:List Nat}{R:zr}(hR:lk st.r d=some R)(hp:zk R.xs p){i:Nat}{c:CK}(hc:xK c (yI R.xs p) i)(hsz: ∀e,c= .sl e→0<sz τ e)
  {b o n k:Nat} (hin:yC w (hd d) p=some (.slice (some ⟨b,o,none⟩) n k)): ∃x,w.cell? ⟨b,o+i,none⟩=some x∧AvR τ w st.r st.b hd bk (wt τ d p i (yI R.xs p) c) x:=by
 obtain⟨m',e',u,h1,h2,h3,-⟩:=YP p _ _ _ _ (h.root d R hR) hp
 rw [hin]at h1
 cases h1
 obtain⟨vs,k1,k2⟩:=(zw _ _).1 h2
 have hx: ∃x,(yI R.xs p)[i]? =some x:=by cases c<;>simp only [xK]at hc<;>obtain⟨z,hz⟩:=hc<;>exact⟨_,hz⟩
 obtain⟨x,hx⟩:=hx
 have hlt:i<vs.length:=by rw [k1.1];exact(List.getElem?_eq_some_iff.1 hx).1
 have hu:vs[i]? =some vs[i]:=List.getElem?_eq_getElem hlt
 obtain⟨b',o',n',c',hv',-,-,-,hcell⟩:=qV k1 hu
 cases hv'
 refine⟨vs[i],hcell,?_⟩
 have hk:=k2 i _ _ hx hu
 cases c with
 |int kk=>
  obtain⟨z,hz⟩:=hc
  rw [hz]at hx;cases hx
  simp only [Rp]at hk
  simp only [wt,AvR,XB,hz,hk]
 |bool=>
  obtain⟨z,hz⟩:=hc
  rw [hz]at hx;cases hx
  simp only [Rp]at hk
  simp only [wt,AvR,getB,hz,hk]
 |sl e=>
  obtain⟨ys,hz⟩:=hc
  rw [hz]at hx;cases hx
  have hpos:=hsz e rfl
  have hg:xD (yI R.xs p) i=ys:=by simp only [xD,hz]
  simp only [wt,AvR,hg]
  refine⟨(by obtain⟨A2,n2,c2,e2,-⟩:=xZ hk;exact⟨A2,n2,c2,e2⟩),?_⟩
  intro R' hR' hp'
  rw [hR]at hR';cases hR'
  obtain⟨A2,n2,c2,e2,hl2,hn2,hm2⟩:=xZ hk
  refine⟨vs[i],?_,A2,n2,c2,A2,c2,nw0,e2,?_,?_,?_,hm2,fun _=>⟨rfl,rfl⟩,fun h0=> ?_⟩
  ·have : ∀(q:List Nat) (hv:Value),yC w hv (q++ [i])=(yC w hv q).bind fun u=>yC w u [i]:=by
    intro q
    induction q with
    |nil=>intro hv;rfl
    |cons j q ih=>
     intro hv
     cases hv with
     |slice A n c=>
      cases A with
      |none=>rfl
      |some a=>
       simp only [List.cons_append,yC]
       cases w.cell? ⟨a.block,a.off+j,none⟩with
       |none=>rfl
       |some z=>simpa only [Option.bind_some]using ih z
     |_=>rfl
   rw [this,hin]
   simp only [Option.bind_some,yC,hcell]
  ·rw [hl2,Nat.mul_div_cancel _ hpos];exact e2
  ·rw [hl2,Nat.mul_div_cancel _ hpos];omega
  ·rw [hl2,Nat.mul_div_cancel _ hpos];exact hn2
  ·obtain⟨vs2,q1,q2⟩:=(zw _ _).1 hk
   rw [hl2,Nat.mul_div_cancel _ hpos]at h0
   have hlen:0<vs2.length:=by rw [q1.1,hl2];exact Nat.mul_pos (by omega) hpos
   obtain⟨b2,o2,n3,c3,hv3,-⟩:=qV q1 (List.getElem?_eq_getElem hlen)
   rw [e2]at hv3
   cases hv3
   exact⟨b2,o2,rfl,by simp⟩
end
section
variable {P:Program} {τ:Ty} {lo:Nat} {w0:Fz} {ow:Nat→Option Pl} {hd:Nat→Value} {bk:Nat→Nat} {st:St} {a:Act} {w:World}
theorem Zu (hτ:zx P τ){t:TypeId}{c:CK}{b:Nat}(ht:tk τ t=some (.sc c,b)):(isAgg t).run P w= .ok false w:=by
 have :=(yM hτ ht).1
 unfold isAgg
 rw [Sem.run_bind,run_underlying this,Result.andThen_ok]
 cases c<;>simp [CK.desc]
theorem zAq (hτ:zx P τ){t:TypeId}{cs:List CK}{fs:List (Nat×TypeId)}{b:Nat}(ht:tk τ t=some (.st cs fs,b)):(isAgg t).run P w= .ok true w:=by
 obtain⟨f,hu,-⟩:=yM hτ ht
 unfold isAgg
 rw [Sem.run_bind,run_underlying hu,Result.andThen_ok]
 simp
theorem Wi (hτ:zx P τ){t:TypeId}{c:CK}{b:Nat}(ht:tk τ t=some (.sc c,b)):(sizeOf t).run P w= .ok 1 w:=by
 obtain⟨hu,i,hi,h1,-⟩:=yM hτ ht
 simp [sizeOf,typeInfo,hi,h1]
theorem Wj (hτ:zx P τ){t:TypeId}{cs:List CK}{fs:List (Nat×TypeId)}{b:Nat}(ht:tk τ t=some (.st cs fs,b)):(sizeOf t).run P w= .ok cs.length w:=by
 obtain⟨f,hu,hf,i,hi,h1,-⟩:=yM hτ ht
 simp [sizeOf,typeInfo,hi,h1]
theorem eqF2 (hτ:zx P τ){F:List Field}{t0 t1:TypeId}{k0 k1:IntKind}{b0 b1:Nat}(hF:F.map (fun f=>(f.offset,f.type))= [(0,t0),(1,t1)])(hn: ∀f∈F,f.name≠ "_")(h0:tk τ t0=some (.sc (.int k0),b0))(h1:tk τ t1=some (.sc (.int k1),b1))(d:Nat)(j0 j1:IntKind)(x0 x1 y0 y1:Int):
  (Op.eqFields (d+1) #[.int j0 x0, .int j1 x1] #[.int j0 y0, .int j1 y1] F).run P w= .ok (x0==y0&&x1==y1) w:=by
 obtain⟨f,g,rfl⟩: ∃f g,F= [f,g]:=by
  have hl:F.length=2:=by have :=congrArg List.length hF;simpa using this
  match F,hl with
  | [f,g],_=>exact⟨f,g,rfl⟩
 ·simp only [List.map_cons,List.map_nil,List.cons.injEq,Prod.mk.injEq,and_true]at hF
  obtain⟨⟨o0,e0⟩,o1,e1⟩:=hF
  have n0:=hn f (by simp)
  have n1:=hn g (by simp)
  have u0:P.underlying t0=some (.int k0):=(yM hτ h0).1
  have u1:P.underlying t1=some (.int k1):=(yM hτ h1).1
  have q0: ∀(v:Value) (xs:Array Value),xs[0]? =some v→(part f.type xs f.offset).run P w= .ok v w:=fun v xs h=>by
   unfold part
   rw [o0,e0,Sem.run_bind,Zu hτ h0,Result.andThen_ok]
   simp [h]
  have q1: ∀(v:Value) (xs:Array Value),xs[1]? =some v→(part g.type xs g.offset).run P w= .ok v w:=fun v xs h=>by
   unfold part
   rw [o1,e1,Sem.run_bind,Zu hτ h1,Result.andThen_ok]
   simp [h]
  unfold Op.eqFields
  rw [if_pos n0,Sem.run_bind,q0 (.int j0 x0) _ rfl,Result.andThen_ok,Sem.run_bind,q0 (.int j0 y0) _ rfl,Result.andThen_ok,Sem.run_bind,e0,run_equalIn_int w d t0 j0 k0 x0 y0 u0,Result.andThen_ok]
  cases hxy:x0==y0
  ·simp
  ·simp only [Bool.not_true,Bool.false_eq_true,if_false,Bool.true_and]
   unfold Op.eqFields
   rw [if_pos n1,Sem.run_bind,q1 (.int j1 x1) _ rfl,Result.andThen_ok,Sem.run_bind,q1 (.int j1 y1) _ rfl,Result.andThen_ok,Sem.run_bind,e1,run_equalIn_int w d t1 j1 k1 x1 y1 u1,Result.andThen_ok]
   cases hxy2:x1==y1
   ·simp
   ·simp [Op.eqFields]
theorem zDd (hτ:zx P τ){t:TypeId}{cs:List CK}{fs:List (Nat×TypeId)}{by_:Nat}(ht:tk τ t=some (.st cs fs,by_)){op:BinOp}{x y:AV}{v:AV}{ob:Prop}{u u':Value}(hx:AvR τ w st.r st.b hd bk x u)(hy:AvR τ w st.r st.b hd bk y u')(X Y:Operand)
  (h:ju τ cs fs op x y=some (v,ob)): ∃z,(do eqGuard op t X Y u u';binOp op t u u':Sem Value).run P w= .ok z w∧AvR τ w st.r st.b hd bk v z:=by
 unfold ju at h
 split at h
 ·rename_i kA kB t0 t1 j0 xa j1 xb j2 xc j3 xd
  split at h
  ·rename_i k0 b0 k1 b9 h0 h1
   split at h
   ·rename_i hj
    obtain⟨rfl,rfl⟩:=hj
    simp only [AvR,zY]at hx hy
    obtain⟨_,rfl,_,_,rfl,rfl,_,_,rfl,rfl,rfl⟩:=hx
    obtain⟨_,rfl,_,_,rfl,rfl,_,_,rfl,rfl,rfl⟩:=hy
    obtain⟨F,hu,hF,_,_,_,_,_,_,_,hnew⟩:=yM hτ ht
    obtain⟨n1,n2,n3⟩:=hnew rfl
    have hfo:P.fieldsOf t=F:=by unfold Program.fieldsOf;rw [hu]
    have hE:(Op.equalIn 10000 t (.agg #[.int j0 xa, .int j1 xb]) (.agg #[.int j0 xc, .int j1 xd])).run P w= .ok (xa==xc&&xb==xd) w:=(run_equalIn_agg w 9999 t _ _ (by rw [hfo];exact hu) n1).trans (by rw [hfo];exact eqF2 hτ hF n3 h0 h1 9998 _ _ _ _ _ _)
    have hG:=fun op=>run_eqGuard_agg w op t X Y #[.int j0 xa, .int j1 xb] #[.int j0 xc, .int j1 xd] n2
    split at h
    ·cases h
     exact⟨.bool (xa==xc&&xb==xd),by rw [Sem.run_bind,hG,Result.andThen_ok];refine(run_eql_struct w t _ _).trans ?_;rw [hE,Result.andThen_ok],by simp only [AvR]⟩
    ·cases h
     exact⟨.bool (!(xa==xc&&xb==xd)),by rw [Sem.run_bind,hG,Result.andThen_ok];refine(run_neq_struct w t _ _).trans ?_;rw [hE,Result.andThen_ok],by simp only [AvR]⟩
    ·cases h
   ·cases h
  ·cases h
 ·cases h
theorem Xg {p:Addr}{v:Value}(h:w.cell? p=some v):(load p).run P w= .ok v w:=by rw [run_load,h]
theorem Jh (h:ze τ lo w0 ow hd bk st a w){d:Nat}{p:List Nat}{R:zr}(hR:lk st.r d=some R)(hp:zk R.xs p){b o n k:Nat}(hin:yC w (hd d) p=some (.slice (some ⟨b,o,none⟩) n k)):
  ∀(cs:List CK) (i:Nat),(∀e,CK.sl e∈cs→0<sz τ e)→UN (yI R.xs p) i cs→∃vs:List Value,vs.length=cs.length∧(∀j v,vs[j]? =some v→w.cell? ⟨b,o+i+j,none⟩=some v)∧zY τ w st.r st.b hd bk (vg τ d p (yI R.xs p) i cs) vs
 | [],i,_,_=>⟨[],rfl,fun j v h=>by simp at h,by simp [vg,zY]⟩
 |c::cs,i,hs,hc=>by
  obtain⟨hc1,hc2⟩:=hc
  obtain⟨x,hx,hv⟩:=QF h hR hp hc1 (fun e he=>hs e (by simp [he])) hin
  obtain⟨vs,h1,h2,h3⟩:=Jh h hR hp hin cs (i+1) (fun e he=>hs e (by simp [he])) hc2
  refine⟨x::vs,by simp [h1],fun j v hj=> ?_,?_⟩
  ·cases j with
   |zero=>simp at hj;subst hj;simpa using hx
   |succ j=>have :=h2 j v (by simpa using hj);rwa [show o+i+(j+1)=o+(i+1)+j from by omega]
  ·simp only [vg,zY];exact⟨x,vs,rfl,hv,h3⟩
def yL (τ:Ty):Prop:= ∀t k b,lk τ t=some (k,b)→∀e,CK.sl e∈k.cells→0<sz τ e
theorem Jm (hτ:zx P τ)(hpos:yL τ)(h:ze τ lo w0 ow hd bk st a w){t:TypeId}{x:AV}{u:Value}(hx:AvR τ w st.r st.b hd bk x u){v:AV}{ob:Prop}(he:qu τ st t x=some (v,ob))(hob:ob):
  ∃z,(Instr.loadAt t u).run P w= .ok z w∧AvR τ w st.r st.b hd bk v z:=by
 cases x<;>simp only [qu]at he<;>try(cases he)
 case ep d p i=>
  cases hR:lk st.r d with
  |none=>rw [hR]at he;cases he
  |some R=>
   rw [hR]at he
   cases ht:tk τ t with
   |none=>rw [ht]at he;cases he
   |some k=>
    rw [ht]at he
    obtain⟨k,by_⟩:=k
    cases k with
    |sc c=>
     simp only [Option.some.injEq,Prod.mk.injEq]at he
     obtain⟨rfl,rfl⟩:=he
     obtain⟨hp,hc⟩:=hob
     simp only [AvR]at hx
     obtain⟨b,o,n,c',hin,rfl⟩:=hx.2 R hR hp
     obtain⟨z,hz,hv⟩:=QF h hR hp hc (fun e he=>hpos t _ _ ht e (by simp [TK.cells,he])) hin
     refine⟨z,?_,hv⟩
     simp only [Instr.loadAt,Instr.sureAddr,pure_bind,loadVar,Sem.run_bind,Zu hτ ht,Result.andThen_ok,Bool.false_eq_true,if_false,Xg hz,Sem.run_pure]
    |st ks fs=>
     simp only [Option.some.injEq,Prod.mk.injEq]at he
     obtain⟨rfl,rfl⟩:=he
     obtain⟨hp,hc⟩:=hob
     simp only [AvR]at hx
     obtain⟨b,o,n,c',hin,rfl⟩:=hx.2 R hR hp
     obtain⟨vs,h1,h2,h3⟩:=Jh h hR hp hin ks i (fun e he=>hpos t _ _ ht e (by simpa [TK.cells]using he)) hc
     refine⟨.agg vs.toArray,?_,by simp only [AvR];exact⟨vs,rfl,h3⟩⟩
     have hl:=run_loadCells_list (P:=P) w ⟨b,o+i,none⟩ vs (fun j v hj=>by rw [Addr.add_lit];exact h2 j v hj)
     rw [h1]at hl
     simp only [Instr.loadAt,Instr.sureAddr,pure_bind,loadVar,Sem.run_bind,zAq hτ ht,Result.andThen_ok,if_true,Wj hτ ht,hl,Sem.run_pure]
 case bp b i=>
  cases hB:lk st.b b with
  |none=>rw [hB]at he;cases he
  |some cs=>
   rw [hB]at he
   obtain⟨vs,ty,hg,-,hvs⟩:=h.box b cs hB
   obtain⟨hl,hvs⟩:=zp.1 hvs
   simp only [AvR]at hx
   have hu:=hx.2 ⟨cs,hB⟩
   subst hu
   have hcell: ∀j,j<vs.length→w.cell? ⟨bk b,j,none⟩=vs[j]? :=fun j hj=>by rw [cell_of_row w (bk b) j _ _ _ hg];simp
   cases ht:tk τ t with
   |none=>rw [ht]at he;cases he
   |some k=>
    rw [ht]at he
    obtain⟨k,by_⟩:=k
    cases k with
    |sc c=>
     simp only [Option.some.injEq,Prod.mk.injEq]at he
     obtain⟨rfl,rfl⟩:=he
     have hi:i<vs.length:=by rw [hl];exact hob
     refine⟨vs[i],?_,?_⟩
     ·have :=hcell i hi
      rw [List.getElem?_eq_getElem hi]at this
      simp only [Instr.loadAt,Instr.sureAddr,pure_bind,loadVar,Sem.run_bind,Zu hτ ht,Result.andThen_ok,Bool.false_eq_true,if_false,Xg this,Sem.run_pure]
     ·have :cs[i]? =some (cs.getD i .dead):=by rw [List.getD_eq_getElem?_getD,List.getElem?_eq_getElem hob];rfl
      exact hvs i _ _ this (List.getElem?_eq_getElem hi)
    |st ks fs=>
     simp only [Option.some.injEq,Prod.mk.injEq]at he
     obtain⟨rfl,rfl⟩:=he
     refine⟨.agg ((vs.drop i).take ks.length).toArray,?_,?_⟩
     ·have hlen:((vs.drop i).take ks.length).length=ks.length:=by rw [List.length_take,List.length_drop,hl];omega
      have hl2:=run_loadCells_list (P:=P) w ⟨bk b,i,none⟩ ((vs.drop i).take ks.length) (fun j v hj=>by
       rw [Addr.add_lit]
       rw [List.getElem?_take]at hj
       split at hj
       ·rw [List.getElem?_drop]at hj
        rw [hcell (i+j) (by rw [hl];omega)]
        exact hj
       ·cases hj)
      rw [hlen]at hl2
      simp only [Instr.loadAt,Instr.sureAddr,pure_bind,loadVar,Sem.run_bind,zAq hτ ht,Result.andThen_ok,if_true,Wj hτ ht,hl2,Sem.run_pure]
     ·simp only [AvR]
      refine⟨_,rfl,zp.2 ⟨by simp [hl],fun j v x hv hx=> ?_⟩⟩
      rw [List.getElem?_take]at hv hx
      split at hv
      ·rename_i hj
       rw [if_pos hj,List.getElem?_drop]at hx
       rw [List.getElem?_drop]at hv
       exact hvs _ _ _ hv hx
      ·cases hv
theorem xf (hτ:zx P τ){t:TypeId}(h:sz τ t≠0):(sizeOf t).run P w= .ok (sz τ t) w:=by
 cases ht:tk τ t with
 |none=>exfalso;apply h;unfold tk at ht;simp [sz,cks,ht]
 |some k=>
  obtain⟨k,b⟩:=k
  cases k with
  |sc c=>rw [Yk ht];exact Wi hτ ht
  |st cs fs=>rw [Ud ht];exact Wj hτ ht
theorem Va {d:Nat}{p:List Nat}{v v':AV}{ob ob':Prop}(h:onR st d p v ob=some (v',ob'))(hob:ob'):v'=v∧ob∧∃R,lk st.r d=some R∧zk R.xs p:=by
 unfold onR at h
 cases hR:lk st.r d with
 |none=>rw [hR]at h;cases h
 |some R=>
  rw [hR]at h
  simp only [Option.some.injEq,Prod.mk.injEq]at h
  obtain⟨rfl,rfl⟩:=h
  exact⟨rfl,hob.2,R,rfl,hob.1⟩
theorem kL (hτ:zx P τ){f:Field}{p:Addr}(h:sz τ f.type≠0):(fieldPlace p f).run P w= .ok (p.add f.offset) w:=by
 unfold fieldPlace
 rw [Sem.run_bind,xf hτ h,Result.andThen_ok,if_neg h,Sem.run_pure]
theorem zAY (hτ:zx P τ){t:TypeId}{f:Nat}{x:AV}{u:Value}(hx:AvR τ w st.r st.b hd bk x u){v:AV}{ob:Prop}(he:ZZ τ st t f x=some (v,ob))(hob:ob):
  ∃z,(Instr.fieldAt t u f).run P w= .ok z w∧AvR τ w st.r st.b hd bk v z:=by
 unfold ZZ at he
 split at he
 ·rename_i ks fs by_ ht
  obtain⟨F,hu,hF,-⟩:=yM hτ ht
  split at he
  ·rename_i k hk
   obtain⟨g,hg,ho,hz⟩: ∃g:Field,F[f]? =some g∧g.offset=k∧sz τ g.type≠0:=by
    unfold zAZ at hk
    split at hk
    ·rename_i y hy
     split at hk
     ·cases hk
     ·rename_i hz
      cases hk
      rw [←hF,List.getElem?_map]at hy
      cases hg:F.toList[f]? with
      |none=>rw [hg]at hy;cases hy
      |some g=>rw [hg]at hy;cases hy;exact⟨g,by simpa using hg,rfl,hz⟩
    ·cases hk
   have run: ∀p:Addr,(Instr.fieldAt t (.pointer (some p)) f).run P w= .ok (.pointer (some (p.add k))) w:=fun p=>by
    unfold Instr.fieldAt
    simp only [Sem.run_bind,run_underlying hu,Result.andThen_ok,hg,Instr.sureAddr,Sem.run_pure,kL hτ hz,ho]
   split at he
   ·rename_i b i
    split at he
    ·rename_i cs hB
     simp only [Option.some.injEq,Prod.mk.injEq]at he
     obtain⟨rfl,rfl⟩:=he
     simp only [AvR]at hx
     have :=hx.2 ⟨_,hB⟩
     subst this
     exact⟨_,run _,by simp only [AvR,Addr.add_lit];exact⟨⟨_,rfl⟩,fun _=>trivial⟩⟩
    ·cases he
   ·rename_i d p i
    obtain⟨rfl,-,R,hR,hp⟩:=Va he hob
    simp only [AvR]at hx
    obtain⟨b,o,n,c,hin,rfl⟩:=hx.2 R hR hp
    refine⟨_,run _,?_⟩
    simp only [AvR,Addr.add_lit]
    refine⟨⟨_,rfl⟩,?_⟩
    intro R' hR' hp'
    exact⟨b,o,n,c,hin,by rw [Nat.add_assoc]⟩
   ·cases he
  ·cases he
 ·cases he
theorem zAo (hτ:zx P τ)(hpos:yL τ){t:TypeId}{x ix:AV}{u i:Value}(hx:AvR τ w st.r st.b hd bk x u)(hi:AvR τ w st.r st.b hd bk ix i){v:AV}{ob:Prop}(he:Zc τ st t x ix=some (v,ob))(hob:ob):
  ∃z,(Instr.indexAt t u i).run P w= .ok z w∧AvR τ w st.r st.b hd bk v z:=by
 unfold Zc at he
 split at he
 ·rename_i e by_ ht
  have hu:P.underlying t=some (.slice e):=(yM hτ ht).1
  have hz:0<sz τ e:=hpos t _ _ ht e (by simp [TK.cells])
  split at he
  ·rename_i d p off len e' k n
   split at he
   ·rename_i hee
    subst hee
    obtain⟨rfl,⟨h0,h1⟩,R,hR,hp⟩:=Va he hob
    simp only [AvR]at hx hi
    subst hi
    obtain⟨hv,hin,A,m,c,A',c',hnw,e1,e2,hle,hlc,hmx,hf0,hA⟩:=hx.2 R hR hp
    obtain⟨b,o,hA1,hA2⟩:=hA (by omega)
    subst e1;subst e2;subst hA1;subst hA2
    refine⟨.pointer (some ⟨b,o+(off+n.toNat)*sz τ e,none⟩),?_,?_⟩
    ·unfold Instr.indexAt
     simp only [Sem.run_bind,asIntOf,Sem.run_pure,Result.andThen_ok,run_underlying hu,xf hτ (by omega:sz τ e≠0)]
     rw [if_pos ⟨h0,h1⟩]
     simp only [Sem.run_bind,xf hτ (by omega:sz τ e≠0),Result.andThen_ok,Sem.run_pure,Addr.add_lit]
     rw [Nat.add_mul,←Nat.add_assoc]
    ·simp only [AvR]
     refine⟨⟨_,rfl⟩,?_⟩
     intro R' hR' hp'
     exact⟨b,o,m,c,hin,rfl⟩
   ·cases he
  ·cases he
 ·cases he
theorem Je {x:Option Operand}{d y:Nat}{l:Nat}{pl:Prop}{code:BoundsCode}(h:ze τ lo w0 ow hd bk st a w)(he:ZX st x d=some (l,pl))(hpl:pl)(hle:l≤y):
  (match x.map a.eval with|some v=>Instr.sliceBound v y code|none=>pure d).run P w= .ok l w:=by
 cases x with
 |none=>simp only [ZX,Option.some.injEq,Prod.mk.injEq]at he;obtain⟨rfl,rfl⟩:=he;simp
 |some x=>
  simp only [ZX]at he
  have :=zZ h x
  split at he
  ·rename_i k n hev
   simp only [Option.some.injEq,Prod.mk.injEq]at he
   obtain⟨rfl,rfl⟩:=he
   rw [hev]at this
   simp only [AvR]at this
   simp only [Option.map_some,this,Instr.sliceBound,Sem.run_bind,asIntOf,Sem.run_pure,Result.andThen_ok]
   rw [if_pos ⟨hpl,by omega⟩]
   simp
  ·cases he
theorem zBX (hτ:zx P τ)(hpos:yL τ)(h:ze τ lo w0 ow hd bk st a w){t:TypeId}{x:AV}{u:Value}(hx:AvR τ w st.r st.b hd bk x u){l r:Option Operand}{v:AV}{ob:Prop}(he:Zg τ st t x l r=some (v,ob))(hob:ob):
  ∃z,(Instr.sliceAt t u (l.map a.eval) (r.map a.eval) none).run P w= .ok z w∧AvR τ w st.r st.b hd bk v z:=by
 unfold Zg at he
 split at he
 ·rename_i e by_ ht
  have hu:P.underlying t=some (.slice e):=(yM hτ ht).1
  have hz:0<sz τ e:=hpos t _ _ ht e (by simp [TK.cells])
  split at he
  ·rename_i d p off len e'
   split at he
   ·rename_i l' pl h' ph hl hh
    split at he
    ·rename_i hee
     subst hee
     obtain⟨rfl,⟨hpl,hph,hlh,hhl⟩,R,hR,hp⟩:=Va he hob
     simp only [AvR]at hx
     obtain⟨hv,hin,A,m,c,A',c',hnw,e1,e2,hle,hlc,hmx,hf0,hA⟩:=hx.2 R hR hp
     subst e1;subst e2
     have b1:=Je (P:=P) (y:=c') (code:= .sliceAcap) h hh hph (by omega)
     have b2:=Je (P:=P) (y:=h') (code:= .sliceB) h hl hpl hlh
     refine⟨.slice (if c'=l' then A' else A'.map (·.add (l'*sz τ e))) (h' - l') (c' - l'),?_,?_⟩
     ·unfold Instr.sliceAt
      simp only [Sem.run_bind,run_underlying hu,Result.andThen_ok,Instr.slice,Instr.sliceBounds,Sem.run_pure]
      cases r with
      |none=>
       simp only [Option.map_none,Sem.run_pure]at b1⊢
       simp only [Result.ok.injEq]at b1
       obtain⟨rfl,-⟩:=b1
       cases l with
       |none=>simp only [Option.map_none,Sem.run_pure]at b2⊢;simp only [Result.ok.injEq]at b2;obtain⟨rfl,-⟩:=b2;simp only [Sem.run_bind,Sem.run_pure,Result.andThen_ok,xf hτ (by omega:sz τ e≠0)]
       |some l=>simp only [Option.map_some,Option.isSome_none,Bool.false_eq_true,if_false]at b2⊢;simp only [Sem.run_bind,Sem.run_pure,Result.andThen_ok,b2,xf hτ (by omega:sz τ e≠0)]
      |some r=>
       simp only [Option.map_some,if_true]at b1⊢
       cases l with
       |none=>simp only [Option.map_none,Sem.run_pure]at b2⊢;simp only [Result.ok.injEq]at b2;obtain⟨rfl,-⟩:=b2;simp only [Sem.run_bind,Sem.run_pure,Result.andThen_ok,b1,xf hτ (by omega:sz τ e≠0)]
       |some l=>simp only [Option.map_some,Option.isSome_none,Bool.false_eq_true,if_false]at b2⊢;simp only [Sem.run_bind,Sem.run_pure,Result.andThen_ok,b1,b2,xf hτ (by omega:sz τ e≠0)]
     ·simp only [AvR]
      refine⟨⟨_,_,_,rfl⟩,?_⟩
      intro R' hR' hp'
      rw [hR]at hR';cases hR'
      refine⟨_,hin,A,m,c,_,_,⟨by omega,fun b o hA1 hc0=> ?_⟩,rfl,rfl,by omega,by omega,by omega,fun h0=> ?_,fun h0=> ?_⟩
      ·have hA2:=hnw.2 b o hA1 (by omega)
       rw [if_neg (by omega),hA2]
       simp only [Option.map_some,Addr.add_lit]
       rw [Nat.add_mul,←Nat.add_assoc]
      ·have h1:off=0:=by omega
       have h2:l'=0:=by omega
       obtain⟨rfl,rfl⟩:=hf0 h1
       subst h2
       refine⟨?_,by omega⟩
       split
       ·rfl
       ·rw [Nat.zero_mul]
        cases A' with
        |none=>rfl
        |some a'=>simp [Addr.add]
      ·obtain⟨b,o,hA1,hA2⟩:=hA (by omega)
       subst hA1;subst hA2
       refine⟨b,o,rfl,?_⟩
       rw [if_neg (by omega)]
       simp only [Option.map_some,Addr.add_lit]
       rw [Nat.add_mul,←Nat.add_assoc]
    ·cases he
   ·cases he
  ·cases he
 ·cases he
end
section
variable {P:Program} {τ:Ty} {lo:Nat} {w0:Fz} {ow:Nat→Option Pl} {hd:Nat→Value} {bk:Nat→Nat} {st:St} {a:Act} {w:World}
theorem uW (off:Nat): ∀(xs:List Value) (k:Nat) (cs:Array Value) (i:Nat),off+k+xs.length≤cs.size→
  ((xs.zipIdx k).foldl (fun cs (x:Value×Nat)=>cs.setIfInBounds (off+x.2) x.1) cs)[i]? =if off+k≤i∧i<off+k+xs.length then xs[i - (off+k)]? else cs[i]?
 | [],k,cs,i,_=>by simp;intro h;omega
 |x::xs,k,cs,i,h=>by
  simp only [List.length_cons]at h
  rw [List.zipIdx_cons,List.foldl_cons,uW off xs (k+1) _ i (by simp;omega)]
  by_cases h1:off+(k+1)≤i∧i<off+(k+1)+xs.length
  ·rw [if_pos h1,if_pos (by simp;omega),show i - (off+k)=(i - (off+(k+1)))+1 from by omega]
   simp
  ·rw [if_neg h1,Array.getElem?_setIfInBounds]
   by_cases h2:off+k=i
   ·rw [if_pos h2,if_pos (by omega),if_pos (by simp;omega),show i - (off+k)=0 from by omega]
    simp
   ·rw [if_neg h2,if_neg (by simp;omega)]
theorem ZG {α:Type}{cells:List α}{off:Nat}{vs:List α}(h:off+vs.length≤cells.length):(lay cells off vs).length=cells.length:=by
 unfold lay;simp;omega
theorem XF {α:Type}{cells:List α}{off:Nat}{vs:List α}(h:off+vs.length≤cells.length)(i:Nat):(lay cells off vs)[i]? =if off≤i∧i<off+vs.length then vs[i - off]? else cells[i]? :=by
 unfold lay
 have hl:(cells.take off).length=off:=by rw [List.length_take];omega
 by_cases h1:i<off
 ·rw [if_neg (by omega),List.append_assoc,List.getElem?_append_left (by omega),List.getElem?_take,if_pos h1]
 ·by_cases h2:i<off+vs.length
  ·rw [if_pos (by omega),List.append_assoc,List.getElem?_append_right (by omega),List.getElem?_append_left (by omega),hl]
  ·rw [if_neg (by omega),List.getElem?_append_right (by rw [List.length_append];omega),List.getElem?_drop,List.length_append,hl]
   congr 1
   omega
theorem xu {v:AV}{vs:List AV}{u:Value}(h:fieldsOf v=some vs)(hv:AvR τ w st.r st.b hd bk v u): ∃us:List Value,u.cells=us.toArray∧zY τ w st.r st.b hd bk vs us:=by
 cases v<;>simp only [fieldsOf]at h<;>try(cases h)
 case agg=>simp only [AvR]at hv;obtain⟨cs,rfl,hc⟩:=hv;exact⟨cs,rfl,hc⟩
 case int=>simp only [AvR]at hv;subst hv;exact⟨[_],rfl,by simp [zY,AvR]⟩
 case bool=>simp only [AvR]at hv;subst hv;exact⟨[_],rfl,by simp [zY,AvR]⟩
 case nil=>simp only [AvR]at hv;subst hv;exact⟨[_],rfl,by simp [zY,AvR]⟩
 case fn=>have hv2:=hv;simp only [AvR]at hv;obtain⟨cs,rfl,hc⟩:=hv;exact⟨[_],rfl,by simp only [zY];exact⟨_,_,rfl,hv2,rfl⟩⟩
 case sl=>have hv2:=hv;simp only [AvR]at hv;obtain⟨⟨A,n,c,rfl⟩,hc⟩:=hv;exact⟨[_],rfl,by simp only [zY];exact⟨_,_,rfl,hv2,rfl⟩⟩
 case ep=>have hv2:=hv;simp only [AvR]at hv;obtain⟨⟨A,rfl⟩,hc⟩:=hv;exact⟨[_],rfl,by simp only [zY];exact⟨_,_,rfl,hv2,rfl⟩⟩
 case bp=>have hv2:=hv;simp only [AvR]at hv;obtain⟨⟨A,rfl⟩,hc⟩:=hv;exact⟨[_],rfl,by simp only [zY];exact⟨_,_,rfl,hv2,rfl⟩⟩
theorem qb {vs:List AV}{us:List Value}(h:zY τ w st.r st.b hd bk vs us):us.length=vs.length:=(zp.1 h).1
theorem ug {cells vs:List AV}{us cs:List Value}{off:Nat}(h:off+vs.length≤cells.length)(hc:zY τ w st.r st.b hd bk cells cs)(hv:zY τ w st.r st.b hd bk vs us):
  zY τ w st.r st.b hd bk (lay cells off vs) (lay cs off us):=by
 obtain⟨c1,c2⟩:=zp.1 hc
 obtain⟨v1,v2⟩:=zp.1 hv
 refine zp.2 ⟨by rw [ZG h,ZG (by omega),c1],fun i v x hi hx=> ?_⟩
 rw [XF h]at hi
 rw [XF (by omega)]at hx
 rw [v1]at hx
 split at hi
 ·rename_i hh;rw [if_pos hh]at hx;exact v2 _ _ _ hi hx
 ·rename_i hh;rw [if_neg hh]at hx;exact c2 _ _ _ hi hx
theorem zAe (off:Nat)(us cs:List Value)(h:off+us.length≤cs.length):(us.toArray.zipIdx.foldl (fun cs (x:Value×Nat)=>cs.setIfInBounds (off+x.2) x.1) cs.toArray)=(lay cs off us).toArray:=by
 have h0:us.toArray.zipIdx.foldl (fun cs (x:Value×Nat)=>cs.setIfInBounds (off+x.2) x.1) cs.toArray=(us.zipIdx 0).foldl (fun cs (x:Value×Nat)=>cs.setIfInBounds (off+x.2) x.1) cs.toArray:=by
  rw [←Array.foldl_toList,Array.toList_zipIdx]
 rw [h0]
 apply Array.ext_getElem?
 intro i
 rw [uW off us 0 cs.toArray i (by simpa using h),List.getElem?_toArray,List.getElem?_toArray,XF h,Nat.add_zero]
theorem zFw {fs:List Field}(h: ∀f∈fs,(P.info? f.type).isSome=true): ∃places,fs.mapM (fun f=>(P.info? f.type).map fun i=>(f.offset,i.size))=some places∧
  ∀(i:Nat) (f:Field),fs[i]? =some f→∃j,P.info? f.type=some j∧places[i]? =some (f.offset,j.size):=by
 induction fs with
 |nil=>exact⟨[],by simp,fun i f h=>by simp at h⟩
 |cons f fs ih=>
  obtain⟨ps,h1,h2⟩:=ih fun g hg=>h g (by simp [hg])
  obtain⟨j,hj⟩:=Option.isSome_iff_exists.1 (h f (by simp))
  refine⟨(f.offset,j.size)::ps,by simp [List.mapM_cons,hj,h1],fun i g hg=> ?_⟩
  cases i with
  |zero=>simp at hg;subst hg;exact⟨j,hj,rfl⟩
  |succ i=>exact h2 i g (by simpa using hg)
theorem zJa (hτ:zx P τ){t:TypeId}(h:sz τ t≠0){i:TypeInfo}(hi:P.info? t=some i):i.size=sz τ t:=by
 have :=xf (w:=default) hτ h
 simp [sizeOf,typeInfo,hi]at this
 exact this
theorem QT (c:CK):AvR τ w st.r st.b hd bk (wa c) c.zero:=by cases c<;>simp only [wa,CK.zero,AvR]
theorem jC (hτ:zx P τ){F:List Field}{places:List (Nat×Nat)}(hp: ∀(i:Nat) (f:Field),F[i]? =some f→∃j,P.info? f.type=some j∧places[i]? =some (f.offset,j.size)):
  ∀(parts:List (Nat×AV)) (vals:List (Nat×Value)) (cells:List AV) (cs:List Value) (out:List AV),vY τ (F.map fun f=>(f.offset,f.type)) cells parts=some out→
   vals.length=parts.length→(∀(k:Nat) (x:Nat×AV) (y:Nat×Value),parts[k]? =some x→vals[k]? =some y→x.1=y.1∧AvR τ w st.r st.b hd bk x.2 y.2)→zY τ w st.r st.b hd bk cells cs→
   ∃os:List Value,Instr.fill (places[·]?) cs.toArray vals=some os.toArray∧zY τ w st.r st.b hd bk out os
 | [],vals,cells,cs,out,h,hl,_,hc=>by
  have :vals= []:=List.eq_nil_of_length_eq_zero hl
  subst this
  simp only [vY,Option.some.injEq]at h
  subst h
  exact⟨cs,rfl,hc⟩
 |(i,v)::parts,vals,cells,cs,out,h,hl,hv,hc=>by
  cases vals with
  |nil=>simp at hl
  |cons y vals=>
   obtain⟨i',u⟩:=y
   obtain⟨hii,hvu⟩:=hv 0 (i,v) (i',u) rfl rfl
   simp only at hii hvu
   subst hii
   simp only [vY]at h
   split at h
   ·rename_i x vs hx hvs
    split at h
    ·rename_i hcond
     rw [List.getElem?_map]at hx
     cases hf:F[i]? with
     |none=>rw [hf]at hx;cases hx
     |some f=>
      rw [hf]at hx
      simp only [Option.map_some,Option.some.injEq]at hx
      subst hx
      simp only at hcond
      obtain⟨j,hj,hpl⟩:=hp i f hf
      have hsz:=zJa hτ hcond.2.1 hj
      obtain⟨us,hus,hur⟩:=xu hvs hvu
      have hul:=qb hur
      have hcl:=qb hc
      obtain⟨os,ho1,ho2⟩:=jC hτ hp parts vals (lay cells f.offset vs) (lay cs f.offset us) out h (by simpa using hl) (fun k x y hx hy=>hv (k+1) x y (by simpa using hx) (by simpa using hy)) (ug hcond.2.2 hc hur)
      refine⟨os,?_,ho2⟩
      simp only [Instr.fill,hpl,hus]
      rw [if_neg (by simp only [List.size_toArray,ne_eq,Bool.or_eq_true,decide_eq_true_eq,gt_iff_lt];omega)]
      rw [zAe _ _ _ (by omega)]
      exact ho1
    ·cases h
   ·cases h
theorem zAK (hτ:zx P τ)(h:ze τ lo w0 ow hd bk st a w){t:TypeId}{parts:Array (Nat×Operand)}{v:AV}{ob:Prop}(he:QY τ t (parts.toList.map fun x=>(x.1,ev st x.2))=some (v,ob)):
  ∃z,(Instr.build t (parts.map fun(i,x)=>(i,a.eval x))).run P w= .ok z w∧AvR τ w st.r st.b hd bk v z:=by
 unfold QY at he
 split at he
 ·rename_i ks fs by_ ht
  cases hf:vY τ fs (ks.map wa) (parts.toList.map fun x=>(x.1,ev st x.2))with
  |none=>rw [hf]at he;cases he
  |some out=>
   rw [hf]at he
   simp only [Option.map_some,Option.some.injEq,Prod.mk.injEq]at he
   obtain⟨rfl,rfl⟩:=he
   obtain⟨F,hu,hF,i,hi,hs,hz,hby,hb0,hinfo,-⟩:=yM hτ ht
   obtain⟨places,hp1,hp2⟩:=zFw hinfo
   rw [←hF]at hf
   obtain⟨os,ho1,ho2⟩:=jC (st:=st) (hd:=hd) (bk:=bk) (w:=w) hτ hp2 _ ((parts.toList.map fun x=>(x.1,a.eval x.2))) (ks.map wa) (ks.map CK.zero) out hf (by simp) (fun k x y hx hy=>by
    rw [List.getElem?_map]at hx hy
    cases hk:parts.toList[k]? with
    |none=>rw [hk]at hx;cases hx
    |some p=>rw [hk]at hx hy;cases hx;cases hy;exact⟨rfl,zZ h _⟩) (zp.2 ⟨by simp,fun k v x hv hx=>by
    rw [List.getElem?_map]at hv hx
    cases hk:ks[k]? with
    |none=>rw [hk]at hv;cases hv
    |some c=>rw [hk]at hv hx;cases hv;cases hx;exact QT c⟩)
   refine⟨.agg os.toArray,run_build w t _ _ ?_,by simp only [AvR];exact⟨os,rfl,ho2⟩⟩
   unfold Program.built
   simp only [hi,hu,hz,hp1]
   have :(Array.map (fun(x:Nat×Operand)=>(x.1,a.eval x.2)) parts).toList=parts.toList.map fun x=>(x.1,a.eval x.2):=by simp
   rw [this]
   simpa [Value.cells]using ho1
 ·cases he
theorem zD3 (hτ:zx P τ){t e:TypeId}{by_:Nat}(ht:tk τ t=some (.sc (.sl e),by_)){x:AV}{u:Value}(hx:AvR τ w st.r st.b hd bk x u){v:AV}{ob:Prop}(he:VR st x=some (v,ob))(hob:ob)(ty:TypeId):
  ∃z,(Builtin.len_ #[t] ty #[u]).run P w= .ok z w∧AvR τ w st.r st.b hd bk v z:=by
 have hu:P.underlying t=some (.slice e):=(yM hτ ht).1
 have run: ∀A n c,(Builtin.len_ #[t] ty #[.slice A n c]).run P w= .ok (goInt n) w:=fun A n c=>by simp [Builtin.len_,run_underlying hu]
 cases x<;>simp only [VR]at he<;>try(cases he)
 case sl d p off len e'=>
  obtain⟨rfl,-,R,hR,hp⟩:=Va he hob
  simp only [AvR]at hx
  obtain⟨hv,hin,A,m,c,A',c',hnw,e1,e2,hle,hlc,hmx,hf0,hA⟩:=hx.2 R hR hp
  subst e2
  exact⟨_,run _ _ _,by simp only [AvR,goInt]⟩
 case nil=>
  simp only [AvR]at hx
  subst hx
  exact⟨_,run _ _ _,by simp only [AvR,goInt];rfl⟩
theorem zD6 {x y:AV}{u u':Value}(hx:AvR τ w st.r st.b hd bk x u)(hy:AvR τ w st.r st.b hd bk y u'){v:AV}{ob:Prop}(he:ka x y=some (v,ob))(ts:Array TypeId)(ty:TypeId):
  ∃z,(Builtin.max_ ts ty #[u,u']).run P w= .ok z w∧AvR τ w st.r st.b hd bk v z:=by
 cases x<;>simp only [ka]at he<;>try(cases he)
 cases y<;>simp only at he<;>try(cases he)
 simp only [AvR]at hx hy
 subst hx;subst hy
 rename_i k a k' b
 exact⟨.int k (if b>a then b else a),by simp [Builtin.max_,Builtin.max2],by simp only [AvR]⟩
theorem zD7 {x y:AV}{u u':Value}(hx:AvR τ w st.r st.b hd bk x u)(hy:AvR τ w st.r st.b hd bk y u'){v:AV}{ob:Prop}(he:kc x y=some (v,ob))(ts:Array TypeId)(ty:TypeId):
  ∃z,(Builtin.min_ ts ty #[u,u']).run P w= .ok z w∧AvR τ w st.r st.b hd bk v z:=by
 cases x<;>simp only [kc]at he<;>try(cases he)
 cases y<;>simp only at he<;>try(cases he)
 simp only [AvR]at hx hy
 subst hx;subst hy
 rename_i k a k' b
 exact⟨.int k (if b<a then b else a),by simp [Builtin.min_,Builtin.min2],by simp only [AvR]⟩
theorem zB7 {x y z':AV}{u u' u2:Value}(hx:AvR τ w st.r st.b hd bk x u)(hy:AvR τ w st.r st.b hd bk y u')(hz:AvR τ w st.r st.b hd bk z' u2){v:AV}{ob:Prop}(he:JO x y z'=some (v,ob))(ts:Array TypeId)(ty:TypeId):
  ∃z,(Builtin.max_ ts ty #[u,u',u2]).run P w= .ok z w∧AvR τ w st.r st.b hd bk v z:=by
 unfold JO at he
 split at he
 ·rename_i k a k' b k2 c
  cases he
  simp only [AvR]at hx hy hz
  subst hx;subst hy;subst hz
  exact⟨.int k (if c>(if b>a then b else a)then c else(if b>a then b else a)),by simp [Builtin.max_,Builtin.max2],by simp only [AvR]⟩
 ·cases he
theorem VK (hτ:zx P τ)(hpos:yL τ)(h:ze τ lo w0 ow hd bk st a w){o:Oper}{v:AV}{ob:Prop}(he:qF τ o st=some (v,ob))(hob:ob):
  ∃z,(execOp a.eval o).run P w= .ok (.value z) w∧AvR τ w st.r st.b hd bk v z:=by
 obtain⟨dst,op,ty,pos,after,guard⟩:=o
 have wrapV: ∀{s:Sem Value} {z:Value},s.run P w= .ok z w→(do pure (.value (←s)):Sem Next).run P w= .ok (.value z) w:=fun{s z} hs=>by rw [Sem.run_bind,hs,Result.andThen_ok,Sem.run_pure]
 unfold qF at he
 cases op<;>simp only at he<;>try(cases he;done)
 case move x=>simp only [Option.some.injEq,Prod.mk.injEq]at he;obtain⟨rfl,rfl⟩:=he;exact⟨a.eval x,by simp [execOp],zZ h x⟩
 case assign x=>simp only [Option.some.injEq,Prod.mk.injEq]at he;obtain⟨rfl,rfl⟩:=he;exact⟨a.eval x,by simp [execOp],zZ h x⟩
 case nilCheck x=>
  unfold ke at he
  have hx:=zZ h x
  split at he
  ·rename_i t i hev
   rw [hev]at hx
   simp only [AvR]at hx
   cases hT:lk st.b t with
   |none=>rw [hT]at he;cases he
   |some cs=>
    rw [hT]at he
    simp only [Option.some.injEq,Prod.mk.injEq]at he
    obtain⟨rfl,rfl⟩:=he
    have hp:=hx.2 ⟨cs,hT⟩
    exact⟨a.eval x,by simp [execOp,hp],by simp only [AvR];exact hx⟩
  ·cases he
 case pick c x y=>
  have hc:=zZ h c
  split at he
  ·rename_i b hb
   rw [hb]at hc
   simp only [AvR]at hc
   simp only [Option.some.injEq,Prod.mk.injEq]at he;obtain⟨rfl,rfl⟩:=he
   refine⟨if b then a.eval x else a.eval y,by simp [execOp,hc,asBool],?_⟩
   cases b
   ·exact zZ h y
   ·exact zZ h x
  ·cases he
 case load t x=>obtain⟨z,hz,hv⟩:=Jm hτ hpos h (zZ h x) he hob;exact⟨z,wrapV hz,hv⟩
 case fieldAddr t x f=>obtain⟨z,hz,hv⟩:=zAY hτ (zZ h x) he hob;exact⟨z,wrapV hz,hv⟩
 case indexAddr t x ix=>obtain⟨z,hz,hv⟩:=zAo hτ hpos (zZ h x) (zZ h ix) he hob;exact⟨z,wrapV hz,hv⟩
 case build t parts=>obtain⟨z,hz,hv⟩:=zAK hτ h he;exact⟨z,wrapV hz,hv⟩
 case field t x f=>
  have hx:=zZ h x
  unfold WK at he
  split at he
  ·rename_i ks fs by_ ht
   obtain⟨F,hu,hF,-⟩:=yM hτ ht
   split at he
   ·rename_i k ft hk
    split at he
    ·rename_i us hft hvs
     rw [hvs]at hx
     simp only [AvR]at hx
     obtain⟨cs,hcs,hr⟩:=hx
     obtain⟨hl,hr⟩:=zp.1 hr
     cases hv:us[k]? with
     |none=>rw [hv]at he;cases he
     |some y=>
      rw [hv]at he
      simp only [Option.map_some,Option.some.injEq,Prod.mk.injEq]at he
      obtain⟨rfl,rfl⟩:=he
      have hlt:k<cs.length:=by rw [hl];exact(List.getElem?_eq_some_iff.1 hv).1
      refine⟨cs[k],wrapV ?_,hr k _ _ hv (List.getElem?_eq_getElem hlt)⟩
      obtain⟨g,hg,ho,hgt⟩: ∃g:Field,F[f]? =some g∧g.offset=k∧g.type=ft:=by
       rw [←hF,List.getElem?_map]at hk
       cases hg:F.toList[f]? with
       |none=>rw [hg]at hk;cases hk
       |some g=>rw [hg]at hk;cases hk;exact⟨g,by simpa using hg,rfl,rfl⟩
      unfold Instr.field
      rw [Sem.run_bind,run_underlying hu,Result.andThen_ok]
      simp only [hg,hcs]
      rw [Sem.run_bind]
      simp only [asAgg,Sem.run_pure,Result.andThen_ok]
      unfold part
      rw [Sem.run_bind,hgt,Zu hτ hft,Result.andThen_ok,ho]
      simp [hlt]
    ·cases he
   ·cases he
  ·cases he
 case extract x i=>
  have hx:=zZ h x
  split at he
  ·rename_i vs hvs
   rw [hvs]at hx
   simp only [AvR]at hx
   obtain⟨cs,hcs,hr⟩:=hx
   obtain⟨hl,hr⟩:=zp.1 hr
   cases hv:vs[i]? with
   |none=>rw [hv]at he;cases he
   |some y=>
    rw [hv]at he
    simp only [Option.map_some,Option.some.injEq,Prod.mk.injEq]at he
    obtain⟨rfl,rfl⟩:=he
    have hlt:i<cs.length:=by rw [hl];exact(List.getElem?_eq_some_iff.1 hv).1
    refine⟨cs[i],wrapV ?_,hr i _ _ hv (List.getElem?_eq_getElem hlt)⟩
    simp [Instr.extract,hcs,hlt]
  ·cases he
 case binOp op t x y yt=>
  split at he
  ·obtain⟨z,hz,hv⟩:=zDj (P:=P) (zZ h x) (zZ h y) t x y he hob;exact⟨z,wrapV hz,hv⟩
  ·rename_i by_ ht;obtain⟨z,hz,hv⟩:=zBz hτ ht (zZ h x) (zZ h y) x y he;exact⟨z,wrapV hz,hv⟩
  ·rename_i cs9 fs9 by_ ht;obtain⟨z,hz,hv⟩:=zDd hτ ht (zZ h x) (zZ h y) x y he;exact⟨z,wrapV hz,hv⟩
  ·cases he
 case unOp op t x=>obtain⟨z,hz,hv⟩:=zGK (P:=P) (zZ h x) he hob;exact⟨z,wrapV hz,hv⟩
 case convert src dst x=>
  have hx:=zZ h x
  split at he
  ·rename_i k1 b1 k2 b2 k n h1 h2 h3
   rw [h3]at hx
   simp only [AvR]at hx
   have u1:P.underlying src=some (.int k1):=(yM hτ h1).1
   have u2:P.underlying dst=some (.int k2):=(yM hτ h2).1
   refine⟨.int k2 (k2.wrap n),wrapV ?_,zJw (st:=st) he hob⟩
   rw [hx]
   simp [convert,run_underlying u1,run_underlying u2,Conv.intToInt]
  ·cases he
 case slice t x lo' hi' mx=>
  cases mx with
  |none=>obtain⟨z,hz,hv⟩:=zBX hτ hpos h (zZ h x) he hob;exact⟨z,wrapV hz,hv⟩
  |some m=>cases he
 case call c=>
  obtain⟨callee,args,argTypes⟩:=c
  unfold vx at he
  simp only at he
  cases callee<;>simp only at he<;>try(cases he;done)
  rename_i b
  have args1: ∀x,args.toList= [x]→args= #[x]:=fun x hx=>by cases args;simp at hx;subst hx;rfl
  have args2: ∀x y,args.toList= [x,y]→args= #[x,y]:=fun x y hx=>by cases args;simp at hx;subst hx;rfl
  split at he
  ·rename_i x t h1 h2
   have e1:=args1 x h1
   have e2:argTypes= #[t]:=by cases argTypes;simp at h2;subst h2;rfl
   subst e1;subst e2
   split at he
   ·rename_i e by_ ht
    obtain⟨z,hz,hv⟩:=zD3 hτ ht (zZ h x) he hob ty
    refine⟨z,?_,hv⟩
    simp [execOp,resolve,invoke,builtin,hz]
   ·cases he
  ·rename_i x y h1
   have e1:=args2 x y h1
   subst e1
   obtain⟨z,hz,hv⟩:=zD6 (P:=P) (zZ h x) (zZ h y) he argTypes ty
   refine⟨z,?_,hv⟩
   simp [execOp,resolve,invoke,builtin,hz]
  ·rename_i x y h1
   have e1:=args2 x y h1
   subst e1
   obtain⟨z,hz,hv⟩:=zD7 (P:=P) (zZ h x) (zZ h y) he argTypes ty
   refine⟨z,?_,hv⟩
   simp [execOp,resolve,invoke,builtin,hz]
  ·rename_i x y z' h1
   have e1:args= #[x,y,z']:=by cases args;simp at h1;subst h1;rfl
   subst e1
   obtain⟨z,hz,hv⟩:=zB7 (P:=P) (zZ h x) (zZ h y) (zZ h z') he argTypes ty
   refine⟨z,?_,hv⟩
   simp [execOp,resolve,invoke,builtin,hz]
  ·cases he
end
def zb (t j:Nat):Nat:=16*t+j
def ZA (t:Nat):Nat→List CK→List AV→List (Nat×TypeId)
 |j, .sl e::ks, .nil::vs=>(zb t j,e)::ZA t (j+1) ks vs
 |j,_::ks,_::vs=>ZA t (j+1) ks vs
 |_,_,_=> []
def qe (t:Nat):Nat→List CK→List AV→List AV
 |j, .sl e::ks, .nil::vs=> .sl (zb t j) [] 0 0 e::qe t (j+1) ks vs
 |j,_::ks,v::vs=>v::qe t (j+1) ks vs
 |_,_,vs=>vs
def vI :List (Nat×TypeId)→St→List AV→St×List AV
 | [],st,vs=>(st,vs)
 |(d,e)::l,st,vs=>vI l (st.addR d ⟨.ex,e,[],none⟩) (AV.killL (is1 d) noB vs)
def JA (τ:Ty)(st:St)(t:Nat)(e:TypeId)(vs:List AV):St:=
 let p:=vI (ZA t 0 (cks τ e) vs) st vs
 p.1.addB t (AV.killL noB (is1 t) (qe t 0 (cks τ e) p.2))
section
variable {P:Program} {τ:Ty} {lo:Nat} {w0:Fz} {ow:Nat→Option Pl} {hd:Nat→Value} {bk:Nat→Nat} {st:St} {a:Act} {w:World}
theorem vV {S:TypeId→Nat}{w:World}{ow:Nat→Option Pl}(d:Nat)(p:List Nat)(e:TypeId):Rp S lo w ow (.ex d p) (.lst e []) (.slice none 0 0):=by
 refine(zw S lo).2 ⟨[],⟨rfl,0,by simp,World.ownsRow_nil w lo e (S e),fun b hb=>by simp [Value.ownBlock]at hb⟩,fun i x u hx _=>by simp at hx⟩
theorem Vm : ∀(l:List (Nat×TypeId)) (st:St) (vs:List AV) (hd:Nat→Value) (cs:List Value),ze τ lo w0 ow hd bk st a w→zY τ w st.r st.b hd bk vs cs→
  ∃hd',ze τ lo w0 ow hd' bk (vI l st vs).1 a w∧zY τ w (vI l st vs).1.r (vI l st vs).1.b hd' bk (vI l st vs).2 cs∧(∀x∈l,hd' x.1= .slice none 0 0)∧(∀d,hd d= .slice none 0 0→hd' d= .slice none 0 0)
 | [],st,vs,hd,cs,h,hv=>⟨hd,h,hv,fun x hx=>by simp at hx,fun d h=>h⟩
 |(d,e)::l,st,vs,hd,cs,h,hv=>by
  have h1:=xx h d ⟨.ex,e,[],none⟩ (.slice none 0 0) (vV d [] e)
  have hD: ∀k,is1 d k=false→yq w w st.r (st.addR d ⟨.ex,e,[],none⟩).r hd (upd hd d (.slice none 0 0)) k:=fun k hk R' hR'=>by
   have hne: ¬d=k:=by intro e;subst e;simp [is1]at hk
   simp only [St.addR,zd,if_neg hne]at hR'
   exact⟨R',hR',qf _ _ (fun e=>hne e.symm),fun p hp=>⟨hp,rfl⟩⟩
  have hB: ∀t,noB t=false→yp st.b (st.addR d ⟨.ex,e,[],none⟩).b bk bk t:=fun t _ hl=>by
   simp only [St.addR,St.kill,zz]at hl
   obtain⟨cs,hcs⟩:=hl
   cases hx:lk st.b t with
   |none=>rw [hx]at hcs;cases hcs
   |some cs'=>exact⟨⟨cs',rfl⟩,rfl⟩
  obtain⟨hd',k1,k2,k3,k4⟩:=Vm l _ _ _ cs h1 (yA hD hB vs cs hv)
  refine⟨hd',k1,k2,fun x hx=> ?_,fun k hk=> ?_⟩
  ·rcases List.mem_cons.1 hx with rfl|hx
   ·exact k4 _ (by rw [yF])
   ·exact k3 x hx
  ·by_cases e:k=d
   ·subst e;exact k4 _ (by rw [yF])
   ·exact k4 _ (by rw [qf _ _ e];exact hk)
theorem ud {ds bs:Nat→Bool}: ∀(vs:List AV) (i:Nat),vs[i]? =some AV.nil→(AV.killL ds bs vs)[i]? =some AV.nil
 | [],i,h=>by simp at h
 |v::vs,i,h=>by
  cases i with
  |zero=>simp at h;subst h;simp [AV.killL,AV.kill]
  |succ i=>simp only [AV.killL,List.getElem?_cons_succ]at h⊢;exact ud vs i h
theorem WM {rr:List (Nat×zr)}{bb:List (Nat×List AV)}(hd':Nat→Value)(t:Nat): ∀(ks:List CK) (vs us:List AV) (j:Nat) (cs:List Value),us.length=vs.length→(∀(i:Nat),vs[i]? =some AV.nil→us[i]? =some AV.nil)→(∀(i:Nat),us[i]? =some AV.nil→vs[i]? =some AV.nil∨True)→
  (∀x∈ZA t j ks vs,hd' x.1= .slice none 0 0)→(∀(i:Nat),us[i]? =some AV.nil→vs[i]? =some AV.nil)→zY τ w rr bb hd' bk us cs→zY τ w rr bb hd' bk (qe t j ks us) cs
 | [],vs,us,j,cs,_,_,_,_,_,h=>by simpa [qe]using h
 |k::ks,vs,[],j,cs,_,_,_,_,_,h=>by cases k<;>simpa [qe]using h
 |k::ks,[],u::us,j,cs,hl,_,_,_,_,h=>by simp at hl
 |k::ks,v::vs,u::us,j,cs,hl,hn,hx,hh,hm,h=>by
  simp only [zY]at h
  obtain⟨c,cs',rfl,h1,h2⟩:=h
  have rc:(∀x∈ZA t (j+1) ks vs,hd' x.1= .slice none 0 0)→zY τ w rr bb hd' bk (qe t (j+1) ks us) cs':=fun hh'=>
   WM hd' t ks vs us (j+1) cs' (by simpa using hl) (fun i hi=>by simpa using hn (i+1) (by simpa using hi)) (fun _ _=> .inr trivial) hh' (fun i hi=>by simpa using hm (i+1) (by simpa using hi)) h2
  have plain:(∀x∈ZA t (j+1) ks vs,hd' x.1= .slice none 0 0)→zY τ w rr bb hd' bk (u::qe t (j+1) ks us) (c::cs'):=fun hh'=>by
   simp only [zY];exact⟨c,cs',rfl,h1,rc hh'⟩
  cases k with
  |sl e=>
   by_cases hu:u= .nil
   ·subst hu
    have hv:v= .nil:=by have :=hm 0 rfl;simpa using this
    subst hv
    simp only [ZA]at hh
    simp only [qe,zY]
    refine⟨c,cs',rfl,?_,rc fun x hx=>hh x (by simp [hx])⟩
    simp only [AvR]at h1⊢
    subst h1
    refine⟨⟨_,_,_,rfl⟩,fun R hR hp=>⟨.slice none 0 0,?_,none,0,0,none,0,nw0,rfl,rfl,by omega,by omega,by unfold maxLen;omega,fun _=>⟨rfl,rfl⟩,fun h=>absurd rfl h⟩⟩
    simp only [yC]
    rw [hh (zb t j,e) (by simp)]
   ·have hv:v≠ .nil:=by rintro rfl;exact hu (by simpa using hn 0 rfl)
    have e1:ZA t j (.sl e::ks) (v::vs)=ZA t (j+1) ks vs:=by cases v<;>first|rfl|exact absurd rfl hv
    have e2:qe t j (.sl e::ks) (u::us)=u::qe t (j+1) ks us:=by cases u<;>first|rfl|exact absurd rfl hu
    rw [e1]at hh;rw [e2]
    exact plain hh
  |int k=>simp only [ZA]at hh;simp only [qe];exact plain hh
  |bool=>simp only [ZA]at hh;simp only [qe];exact plain hh
theorem Kj : ∀(l:List (Nat×TypeId)) (st:St) (vs:List AV),((vI l st vs).2.length=vs.length)∧(∀(i:Nat),vs[i]? =some AV.nil→(vI l st vs).2[i]? =some AV.nil)∧(∀(i:Nat),(vI l st vs).2[i]? =some AV.nil→vs[i]? =some AV.nil)
 | [],st,vs=>⟨rfl,fun _ h=>h,fun _ h=>h⟩
 |(d,e)::l,st,vs=>by
  obtain⟨h1,h2,h3⟩:=Kj l (st.addR d ⟨.ex,e,[],none⟩) (AV.killL (is1 d) noB vs)
  have hk: ∀(vs:List AV) (i:Nat),(AV.killL (is1 d) noB vs)[i]? =some AV.nil→vs[i]? =some AV.nil:=by
   intro vs
   induction vs with
   |nil=>intro i h;simp [AV.killL]at h
   |cons v vs ih=>
    intro i h
    cases i with
    |zero=>
     simp only [AV.killL,List.getElem?_cons_zero,Option.some.injEq]at h⊢
     cases v<;>simp only [AV.kill]at h<;>first|rfl|(cases h;done)|(split at h<;>cases h)
    |succ i=>simp only [AV.killL,List.getElem?_cons_succ]at h⊢;exact ih i h
  exact⟨by rw [vI,h1,uc],fun i h=>h2 i (ud vs i h),fun i h=>hk vs i (h3 i h)⟩
theorem XW (h:ze τ lo w0 ow hd bk st a w)(t:Nat)(ht:t<1000000)(e:TypeId)(vs:List AV)(cs:List Value)(hv:zY τ w st.r st.b hd bk vs cs):
  ∃ow' hd' bk',ze τ lo w0 ow' hd' bk' (JA τ st t e vs) a (w.alloc (.cells cs.toArray e))∧bk' t=w.heap.size:=by
 have h1:=ZN h (.cells cs.toArray e) (some (.box t)) (by simp)
 have hsz:(w.alloc (.cells cs.toArray e)).heap[w.heap.size]? =some (.cells cs.toArray e (0,0)):=heap_alloc_new w _
 have hD: ∀d,noB d=false→yq w (w.alloc (.cells cs.toArray e)) st.r st.r hd hd d:=fun d _ R hR=>⟨R,hR,rfl,fun p hp=>⟨hp,xE p _ _ _ _ (h.root d R hR) hp (fun b o A n c hb _ hc=>by
  rw [xe (Below.heap_alloc w _ b hb)];exact hc)⟩⟩
 have hv1:=yA (τ:=τ) (bk:=bk) (bk':=bk) (bb:=st.b) (bb':=st.b) hD (fun t _ hl=>⟨hl,rfl⟩: ∀t,noB t=false→yp st.b st.b bk bk t) vs cs hv
 rw [xF]at hv1
 obtain⟨hd',k1,k2,k3,-⟩:=Vm (ZA t 0 (cks τ e) vs) st vs hd cs h1 hv1
 obtain⟨m1,m2,m3⟩:=Kj (ZA t 0 (cks τ e) vs) st vs
 have k4:=WM hd' t (cks τ e) vs _ 0 cs m1 m2 (fun _ _=> .inr trivial) k3 m3 k2
 refine⟨_,hd',upd bk t w.heap.size,Vu k1 t ht w.heap.size _ cs e hsz (yF _ _ _) k4,yF _ _ _⟩
end
section
variable {P:Program} {τ:Ty} {lo:Nat} {w0:Fz} {ow:Nat→Option Pl} {hd:Nat→Value} {bk:Nat→Nat} {st:St} {a:Act} {w:World}
theorem ZO (h:ze τ lo w0 ow hd bk st a w)(d:Nat)(hdead:lk st.r d=none)(ow':Nat→Option Pl)(h1: ∀b,(∀q,ow b≠some (.root d q))→ow' b=ow b)(h2: ∀b,ow' b≠some .ext∨ow b=some .ext):
  ze τ lo w0 ow' hd bk st a w:=by
 refine⟨h.big,h.defers,h.size,h.low,h.below,fun b p hlt hb hp=> ?_,fun b hb=> ?_,h.slot,fun k R hR=> ?_,fun t vs hv=> ?_,h.pin⟩
 ·by_cases hq: ∃q,ow b=some (.root d q)
  ·obtain⟨q,hq⟩:=hq;exact h.ge b _ hlt hq (by simp)
  ·rw [h1 b (fun q e=>hq ⟨q,e⟩)]at hb;exact h.ge b p hlt hb hp
 ·rw [h1 b (fun q e=>by rw [h.new b hb]at e;cases e)];exact h.new b hb
 ·have hne:k≠d:=by rintro rfl;rw [hdead]at hR;cases hR
  refine yE _ _ (Nat.le_refl _) _ _ _ (fun b hb hr=>⟨rfl,h1 b fun q e=> ?_⟩) (h.root k R hR)
  cases ho:R.o<;>rw [ho]at hr<;>simp only [md,rel]at hr
  ·rw [hr]at e;cases e
  ·obtain⟨q',hq'⟩:=hr;rw [hq']at e;cases e;exact hne rfl
  ·rcases hr with hr|hr
   ·rw [hr]at e;cases e
   ·rw [hr]at e;cases e;exact hne rfl
 ·obtain⟨cs,ty,k1,k2,k3⟩:=h.box t vs hv
  exact⟨cs,ty,k1,by rw [h1 _ (fun q e=>by rw [k2]at e;cases e)];exact k2,k3⟩
def wY (ow:Nat→Option Pl)(d:Nat)(f:List Nat→Option Pl):Nat→Option Pl:=fun b=>
 match ow b with
 |some (.root d' q)=>if d'=d then f q else some (.root d' q)
 |x=>x
theorem xh {d:Nat}{f:List Nat→Option Pl}{b:Nat}(h: ∀q,ow b≠some (.root d q)):wY ow d f b=ow b:=by
 unfold wY
 split
 ·rename_i d' q hq
  split
  ·rename_i e;subst e;exact absurd hq (h q)
  ·exact hq.symm
 ·rfl
theorem ZB {d:Nat}{f:List Nat→Option Pl}{b:Nat}{q:List Nat}(h:ow b=some (.root d q)):wY ow d f b=f q:=by
 unfold wY
 rw [h]
 simp
theorem Xo {d:Nat}{f:List Nat→Option Pl}(hf: ∀q,f q≠some .ext)(b:Nat):wY ow d f b≠some .ext∨ow b=some .ext:=by
 by_cases hq: ∃q,ow b=some (.root d q)
 ·obtain⟨q,hq⟩:=hq;left;rw [ZB hq];exact hf q
 ·rw [xh (fun q e=>hq ⟨q,e⟩)]
  by_cases h:ow b=some .ext
  ·exact .inr h
  ·exact .inl h
theorem zBp {S:TypeId→Nat}{w:World}{ow ow':Nat→Option Pl}{d h':Nat}{p p':List Nat}{t:D}{v:Value}(h1: ∀b,ow b=some (.root d p)→ow' b=some (.root h' p'))(h2: ∀b,b<w.heap.size→ow b=none→ow' b=none)
  (h:Rp S lo w ow (.top d p) t v):Rp S lo w ow' (.top h' p') t v:=by
 cases t with
 |int k n=>simpa only [Rp]using h
 |bool b=>simpa only [Rp]using h
 |hole=>simpa only [Rp]using h
 |lst e xs=>
  obtain⟨vs,⟨k1,n,k2,k3,k4⟩,k5⟩:=(zw S lo).1 h
  refine(zw S lo).2 ⟨vs,⟨k1,n,k2,k3,fun b hb=>h1 b (k4 b hb)⟩,fun i x u hx hu=> ?_⟩
  exact yE S lo (Nat.le_refl _) _ _ _ (fun b hb hr=>⟨rfl,by rw [h2 b hb hr];exact hr.symm⟩) (k5 i x u hx hu)
def St.moveR (st:St)(d h:Nat)(R:zr):St:=(st.delR d).addR h R
theorem zDW (h:ze τ lo w0 ow hd bk st a w)(d k:Nat)(R:zr)(hR:lk st.r d=some R):ze τ lo w0 (wY ow d fun q=>some (.root k q)) (upd hd k (hd d)) bk (st.moveR d k R) a w:=by
 have hr:=h.root d R hR
 have h1:=ZC h d
 have h2:=ZO h1 d (by simp [St.delR,yr,is1]) (wY ow d fun q=>some (.root k q)) (fun b hb=>xh hb) (Xo (by simp))
 refine xx h2 k R (hd d) ?_ (fun i hi=>h.pin d R i hR hi)
 cases ho:R.o<;>rw [ho]at hr<;>simp only [md]at hr⊢
 ·exact yE _ _ (Nat.le_refl _) _ _ _ (fun b hb hrel=>⟨rfl,xh fun q e=>by rw [show ow b=none from hrel]at e;cases e⟩) hr
 ·exact qW _ _ _ _ _ _ _ _ (fun b q hb e=>by rw [ZB e]) hr
 ·exact zBp (fun b e=>by rw [ZB e]) (fun b hb e=>by rw [xh (fun q e'=>by rw [e]at e';cases e')];exact e) hr
theorem Us {S:TypeId→Nat}{w:World}{ow ow':Nat→Option Pl}{d:Nat}{x':D}{u:Value}{i:Nat}(hkeep: ∀b,b<w.heap.size→(ow b=none∨∃q,ow b=some (.root d q))→ow' b=ow b){b o n c:Nat}:
  ∀(p q:List Nat) (m:Md) (e:TypeId) (xs:List D) (hv:Value),(m= .ex d q∨(m= .top d q∧p= []))→Rp S lo w ow m (.lst e xs) hv→zk xs p→i<(yI xs p).length→yC w hv p=some (.slice (some ⟨b,o,none⟩) n c)→
   (∀m',(p= []→m'=m)→(p≠ []→m'= .ex d (q++p))→Rp S lo (w.setCell ⟨b,o+i,none⟩ u) ow' (m'.kid i) x' u)→
   Rp S lo (w.setCell ⟨b,o+i,none⟩ u) ow' m (.lst e (qP xs p i x')) hv∧ow b=some (.root d (q++p))∧w.frozen? ⟨b,o+i,none⟩=false∧(∃old,w.cell? ⟨b,o+i,none⟩=some old∧∃xo,(yI xs p)[i]? =some xo∧∃m',Rp S lo w ow m' xo old)
 | [],q,m,e,xs,hv,hm,h,_,hi,hin,hnew=>by
  simp only [yC,Option.some.injEq]at hin
  subst hin
  simp only [yI]at hi
  obtain⟨vs,⟨k1,N,k2,k3⟩,k5⟩:=(zw S lo).1 h
  have hown:w.ownsRow lo e (S e) (.slice (some ⟨b,o,none⟩) n c) N vs∧∀b',(Value.slice (some ⟨b,o,none⟩) n c).ownBlock=some b'→ow b'=some (.root d q):=by
   rcases hm with rfl|⟨rfl,-⟩<;>exact k3
  obtain⟨⟨l1,l2⟩,l3⟩:=hown
  rcases l2 with⟨hv0,-⟩|⟨g,cap,cur,hv,hb,hg,hnc,hcm,hcs,htake⟩
  ·cases hv0
  ·cases hv
   have hob:ow b=some (.root d q):=l3 b rfl
   have hlt:b<w.heap.size:=(Array.getElem?_eq_some_iff.1 hg).1
   have hiv:i<vs.length:=by rw [k1];exact hi
   have hic:i<cur.size:=by
    have :i<(cur.toList.take (n*S e)).length:=by rw [htake];exact hiv
    rw [List.length_take]at this
    simpa using (Nat.lt_min.1 this).2
   have hset:(w.setCell ⟨b,0+i,none⟩ u).heap[b]? =some (.cells (cur.setIfInBounds i u) e (0,0)):=by
    simp [World.setCell,Array.getElem?_modify,hg]
   have hoth: ∀k,k≠b→(w.setCell ⟨b,0+i,none⟩ u).heap[k]? =w.heap[k]? :=fun k hk=>Below.heap_setCell w _ u k hk
   have hsz:(w.setCell ⟨b,0+i,none⟩ u).heap.size=w.heap.size:=by simp [World.setCell]
   obtain⟨uo,hold⟩: ∃uo,vs[i]? =some uo:=⟨_,List.getElem?_eq_getElem hiv⟩
   have hcell:w.cell? ⟨b,0+i,none⟩=some uo:=by
    rw [cell_of_row w b (0+i) cur e (0,0) hg,Nat.zero_add]
    have hold2:=hold
    rw [←htake,List.getElem?_take]at hold2
    split at hold2
    ·simpa using hold2
    ·cases hold2
   refine⟨?_,by simpa using hob,by rw [frozen_of_row w b (0+i) cur e hg],uo,hcell,xs[i],by simp [yI],_,k5 i _ _ (List.getElem?_eq_getElem hi) hold⟩
   have hHd:w.setCell ⟨b,0+i,none⟩ u|>.ownsRow lo e (S e) (.slice (some ⟨b,0,none⟩) n c) n (vs.set i u):=by
    refine⟨by rw [List.length_set];exact l1, .inr ⟨b,c,_,rfl,hb,hset,hnc,hcm,by simpa using hcs,?_⟩⟩
    rw [Array.toList_setIfInBounds,List.take_set,htake]
   have hlab: ∀b',(Value.slice (some ⟨b,0,none⟩) n c).ownBlock=some b'→ow' b'=some (.root d q):=fun b' e'=>by
    cases e';rw [hkeep b hlt (.inr ⟨q,hob⟩)];exact hob
   refine(zw S lo).2 ⟨vs.set i u,⟨by simp [qP,k1],n,?_,?_⟩,fun j y v hy hv=> ?_⟩
   ·simp only [qP,List.length_set];rw [←k1];exact l1
   ·rcases hm with rfl|⟨rfl,-⟩<;>exact⟨hHd,hlab⟩
   ·simp only [qP]at hy
    rw [List.getElem?_set]at hy hv
    by_cases hij:i=j
    ·subst hij
     rw [if_pos rfl,if_pos hi]at hy
     rw [if_pos rfl,if_pos hiv]at hv
     cases hy;cases hv
     exact hnew m (fun _=>rfl) (fun h=>absurd rfl h)
    ·rw [if_neg hij]at hy hv
     refine yE S lo (by rw [hsz];exact Nat.le_refl _) _ _ _ (fun b' hb' hr=> ?_) (k5 j y v hy hv)
     rcases hm with rfl|⟨rfl,-⟩
     ·obtain⟨q',hq'⟩:=hr
      refine⟨hoth b' (fun e'=> ?_),hkeep b' hb' (.inr ⟨_,hq'⟩)⟩
      subst e'
      rw [hob]at hq'
      simp at hq'
     ·refine⟨hoth b' (fun e'=> ?_),hkeep b' hb' (.inl hr)⟩
      subst e'
      rw [hob]at hr
      cases hr
 |j::p,q,m,e,xs,hv,hm,h,hp,hi,hin,hnew=>by
  have hm':m= .ex d q:=by rcases hm with h|⟨-,h⟩;exact h;cases h
  subst hm'
  obtain⟨e1,ys,hx,hq⟩:=hp
  obtain⟨vs,k1,k5⟩:=(zw S lo).1 h
  have hlt:j<vs.length:=by rw [k1.1];exact(List.getElem?_eq_some_iff.1 hx).1
  have hu:vs[j]? =some vs[j]:=List.getElem?_eq_getElem hlt
  obtain⟨b1,o1,n1,c1,hv',hN,hb1,hr1,hc1⟩:=qV k1 hu
  have hk:=k5 j _ _ hx hu
  have hg:xD xs j=ys:=by unfold xD;rw [hx]
  have hge:qi xs j=e1:=by unfold qi;rw [hx]
  subst hv'
  simp only [yC,hc1,Option.bind_some]at hin
  simp only [yI,hg]at hi
  obtain⟨r1,r2,r3,r4⟩:=Us hkeep p (q++ [j]) (.ex d (q++ [j])) e1 ys vs[j] (.inl rfl) hk hq hi hin (fun m' ha hb=>hnew m' (fun h=>by cases h) (fun _=>by
   by_cases hp0:p= []
   ·subst hp0;rw [ha rfl]
   ·rw [hb hp0];simp))
  have hob:ow b=some (.root d (q++j::p)):=by simpa using r2
  have hoth: ∀k,k≠b→(w.setCell ⟨b,o+i,none⟩ u).heap[k]? =w.heap[k]? :=fun k hk=>Below.heap_setCell w _ u k hk
  have hsz:(w.setCell ⟨b,o+i,none⟩ u).heap.size=w.heap.size:=by simp [World.setCell]
  refine⟨?_,hob,r3,by simpa only [yI,hg]using r4⟩
  obtain⟨l1,n',l2,l3,l4⟩:=k1
  have hb1ne: ∀b',(Value.slice (some ⟨b1,o1,none⟩) n1 c1).ownBlock=some b'→b'≠b:=fun b' e' e2=>by
   subst e2
   have :=l4 b' e'
   rw [hob]at this
   simp at this
  refine(zw S lo).2 ⟨vs,⟨by simp only [qP,List.length_set];exact l1,n',by simp only [qP,List.length_set];exact l2,?_,?_⟩,fun k y v hy hv=> ?_⟩
  ·refine⟨l3.1,?_⟩
   rcases l3.2 with hn|⟨g,cap,cur,hv,hb,hg',rest⟩
   ·exact .inl hn
   ·refine .inr ⟨g,cap,cur,hv,hb,?_,rest⟩
    rw [hoth g (hb1ne g (by rw [hv];rfl))]
    exact hg'
  ·intro b' e'
   rw [hkeep b' (l3.lt b' e').2 (.inr ⟨_,l4 b' e'⟩)]
   exact l4 b' e'
  ·simp only [qP,hg,hge]at hy
   rw [List.getElem?_set]at hy
   by_cases hjk:j=k
   ·subst hjk
    rw [if_pos rfl,if_pos (List.getElem?_eq_some_iff.1 hx).1]at hy
    cases hy
    rw [hu]at hv
    cases hv
    exact r1
   ·rw [if_neg hjk]at hy
    refine yE S lo (by rw [hsz];exact Nat.le_refl _) _ _ _ (fun b' hb' hr=> ?_) (k5 k y v hy hv)
    obtain⟨q',hq'⟩:=hr
    refine⟨hoth b' (fun e'=> ?_),hkeep b' hb' (.inr ⟨_,hq'⟩)⟩
    subst e'
    rw [hob]at hq'
    simp at hq'
    exact hjk hq'.1
end
section
variable {P:Program} {τ:Ty} {lo:Nat} {w0:Fz} {ow:Nat→Option Pl} {hd:Nat→Value} {bk:Nat→Nat} {st:St} {a:Act} {w:World}
def xS :D→Bool
 | .lst _ _=>false
 | .hole=>false
 |_=>true
theorem VZ {x:D}(hx:xS x=true): ∀(p:List Nat) (xs:List D) (q:List Nat) (i:Nat),(∃y,(yI xs q)[i]? =some y∧xS y=true)→zk xs q→(zk (qP xs q i x) p↔zk xs p)
 | [],xs,q,i,_,_=>by cases q<;>simp [zk]
 |j::p,xs,[],i,hy,_=>by
  obtain⟨y,hy,hs⟩:=hy
  simp only [yI]at hy
  have hlt:=(List.getElem?_eq_some_iff.1 hy).1
  simp only [zk,qP,List.getElem?_set]
  by_cases hij:i=j
  ·subst hij
   rw [if_pos rfl,if_pos hlt,hy]
   constructor
   ·rintro⟨e,ys,h,_⟩;cases h;simp [xS]at hx
   ·rintro⟨e,ys,h,_⟩;cases h;simp [xS]at hs
  ·rw [if_neg hij]
 |j::p,xs,k::q,i,hy,hq=>by
  obtain⟨e1,ys,h1,h2⟩:=hq
  have hg:xD xs k=ys:=by unfold xD;rw [h1]
  have hge:qi xs k=e1:=by unfold qi;rw [h1]
  simp only [yI,hg]at hy
  simp only [zk,qP,List.getElem?_set,hg,hge]
  by_cases hkj:k=j
  ·subst hkj
   rw [if_pos rfl,if_pos (List.getElem?_eq_some_iff.1 h1).1,h1]
   constructor
   ·rintro⟨e,zs,h,h3⟩;cases h;exact⟨_,ys,rfl,(VZ hx p ys q i hy h2).1 h3⟩
   ·rintro⟨e,zs,h,h3⟩;cases h;exact⟨_,_,rfl,(VZ hx p ys q i hy h2).2 h3⟩
  ·rw [if_neg hkj]
theorem Ya {S:TypeId→Nat}{w w':World}{ow ow':Nat→Option Pl}{m m':Md}{x:D}{v:Value}(hx:xS x=true)(h:Rp S lo w ow m x v):Rp S lo w' ow' m' x v:=by
 cases x with
 |int k n=>simpa only [Rp]using h
 |bool b=>simpa only [Rp]using h
 |hole=>simp [xS]at hx
 |lst e xs=>simp [xS]at hx
theorem zGU {S:TypeId→Nat}{w:World}{ow:Nat→Option Pl}{m:Md}{x:D}{v:Value}(hx:xS x=true)(h:Rp S lo w ow m x v): ∀A n c,v≠ .slice A n c:=by
 intro A n c e
 subst e
 cases x with
 |int k n=>simp only [Rp]at h;cases h
 |bool b=>simp only [Rp]at h;cases h
 |hole=>simp [xS]at hx
 |lst e xs=>simp [xS]at hx
def St.setR (st:St)(d:Nat)(R:zr):St:={st with r:=(d,R)::st.r}
theorem zDY (h:ze τ lo w0 ow hd bk st a w){d:Nat}{R:zr}(hR:lk st.r d=some R){p:List Nat}{i:Nat}{x:D}{u:Value}(hm:R.o= .ex∨(R.o= .top∧p= []))(hp:zk R.xs p){y:D}(hy:(yI R.xs p)[i]? =some y)(hys:xS y=true)(hxs:xS x=true)
  (hu:Rp (sz τ) lo w ow .sh x u) {b o n c:Nat} (hin:yC w (hd d) p=some (.slice (some ⟨b,o,none⟩) n c)):
  ze τ lo w0 ow hd bk (st.setR d {R with xs:=qP R.xs p i x}) a (w.setCell ⟨b,o+i,none⟩ u)∧w.frozen? ⟨b,o+i,none⟩=false∧∃old,w.cell? ⟨b,o+i,none⟩=some old:=by
 have hmode:(md R.o d= .ex d []∨(md R.o d= .top d []∧p= [])):=by
  rcases hm with e|⟨e,e2⟩<;>rw [e]
  ·exact .inl rfl
  ·exact .inr ⟨rfl,e2⟩
 obtain⟨r1,r2,r3,old,r4,xo,r5,mo,r6⟩:=Us (ow':=ow) (x':=x) (u:=u) (i:=i) (fun _ _ _=>rfl) p [] _ _ _ _ hmode (h.root d R hR) hp (List.getElem?_eq_some_iff.1 hy).1 hin (fun m' _ _=>Ya hxs hu)
 rw [hy]at r5;cases r5
 have hob:ow b=some (.root d p):=by simpa using r2
 have hoth: ∀k,k≠b→(w.setCell ⟨b,o+i,none⟩ u).heap[k]? =w.heap[k]? :=fun k hk=>Below.heap_setCell w _ u k hk
 have hsz:(w.setCell ⟨b,o+i,none⟩ u).heap.size=w.heap.size:=by simp [World.setCell]
 have hne: ∀k,ow k≠ow b→(w.setCell ⟨b,o+i,none⟩ u).heap[k]? =w.heap[k]? :=fun k hk=>hoth k (fun e=>hk (by rw [e]))
 have hcells: ∀b' o' A n c,w.cell? ⟨b',o',none⟩=some (.slice A n c)→(w.setCell ⟨b,o+i,none⟩ u).cell? ⟨b',o',none⟩=some (.slice A n c):=fun b' o' A n c hc=>by
  by_cases hbb:b'=b
  ·subst hbb
   by_cases hoo:o'=o+i
   ·subst hoo
    rw [r4]at hc;cases hc
    exact absurd rfl (zGU hys r6 A n c)
   ·rw [World.cell?_setCell_other w _ _ u (by simp)]
    exact hc
  ·rw [xe (hoth b' hbb)];exact hc
 have hlt:b<w.heap.size:=World.block_lt_of_cell? w _ r4
 have hD: ∀k,noB k=false→yq w (w.setCell ⟨b,o+i,none⟩ u) st.r (st.setR d {R with xs:=qP R.xs p i x}).r hd hd k:=fun k _ R' hR'=>by
  simp only [St.setR,zd]at hR'
  split at hR'
  ·rename_i e;subst e;cases hR'
   refine⟨R,hR,rfl,fun q hq=> ?_⟩
   have hq':zk R.xs q:=(VZ hxs q R.xs p i ⟨y,hy,hys⟩ hp).1 hq
   exact⟨hq',xE q _ _ _ _ (h.root d R hR) hq' (fun b' o' A n c _ _ hc=>hcells b' o' A n c hc)⟩
  ·exact⟨R',hR',rfl,fun q hq=>⟨hq,xE q _ _ _ _ (h.root k R' hR') hq (fun b' o' A n c _ _ hc=>hcells b' o' A n c hc)⟩⟩
 have hB: ∀t,noB t=false→yp st.b st.b bk bk t:=fun t _ hl=>⟨hl,rfl⟩
 refine⟨⟨h.big,h.defers,h.size,by rw [hsz];exact h.low,h.below.setCell (h.ge b _ hlt hob (by simp)).2 u,fun b' p' hb hb' hp'=>h.ge b' p' (by rw [hsz]at hb;exact hb) hb' hp',fun b' hb=>h.new b' (by rw [hsz]at hb;exact hb),fun k v hv=> ?_,fun k R' hR'=> ?_,fun t vs hv=> ?_,fun k R' i' hR' hp'=> ?_⟩,r3,old,r4⟩
 ·have :=yl hD hB v _ (h.slot k v hv)
  rwa [qX]at this
 ·simp only [St.setR,zd]at hR'
  split at hR'
  ·rename_i e;subst e;cases hR'
   exact r1
  ·rename_i hdk
   refine yE _ _ (by rw [hsz];exact Nat.le_refl _) _ _ _ (fun b' hb' hr=>⟨hne b' (fun e=> ?_),rfl⟩) (h.root k R' hR')
   rw [hob]at e
   cases ho:R'.o<;>rw [ho]at hr<;>simp only [md,rel]at hr<;>rw [e]at hr
   ·cases hr
   ·obtain⟨q,hq⟩:=hr;cases hq;exact hdk rfl
   ·rcases hr with hr|hr
    ·cases hr
    ·cases hr;exact hdk rfl
 ·obtain⟨cs,ty,k1,k2,k3⟩:=h.box t vs hv
  have :=yA hD hB vs cs k3
  rw [xF]at this
  exact⟨cs,ty,by rw [hne _ (by rw [k2,hob];simp)];exact k1,k2,this⟩
 ·simp only [St.setR,zd]at hR'
  split at hR'
  ·rename_i e;subst e;cases hR';exact h.pin _ R i' hR hp'
  ·exact h.pin k R' i' hR' hp'
theorem Vv (h:ze τ lo w0 ow hd bk st a w)(k:Nat)(e:TypeId)(xs:List D)(vs:List Value)(n:Nat)(hn:xs.length=n*sz τ e)(hvs:vs.length=xs.length)(hm:n≤maxLen)
  (hx: ∀(i:Nat) (x:D) (v:Value),xs[i]? =some x→vs[i]? =some v→xS x=true∧Rp (sz τ) lo w ow .sh x v∨(∃e',x= .lst e' []∧v= .slice none 0 0)):
  ∃ow',ze τ lo w0 ow' (upd hd k (.slice (some ⟨w.heap.size,0,none⟩) n n)) bk (st.addR k ⟨.ex,e,xs,none⟩) a (w.alloc (.cells vs.toArray e)):=by
 have h1:=ZN h (.cells vs.toArray e) (some (.root k [])) (by simp)
 refine⟨_,xx h1 k _ _ ?_⟩
 have hown:=World.ownsRow_lit (base:=lo) (e:=e) (size:=sz τ e) w vs.toArray n h.low hm (by simp [hvs,hn])
 refine(zw _ _).2 ⟨vs,⟨hvs,n,hn,by simpa using hown,fun b hb=> ?_⟩,fun i x v hix hiv=> ?_⟩
 ·simp [Value.ownBlock]at hb;subst hb;exact yF _ _ _
 ·rcases hx i x v hix hiv with⟨h1,h2⟩|⟨e',rfl,rfl⟩
  ·exact Ya h1 h2
  ·exact vV _ _ _
theorem QP {w:World}{e:TypeId}{s n m:Nat}{A:Option Addr}{c:Nat}{xs:List Value}(h:w.ownsRow lo e s (.slice A n c) n xs)(hm:m≤n):w.ownsRow lo e s (.slice A m c) m (xs.take (m*s)):=by
 have hle:m*s≤n*s:=Nat.mul_le_mul_right _ hm
 refine⟨by rw [List.length_take,h.1];omega,?_⟩
 rcases h.2 with⟨hv,h0⟩|⟨g,cap,cur,hv,hb,hg,hnc,hcm,hcs,htake⟩
 ·cases hv
  left
  have :m=0:=by omega
  subst this
  exact⟨rfl,rfl⟩
 ·cases hv
  right
  exact⟨g,c,cur,rfl,hb,hg,by omega,hcm,hcs,by rw [←htake,List.take_take,Nat.min_eq_left hle]⟩
theorem zDX (h:ze τ lo w0 ow hd bk st a w)(k:Nat)(hdead:lk st.r k=none){w':World}{ow':Nat→Option Pl}(hs:w.heap.size≤w'.heap.size)(hk: ∀b,b<w.heap.size→(∀q,ow b≠some (.root k q))→w'.heap[b]? =w.heap[b]? ∧ow' b=ow b)
  (hb:yu w0 w') (hl: ∀b,(b<w.heap.size∧∀q,ow b≠some (.root k q))∨(∃q,ow' b=some (.root k q)∧b<w'.heap.size)∨ow' b=none) (hn: ∀b,w'.heap.size≤b→ow' b=none) (hge: ∀b q,ow' b=some (.root k q)→lo≤b∧w0.fre b):ze τ lo w0 ow' hd bk st a w':=by
 have hrel: ∀d R,lk st.r d=some R→∀b,b<w.heap.size→rel (md R.o d) (ow b)→∀q,ow b≠some (.root k q):=fun d R hR b hb hr q e=>by
  have hne:d≠k:=by rintro rfl;rw [hdead]at hR;cases hR
  rw [e]at hr
  cases ho:R.o<;>rw [ho]at hr<;>simp only [md,rel]at hr
  ·cases hr
  ·obtain⟨q',hq'⟩:=hr;cases hq';exact hne rfl
  ·rcases hr with hr|hr
   ·cases hr
   ·cases hr;exact hne rfl
 have hD: ∀d,noB d=false→yq w w' st.r st.r hd hd d:=fun d _ R hR=>⟨R,hR,rfl,fun p hp=>⟨hp,xE p _ _ _ _ (h.root d R hR) hp (fun b o A n c hb hr hc=>by
  rw [xe (hk b hb (hrel d R hR b hb hr)).1];exact hc)⟩⟩
 have hB: ∀t,noB t=false→yp st.b st.b bk bk t:=fun t _ hl=>⟨hl,rfl⟩
 refine⟨h.big,h.defers,h.size,Nat.le_trans h.low hs,hb,fun b p hlt hb' hp=> ?_,hn,fun j v hv=> ?_,fun d R hR=> ?_,fun t vs hv=> ?_,h.pin⟩
 ·rcases hl b with⟨h1,h2⟩|⟨q,hq,-⟩|hq
  ·rw [(hk b h1 h2).2]at hb';exact h.ge b p h1 hb' hp
  ·exact hge b q hq
  ·rw [hq]at hb';cases hb'
 ·have :=yl hD hB v _ (h.slot j v hv)
  rwa [qX]at this
 ·exact yE _ _ hs _ _ _ (fun b hb hr=>hk b hb (hrel d R hR b hb hr)) (h.root d R hR)
 ·obtain⟨cs,ty,h1,h2,h3⟩:=h.box t vs hv
  have hlt:bk t<w.heap.size:=(Array.getElem?_eq_some_iff.1 h1).1
  have hbk:=hk _ hlt (fun q e=>by rw [h2]at e;cases e)
  have :=yA hD hB vs cs h3
  rw [xF]at this
  exact⟨cs,ty,by rw [hbk.1];exact h1,by rw [hbk.2];exact h2,this⟩
def kidM (o:O3)(k i:Nat):Md:=(md o k).kid i
theorem zAA (hτ:zx P τ)(h:ze τ lo w0 ow hd bk st a w){d k:Nat}{st1:St}(s1:ze τ lo w0 ow hd bk st1 a w)(hs1:lk st1.r d=none){R:zr}(hR:lk st.r d=some R)(hm:R.o≠ .sh){A:Option Addr}{n c len m:Nat}(hhd:hd d= .slice A n c)(hlen:len≤n){t ty:TypeId}{kt:TK}{by_ bt:Nat}(ht:tk τ t=some (.sc (.sl R.e),bt))(he:tk τ R.e=some (kt,by_))(hsz:0<sz τ R.e)
  (newD:List D) (news:List Value) (src:Value) (hsrc:(∃ad c2,src= .slice (some ad) m c2∧∀j u,news[j]? =some u→w.cell? (ad.add j)=some u)∨(m=0∧∃c2,src= .slice none 0 c2)) (hnl:news.length=m*sz τ R.e) (hdl:newD.length=news.length) (h1: ∀u∈news,u.oneCell'=true)
  (hN: ∀(i:Nat) (x:D) (u:Value),newD[i]? =some x→news[i]? =some u→Rp (sz τ) lo w ow (kidM R.o k (len*sz τ R.e+i)) x u) (h63:len+m≤maxLen) (hbytes:(len+m)*by_≤140737488355328):
  ∃v' w' ow',(Builtin.append_ #[t,t] ty #[.slice A len c,src]).run P w= .ok v' w'∧ze τ lo w0 ow' (upd hd k v') bk ((st1.delR k).addR k ⟨R.o,R.e,R.xs.take (len*sz τ R.e)++newD,none⟩) a w'∧
   (R.o= .ex→∀(i:Nat) (q:List Nat),i<len*sz τ R.e→zk R.xs (i::q)→yC w' v' (i::q)=yC w (hd d) (i::q))∧
   (∀b t,b<w.heap.size→ow b=some (.box t)→w'.heap[b]? =w.heap[b]?):=by
 have hu:P.underlying t=some (.slice R.e):=(yM hτ ht).1
 obtain⟨i0,z,hi0,hz0,hzs,hs0,hb0⟩: ∃i z,P.info? R.e=some i∧i.zero=some z∧z.cells.size=sz τ R.e∧i.size=sz τ R.e∧i.bytes=by_:=by
  have :=yM hτ he
  cases kt with
  |sc c=>obtain⟨_,i,a1,a2,a3,a4,a5⟩:=this;exact⟨i,_,a1,a3,by rw [Yk he];cases c<;>rfl,by rw [Yk he];exact a2,a4⟩
  |st cs fs=>obtain⟨F,_,_,i,a1,a2,a3,a4,a5⟩:=this;exact⟨i,_,a1,a3,by rw [Ud he];simp [Value.cells],by rw [Ud he];exact a2,a4⟩
 obtain⟨vs,⟨k1,N,k2,k3⟩,k5⟩:=(zw _ _).1 (h.root d R hR)
 have hown0:w.ownsRow lo R.e (sz τ R.e) (hd d) N vs∧∀b,(hd d).ownBlock=some b→ow b=some (.root d []):=by
  cases ho:R.o<;>rw [ho]at k3<;>simp only [md]at k3
  ·exact absurd ho hm
  ·exact k3
  ·exact k3
 obtain⟨hown,hlab⟩:=hown0
 rw [hhd]at hown hlab
 have hNn:N=n:=by
  rcases hown.2 with⟨hv,h0⟩|⟨g,cap,cur,hv,_⟩
  ·cases hv;exact h0
  ·cases hv;rfl
 subst hNn
 have hpre:=QP hown hlen
 have hblk:(Value.slice A len c).ownBlock=(Value.slice A N c).ownBlock:=by cases A<;>rfl
 obtain⟨v',w',hrun,hown',hg,hvb⟩: ∃v' w',(Builtin.append_ #[t,t] ty #[.slice A len c,src]).run P w= .ok v' w'∧w'.ownsRow lo R.e (sz τ R.e) v' (len+m) (vs.take (len*sz τ R.e)++news)∧w.grownBy w' (Value.slice A len c).ownBlock∧
   (v'.ownBlock=(Value.slice A len c).ownBlock∨v'.ownBlock=some w.heap.size):=by
  rcases hsrc with⟨ad,c2,rfl,hcells⟩|⟨hm0,c2,rfl⟩
  ·obtain⟨v',w',r1,r2,r3,-,r5⟩:=run_append_own_at (P:=P) w lo t ty R.e i0 z (sz τ R.e) by_ hu hi0 hz0 hs0 hb0 hzs hsz (.slice A len c) len _ hpre ad m c2 news hnl hcells h1 h63 hbytes h.low
   exact⟨v',w',r1,r2,r3,r5⟩
  ·subst hm0
   have hnil:news= []:=List.eq_nil_of_length_eq_zero (by simpa using hnl)
   subst hnil
   refine⟨.slice A len c,w,?_,by simpa using hpre,World.grownBy.refl w _, .inl rfl⟩
   rcases hpre.2 with⟨hv,h0⟩|⟨g,cap,cur,hv,hb,hg,hnc,hcm,hcs,htake⟩
   ·cases hv
    simp [Builtin.append_,run_underlying hu,sizeOf,typeInfo,hi0,Builtin.lenOf,Builtin.firstCells]
   ·cases hv
    simp [Builtin.append_,run_underlying hu,sizeOf,typeInfo,hi0,Builtin.lenOf,Builtin.firstCells,hnc,storeCells]
 rw [hblk]at hg hvb
 have hltb: ∀b,(Value.slice A N c).ownBlock=some b→b<w.heap.size∧lo≤b:=fun b hb=>⟨(hown.lt b hb).2,(hown.lt b hb).1⟩
 -- the owners
 let ow1:=wY ow d fun q=>some (.root k q)
 let ow2:Nat→Option Pl:=fun b=>if v'.ownBlock=some b then some (.root k [])else ow1 b
 have e1: ∀b q,ow b=some (.root d q)→ow1 b=some (.root k q):=fun b q e=>ZB e
 have e2: ∀b,(∀q,ow b≠some (.root d q))→ow1 b=ow b:=fun b hb=>xh hb
 have e3: ∀b,v'.ownBlock=some b→(b<w.heap.size∧ow1 b=some (.root k []))∨b=w.heap.size:=fun b hb=>by
  rcases hvb with hvb|hvb
  ·rw [hvb]at hb;exact .inl ⟨(hltb b hb).1,e1 b [] (hlab b hb)⟩
  ·rw [hvb]at hb;cases hb;exact .inr rfl
 have e4: ∀b,b<w.heap.size→(∀q,ow1 b≠some (.root k q))→w'.heap[b]? =w.heap[b]? ∧ow2 b=ow1 b:=fun b hb hne=>by
  refine⟨hg.block b hb (fun e=> ?_),if_neg (fun e=> ?_)⟩
  ·exact hne [] (e1 b [] (hlab b e.symm))
  ·rcases e3 b e with⟨-,h⟩|h
   ·exact hne [] h
   ·omega
 have e5: ∀b j q,b<w.heap.size→ow1 b=some (.root k (j::q))→w'.heap[b]? =w.heap[b]? ∧ow2 b=ow1 b:=fun b j q hb hq=>by
  refine⟨hg.block b hb (fun e=> ?_),if_neg (fun e=> ?_)⟩
  ·have :=e1 b [] (hlab b e.symm);rw [hq]at this;simp at this
  ·rcases e3 b e with⟨-,h⟩|h
   ·rw [hq]at h;simp at h
   ·omega
 have e6: ∀b,b<w.heap.size→ow b=none→w'.heap[b]? =w.heap[b]? ∧ow2 b=none:=fun b hb hq=>by
  have h0:ow1 b=none:=by rw [e2 b (fun q e=>by rw [hq]at e;cases e)];exact hq
  have :=e4 b hb (fun q e=>by rw [h0]at e;cases e)
  exact⟨this.1,by rw [this.2,h0]⟩
 have s2:=ZO s1 d hs1 ow1 (fun b hb=>e2 b hb) (Xo (by simp))
 have s3:=ZC s2 k
 have hsz':w.heap.size≤w'.heap.size:=hg.size
 have hvlt: ∀b,v'.ownBlock=some b→b<w'.heap.size∧lo≤b:=fun b hb=>⟨(hown'.lt b hb).2,(hown'.lt b hb).1⟩
 have s4:=zDX (ow':=ow2) s3 k (by simp [St.delR,yr,is1]) hsz' e4 (s3.below.grown hg (fun b hb=>(h.ge b _ (hltb b hb).1 (hlab b hb) (by simp)).2)) (fun b=>by
   by_cases hvb':v'.ownBlock=some b
   ·exact .inr (.inl ⟨[],if_pos hvb',(hvlt b hvb').1⟩)
   ·have :ow2 b=ow1 b:=if_neg hvb'
    by_cases hlt:b<w.heap.size
    ·by_cases hq: ∃q,ow1 b=some (.root k q)
     ·obtain⟨q,hq⟩:=hq;exact .inr (.inl ⟨q,by rw [this];exact hq,by omega⟩)
     ·exact .inl ⟨hlt,fun q e=>hq ⟨q,e⟩⟩
    ·exact .inr (.inr (by rw [this];exact s3.new b (by omega)))) (fun b hb=>by
   have :ow2 b=ow1 b:=if_neg (fun e=>by have :=(hvlt b e).1;omega)
   rw [this];exact s3.new b (by omega)) (fun b q hq=>by
   by_cases hvb':v'.ownBlock=some b
   ·refine⟨(hvlt b hvb').2,?_⟩
    rcases hvb with hvb|hvb
    ·rw [hvb]at hvb';exact(h.ge b _ (hltb b hvb').1 (hlab b hvb') (by simp)).2
    ·rw [hvb]at hvb';cases hvb';exact fun hlt=>by have :=h.below.size;omega
   ·have :ow2 b=ow1 b:=if_neg hvb'
    rw [this]at hq
    by_cases hlt:b<w.heap.size
    ·exact s3.ge b _ hlt hq (by simp)
    ·rw [s3.new b (by omega)]at hq;cases hq)
 have htl:(vs.take (len*sz τ R.e)).length=len*sz τ R.e:=hpre.1
 have hxl:(R.xs.take (len*sz τ R.e)).length=len*sz τ R.e:=by rw [List.length_take,←k1,←List.length_take,htl]
 have htot:(R.xs.take (len*sz τ R.e)++newD).length=(len+m)*sz τ R.e:=by rw [List.length_append,hxl,hdl,hnl,Nat.add_mul]
 have hHd:Hd (sz τ) lo w' ow2 (md R.o k) R.e v' (R.xs.take (len*sz τ R.e)++newD).length (vs.take (len*sz τ R.e)++news):=by
  refine⟨by rw [List.length_append,List.length_append,htl,hxl,hdl],len+m,htot,?_⟩
  cases ho:R.o
  ·exact absurd ho hm
  ·exact⟨hown',fun b hb=>if_pos hb⟩
  ·exact⟨hown',fun b hb=>if_pos hb⟩
 refine⟨v',w',ow2,hrun,xx s4 k _ v' ((zw _ _).2 ⟨_,hHd,fun i x u hx hu=> ?_⟩),fun hex i q hi hp=> ?_,fun b t hb hbt=>hg.block b hb fun e=>by rw [hlab b e.symm]at hbt;cases hbt⟩
 rotate_left
 ·obtain⟨e0,ys,hx0,hq0⟩:=hp
  have hlt0:i<vs.length:=by rw [k1];exact(List.getElem?_eq_some_iff.1 hx0).1
  have hu0:vs[i]? =some vs[i]:=List.getElem?_eq_getElem hlt0
  have hH0:Hd (sz τ) lo w ow (md R.o d) R.e (hd d) R.xs.length vs:=⟨k1,_,k2,k3⟩
  obtain⟨b1,o1,n1,c1,hv1,-,-,-,hc1⟩:=qV hH0 hu0
  have hu1:(vs.take (len*sz τ R.e)++news)[i]? =some vs[i]:=by rw [List.getElem?_append_left (by omega),List.getElem?_take,if_pos hi];exact hu0
  obtain⟨b2,o2,n2,c2,hv2,-,-,-,hc2⟩:=qV hHd hu1
  have hold:=k5 i _ _ hx0 hu0
  rw [hex]at hold
  rw [hv2,hv1]
  simp only [yC,hc1,hc2,Option.bind_some]
  refine xE q _ _ _ _ hold hq0 (fun b o A n c hb hr hc=> ?_)
  obtain⟨q',hq'⟩:=hr
  have hb1:=(e5 b i q' hb (e1 b _ hq')).1
  rw [xe hb1];exact hc
 by_cases hi:i<len*sz τ R.e
 ·rw [List.getElem?_append_left (by omega),List.getElem?_take,if_pos hi]at hx hu
  have hold:=k5 i x u hx hu
  cases ho:R.o
  ·exact absurd ho hm
  ·rw [ho]at hold
   have hmv:Rp (sz τ) lo w ow1 (.ex k [i]) x u:=qW _ _ _ _ _ [i] [i] _ (fun b q hb e=>e1 b _ e) hold
   refine yE _ _ hsz' _ _ _ (fun b hb hr=> ?_) hmv
   obtain⟨q,hq⟩:=hr
   exact e5 b i q hb hq
  ·rw [ho]at hold
   refine yE _ _ hsz' _ _ _ (fun b hb hr=> ?_) hold
   have :=e6 b hb hr
   exact⟨this.1,by rw [this.2];exact hr.symm⟩
 ·rw [List.getElem?_append_right (by omega)]at hx hu
  rw [hxl]at hx
  rw [htl]at hu
  have hnew:=hN _ x u hx hu
  rw [show len*sz τ R.e+(i - len*sz τ R.e)=i from by omega]at hnew
  unfold kidM at hnew
  cases ho:R.o
  ·exact absurd ho hm
  ·rw [ho]at hnew
   refine yE _ _ hsz' _ _ _ (fun b hb hr=> ?_) hnew
   obtain⟨q,hq⟩:=hr
   have hb1:ow1 b=some (.root k (i::q)):=by
    by_cases hdk:k=d
    ·subst hdk;exact e1 b _ hq
    ·rw [e2 b (fun q' e=>by rw [hq]at e;cases e;exact hdk rfl)];exact hq
   have :=e5 b i q hb hb1
   exact⟨this.1,by rw [this.2,hb1,hq];rfl⟩
  ·rw [ho]at hnew
   refine yE _ _ hsz' _ _ _ (fun b hb hr=> ?_) hnew
   have :=e6 b hb hr
   exact⟨this.1,by rw [this.2];exact hr.symm⟩
theorem QC (hτ:zx P τ)(h:ze τ lo w0 ow hd bk st a w){d k:Nat}{st1:St}(s1:ze τ lo w0 ow hd bk st1 a w)(hs1:lk st1.r d=none){R:zr}(hR:lk st.r d=some R)(hm:R.o≠ .sh){A:Option Addr}{n c len m:Nat}(hhd:hd d= .slice A n c)(hlen:len≤n){t ty:TypeId}{kt:TK}{by_ bt:Nat}(ht:tk τ t=some (.sc (.sl R.e),bt))(he:tk τ R.e=some (kt,by_))(hsz:0<sz τ R.e)
  (newD:List D) (news:List Value) (src:Value) (hsrc:(∃ad c2,src= .slice (some ad) m c2∧∀j u,news[j]? =some u→w.cell? (ad.add j)=some u)∨(m=0∧∃c2,src= .slice none 0 c2)) (hnl:news.length=m*sz τ R.e) (hdl:newD.length=news.length) (h1: ∀u∈news,u.oneCell'=true)
  (hN: ∀(i:Nat) (x:D) (u:Value),newD[i]? =some x→news[i]? =some u→Rp (sz τ) lo w ow (kidM R.o k (len*sz τ R.e+i)) x u) (h63:len+m≤maxLen) (hbytes:(len+m)*by_≤140737488355328):
  ∃v' w' ow',(Builtin.append_ #[t,t] ty #[.slice A len c,src]).run P w= .ok v' w'∧ze τ lo w0 ow' (upd hd k v') bk ((st1.delR k).addR k ⟨R.o,R.e,R.xs.take (len*sz τ R.e)++newD,none⟩) a w':=by
 obtain⟨v',w',ow',h2,h3,-,-⟩:=zAA hτ h s1 hs1 hR hm hhd hlen ht he hsz newD news src hsrc hnl hdl h1 hN h63 hbytes
 exact⟨v',w',ow',h2,h3⟩
end
inductive VT where
 |c (d:D)
 |agg (ds:List D)
 |fn (f:FuncId) (ds:List D)
section
variable (S:TypeId→Nat) (lo:Nat)
def RpS (w:World)(ow:Nat→Option Pl):List D→List Value→Prop
 | [],cs=>cs= []
 |d::ds,cs=> ∃c cs',cs=c::cs'∧Rp S lo w ow .sh d c∧RpS w ow ds cs'
def RpF (w:World)(ow:Nat→Option Pl):Nat→List D→List Value→Prop
 |_,[],cs=>cs= []
 |j,d::ds,cs=> ∃c cs',cs=c::cs'∧Rp S lo w ow (.ex j []) d c∧RpF w ow (j+1) ds cs'
def Qw (w:World)(ow:Nat→Option Pl):VT→Value→Prop
 | .c d,v=>Rp S lo w ow .sh d v
 | .agg ds,v=> ∃cs:List Value,v= .agg cs.toArray∧RpS S lo w ow ds cs
 | .fn f ds,v=> ∃cs:List Value,v= .func (.func f) #[] cs.toArray∧RpS S lo w ow ds cs
def vo (w:World)(ow:Nat→Option Pl):List VT→List Value→Prop
 | [],vs=>vs= []
 |x::xs,vs=> ∃v vs',vs=v::vs'∧Qw S lo w ow x v∧vo w ow xs vs'
def VT.cells :VT→List D
 | .c d=> [d]
 | .agg ds=>ds
 | .fn _ ds=>ds
def vH (w:World)(ow:Nat→Option Pl):Nat→List VT→List Value→Prop
 |_,[],vs=>vs= []
 |j, .c d::xs,vs=> ∃v vs',vs=v::vs'∧Rp S lo w ow (.ex j []) d v∧vH w ow (j+1) xs vs'
 |j, .agg ds::xs,vs=> ∃cs vs',vs= .agg (List.toArray cs)::vs'∧RpF S lo w ow j ds cs∧vH w ow (j+ds.length) xs vs'
 |j, .fn f ds::xs,vs=>False
end
def wG :List Value→Value
 | [v]=>v
 |vs=> .tuple vs.toArray
def qz (P:Program)(f:FuncId):Prop:= ∃fn,P.funcs[f]? =some fn∧(fn.name== "runtime.NumGoroutine")=false∧fn.body.isNone=false
def jr (τ:Ty)(w:World)(ress:List VT)(e:Ending)(w':World):Prop:=
 ∃vs ow',e= .returned (wG vs)∧Below w.heap.size w w'∧(∀b,b<w.heap.size→ow' b=none)∧(∀b p,ow' b=some p→b<w'.heap.size∧p≠ .ext)∧vH (sz τ) w.heap.size w' ow' 0 ress vs
def Fn (P:Program)(τ:Ty)(f:FuncId)(args ress:List VT):Prop:=
 qz P f∧∀(w:World) (cargs:List Value),vo (sz τ) w.heap.size w (fun _=>none) args cargs→Calls P f cargs.toArray w (jr τ w ress)
def cellsOf (τ:Ty)(st:St):AV→Option (D×Prop)
 | .int k n=>some (.int k n,True)
 | .bool b=>some (.bool b,True)
 | .sl d p off len e=>match lk st.r d with
  |some R=>some (.lst e (((yI R.xs p).drop (off*sz τ e)).take (len*sz τ e)),zk R.xs p∧vF R.e R.xs p=e)
  |none=>none
 |_=>none
def xC (τ:Ty)(st:St):List AV→Option (List D×Prop)
 | []=>some ([],True)
 |v::vs=>match cellsOf τ st v,xC τ st vs with
  |some (d,p),some (ds,q)=>some (d::ds,p∧q)
  |_,_=>none
def UY (τ:Ty)(t:TypeId):D:=match tk τ t with|some (.sc (.sl e),_)=> .lst e []|_=> .lst 0 []
def XX (τ:Ty)(st:St)(c:CK):AV→Option (D×Prop)
 | .nil=>match c with
  | .sl e=>some (.lst e [],True)
  |_=>none
 |v=>cellsOf τ st v
def qI (τ:Ty)(st:St):List CK→List AV→Option (List D×Prop)
 |_,[]=>some ([],True)
 | [],_::_=>none
 |c::cs,v::vs=>match XX τ st c v,qI τ st cs vs with
  |some (d,p),some (ds,q)=>some (d::ds,p∧q)
  |_,_=>none
def ZT (τ:Ty)(st:St)(t:TypeId)(vs:List AV):Option (List D×Prop):=
 match xC τ st vs with
 |some x=>some x
 |none=>qI τ st (cks τ t) vs
def vp (τ:Ty)(st:St)(t:TypeId):AV→Option (VT×Prop)
 | .agg vs=>(ZT τ st t vs).map fun x=>(.agg x.1,x.2)
 | .fn f vs=>(xC τ st vs).map fun x=>(.fn f x.1,x.2)
 | .nil=>some (.c (UY τ t),True)
 |v=>(cellsOf τ st v).map fun x=>(.c x.1,x.2)
def ye (τ:Ty)(st:St):List TypeId→List AV→Option (List VT×Prop)
 |_,[]=>some ([],True)
 |ts,v::vs=>match vp τ st (ts.headD 0) v,ye τ st ts.tail vs with
  |some (d,p),some (ds,q)=>some (d::ds,p∧q)
  |_,_=>none
def yi (t:Nat):Nat→List D→St→St
 |_,[],st=>st
 |j, .lst e xs::ds,st=>yi t (j+1) ds (st.addR (zb t j) ⟨.ex,e,xs,none⟩)
 |j,_::ds,st=>yi t (j+1) ds st
def yR (τ:Ty)(t:Nat):Nat→List D→List AV
 |_,[]=> []
 |j, .lst e xs::ds=> .sl (zb t j) [] 0 (xs.length / sz τ e) e::yR τ t (j+1) ds
 |j, .int k n::ds=> .int k n::yR τ t (j+1) ds
 |j, .bool b::ds=> .bool b::yR τ t (j+1) ds
 |j, .hole::ds=> .dead::yR τ t (j+1) ds
def zv :List VT→List D
 | []=> []
 |x::xs=>x.cells++zv xs
def xT (τ:Ty)(t:Nat):Nat→List VT→List AV
 |_,[]=> []
 |j, .c d::xs=>(yR τ t j [d]).headD .dead::xT τ t (j+1) xs
 |j, .agg ds::xs=> .agg (yR τ t j ds)::xT τ t (j+ds.length) xs
 |j, .fn _ ds::xs=> .dead::xT τ t (j+ds.length) xs
def qk :List AV→AV
 | [v]=>v
 |vs=> .tup vs
section
variable {P:Program} {τ:Ty} {lo:Nat} {w0:Fz} {ow:Nat→Option Pl} {hd:Nat→Value} {bk:Nat→Nat} {st:St} {a:Act} {w:World}
mutual
theorem zEZ {S:TypeId→Nat}{lo lo':Nat}{w:World}{ow:Nat→Option Pl}: ∀(d:D) (v:Value),Rp S lo w ow .sh d v→Rp S lo' w ow .sh d v
 | .int k n,v,h=>by simpa only [Rp]using h
 | .bool b,v,h=>by simpa only [Rp]using h
 | .hole,v,h=>by simpa only [Rp]using h
 | .lst e xs,v,h=>by
  simp only [Rp]at h⊢
  obtain⟨vs,h1,h2⟩:=h
  exact⟨vs,h1,zCQ xs 0 vs h2⟩
theorem zCQ {S:TypeId→Nat}{lo lo':Nat}{w:World}{ow:Nat→Option Pl}: ∀(xs:List D) (k:Nat) (vs:List Value),RpL S lo w ow .sh k xs vs→RpL S lo' w ow .sh k xs vs
 | [],k,vs,h=>by simpa only [RpL]using h
 |x::xs,k,vs,h=>by
  simp only [RpL]at h⊢
  obtain⟨v,vs',h1,h2,h3⟩:=h
  exact⟨v,vs',h1,zEZ x v h2,zCQ xs (k+1) vs' h3⟩
end
theorem zHy {S:TypeId→Nat}{lo lo':Nat}{w:World}{ow:Nat→Option Pl}{d:D}{v:Value}(h:Rp S lo w ow .sh d v):Rp S lo' w ow .sh d v:=zEZ d v h
theorem Yl (h:ze τ lo w0 ow hd bk st a w){d:Nat}{p:List Nat}{off len:Nat}{e:TypeId}{R:zr}(hR:lk st.r d=some R)(hp:zk R.xs p){v hv:Value}(hin:yC w (hd d) p=some hv)(hsub:Sub (sz τ e) hv off len v)(he:vF R.e R.xs p=e):
  ∀lo',Rp (sz τ) lo' w (fun _=>none) .sh (.lst e (((yI R.xs p).drop (off*sz τ e)).take (len*sz τ e))) v:=by
 intro lo'
 obtain⟨m',e',u,i1,i2,-,i3,-⟩:=YP p _ _ _ _ (h.root d R hR) hp
 have hse:sz τ e'=sz τ e:=by rw [i3,he]
 rw [hin]at i1;cases i1
 obtain⟨vs,k1,k5⟩:=(zw _ _).1 (zHy (lo':=lo') (Qz _ _ (ow':=fun _=>none) _ _ _ (fun _ _ _=>rfl) i2))
 obtain⟨A,n,c,A',c',hnw,rfl,rfl,hle,hlc,hmx,hf,hA⟩:=hsub
 obtain⟨k2,N,k3,A2,c2,hv,hN,hc2,k4⟩:=k1
 cases hv
 rw [hse]at k3
 have hdrop:(off+len)*sz τ e≤(yI R.xs p).length:=by rw [k3];exact Nat.mul_le_mul_right _ hle
 have hlen:(((yI R.xs p).drop (off*sz τ e)).take (len*sz τ e)).length=len*sz τ e:=by rw [List.length_take,List.length_drop];rw [Nat.add_mul]at hdrop;omega
 have hvlen:((vs.drop (off*sz τ e)).take (len*sz τ e)).length=len*sz τ e:=by rw [List.length_take,List.length_drop,k2];rw [Nat.add_mul]at hdrop;omega
 refine(zw _ _).2 ⟨(vs.drop (off*sz τ e)).take (len*sz τ e),⟨by rw [hvlen,hlen],len,hlen,A',c',rfl,hlc,hmx,fun h0=> ?_⟩,fun i x u hx hu=> ?_⟩
 ·obtain⟨b,o,hA1,hA2⟩:=hA h0
  have hn0:n≠0:=by omega
  obtain⟨b',o',e1,hb,-,hcell⟩:=k4 hn0
  rw [hA1]at e1;cases e1
  refine⟨b,_,hA2,hb,rfl,fun i u hu=> ?_⟩
  rw [List.getElem?_take]at hu
  split at hu
  ·rw [List.getElem?_drop]at hu
   have :=hcell _ u hu
   rwa [←Nat.add_assoc]at this
  ·cases hu
 ·rw [List.getElem?_take]at hx hu
  split at hx
  ·rename_i hh
   rw [if_pos hh,List.getElem?_drop]at hu
   rw [List.getElem?_drop]at hx
   have :=k5 _ _ _ hx hu
   exact this
  ·cases hx
theorem YU (h:ze τ lo w0 ow hd bk st a w){v:AV}{x:Value}(hv:AvR τ w st.r st.b hd bk v x){d:D}{ob:Prop}(he:cellsOf τ st v=some (d,ob))(hob:ob)(lo':Nat):Rp (sz τ) lo' w (fun _=>none) .sh d x:=by
 cases v<;>simp only [cellsOf]at he<;>try(cases he;done)
 case int k n=>simp only [Option.some.injEq,Prod.mk.injEq]at he;obtain⟨rfl,rfl⟩:=he;simpa only [AvR,Rp]using hv
 case bool b=>simp only [Option.some.injEq,Prod.mk.injEq]at he;obtain⟨rfl,rfl⟩:=he;simpa only [AvR,Rp]using hv
 case sl d p off len e=>
  cases hR:lk st.r d with
  |none=>rw [hR]at he;cases he
  |some R=>
   rw [hR]at he
   simp only [Option.some.injEq,Prod.mk.injEq]at he
   obtain⟨rfl,rfl⟩:=he
   simp only [AvR]at hv
   obtain⟨hv',hin,hsub⟩:=hv.2 R hR hob.1
   exact Yl h hR hob.1 hin hsub hob.2 lo'
theorem Zp (h:ze τ lo w0 ow hd bk st a w)(lo':Nat): ∀{vs:List AV} {xs:List Value} {ds:List D} {ob:Prop},zY τ w st.r st.b hd bk vs xs→xC τ st vs=some (ds,ob)→ob→RpS (sz τ) lo' w (fun _=>none) ds xs
 | [],xs,ds,ob,hv,he,hob=>by
  simp only [xC,Option.some.injEq,Prod.mk.injEq]at he
  obtain⟨rfl,rfl⟩:=he
  simpa only [zY,RpS]using hv
 |v::vs,xs,ds,ob,hv,he,hob=>by
  simp only [zY]at hv
  obtain⟨x,xs',rfl,h1,h2⟩:=hv
  simp only [xC]at he
  split at he
  ·rename_i d p ds' q e1 e2
   simp only [Option.some.injEq,Prod.mk.injEq]at he
   obtain⟨rfl,rfl⟩:=he
   simp only [RpS]
   exact⟨x,xs',rfl,YU h h1 e1 hob.1 lo',Zp h lo' h2 e2 hob.2⟩
  ·cases he
theorem zFm (lo':Nat)(e:TypeId):Rp (sz τ) lo' w (fun _=>none) .sh (.lst e []) (.slice none 0 0):=(zw _ _).2 ⟨[],⟨rfl,0,by simp,none,0,rfl,Nat.le_refl _,by unfold maxLen;omega,fun h=>absurd rfl h⟩,fun i x u hx=>by simp at hx⟩
theorem zB0 (h:ze τ lo w0 ow hd bk st a w){c:CK}{v:AV}{x:Value}(hv:AvR τ w st.r st.b hd bk v x){d:D}{ob:Prop}(he:XX τ st c v=some (d,ob))(hob:ob)(lo':Nat):Rp (sz τ) lo' w (fun _=>none) .sh d x:=by
 unfold XX at he
 split at he
 ·split at he
  ·simp only [Option.some.injEq,Prod.mk.injEq]at he
   obtain⟨rfl,rfl⟩:=he
   simp only [AvR]at hv
   subst hv
   exact zFm lo' _
  ·cases he
 ·exact YU h hv he hob lo'
theorem WE (h:ze τ lo w0 ow hd bk st a w)(lo':Nat): ∀{ks:List CK} {vs:List AV} {xs:List Value} {ds:List D} {ob:Prop},zY τ w st.r st.b hd bk vs xs→qI τ st ks vs=some (ds,ob)→ob→RpS (sz τ) lo' w (fun _=>none) ds xs
 |ks,[],xs,ds,ob,hv,he,hob=>by
  simp only [qI,Option.some.injEq,Prod.mk.injEq]at he
  obtain⟨rfl,rfl⟩:=he
  simpa only [zY,RpS]using hv
 | [],v::vs,xs,ds,ob,hv,he,hob=>by simp only [qI]at he;cases he
 |k::ks,v::vs,xs,ds,ob,hv,he,hob=>by
  simp only [zY]at hv
  obtain⟨x,xs',rfl,h1,h2⟩:=hv
  simp only [qI]at he
  split at he
  ·rename_i d p ds' q e1 e2
   simp only [Option.some.injEq,Prod.mk.injEq]at he
   obtain⟨rfl,rfl⟩:=he
   simp only [RpS]
   exact⟨x,xs',rfl,zB0 h h1 e1 hob.1 lo',WE h lo' h2 e2 hob.2⟩
  ·cases he
theorem zBr (h:ze τ lo w0 ow hd bk st a w)(lo':Nat){t:TypeId}{vs:List AV}{xs:List Value}{ds:List D}{ob:Prop}(hv:zY τ w st.r st.b hd bk vs xs)(he:ZT τ st t vs=some (ds,ob))(hob:ob):RpS (sz τ) lo' w (fun _=>none) ds xs:=by
 unfold ZT at he
 split at he
 ·rename_i x hx;cases he;exact Zp h lo' hv hx hob
 ·exact WE h lo' hv he hob
theorem zBt (h:ze τ lo w0 ow hd bk st a w)(lo':Nat){t:TypeId}{v:AV}{x:Value}(hv:AvR τ w st.r st.b hd bk v x){d:VT}{ob:Prop}(he:vp τ st t v=some (d,ob))(hob:ob):Qw (sz τ) lo' w (fun _=>none) d x:=by
 have plain: ∀(v:AV),AvR τ w st.r st.b hd bk v x→((cellsOf τ st v).map fun x=>(VT.c x.1,x.2))=some (d,ob)→Qw (sz τ) lo' w (fun _=>none) d x:=fun v hv he=>by
  cases hc:cellsOf τ st v with
  |none=>rw [hc]at he;cases he
  |some y=>
   rw [hc]at he
   simp only [Option.map_some,Option.some.injEq,Prod.mk.injEq]at he
   obtain⟨rfl,rfl⟩:=he
   exact YU h hv hc hob lo'
 cases v with
 |agg vs=>
  simp only [vp]at he
  cases hc:ZT τ st t vs with
  |none=>rw [hc]at he;cases he
  |some y=>
   rw [hc]at he
   simp only [Option.map_some,Option.some.injEq,Prod.mk.injEq]at he
   obtain⟨rfl,rfl⟩:=he
   simp only [AvR]at hv
   obtain⟨cs,rfl,hr⟩:=hv
   exact⟨cs,rfl,zBr h lo' hr hc hob⟩
 |fn f vs=>
  simp only [vp]at he
  cases hc:xC τ st vs with
  |none=>rw [hc]at he;cases he
  |some y=>
   rw [hc]at he
   simp only [Option.map_some,Option.some.injEq,Prod.mk.injEq]at he
   obtain⟨rfl,rfl⟩:=he
   simp only [AvR]at hv
   obtain⟨cs,rfl,hr⟩:=hv
   exact⟨cs,rfl,Zp h lo' hr hc hob⟩
 |nil=>
  simp only [vp,Option.some.injEq,Prod.mk.injEq]at he
  obtain⟨rfl,rfl⟩:=he
  simp only [AvR]at hv
  subst hv
  have : ∀e,Rp (sz τ) lo' w (fun _=>none) .sh (.lst e []) (.slice none 0 0):=fun e=>(zw _ _).2 ⟨[],⟨rfl,0,by simp,none,0,rfl,Nat.le_refl _,by unfold maxLen;omega,fun h=>absurd rfl h⟩,fun i x u hx=>by simp at hx⟩
  unfold UY
  split<;>exact this _
 |int k n=>exact plain _ hv he
 |bool b=>exact plain _ hv he
 |sl d p off len e=>exact plain _ hv he
 |ep d p i=>exact plain _ hv he
 |bp t i=>exact plain _ hv he
 |tup vs=>exact plain _ hv he
 |dead=>exact plain _ hv he
 |raw u=>exact plain _ hv he
theorem ZV (h:ze τ lo w0 ow hd bk st a w)(lo':Nat): ∀{vs:List AV} {xs:List Value} {ts:List TypeId} {ds:List VT} {ob:Prop},zY τ w st.r st.b hd bk vs xs→ye τ st ts vs=some (ds,ob)→ob→vo (sz τ) lo' w (fun _=>none) ds xs
 | [],xs,ts,ds,ob,hv,he,hob=>by
  simp only [ye,Option.some.injEq,Prod.mk.injEq]at he
  obtain⟨rfl,rfl⟩:=he
  simpa only [zY,vo]using hv
 |v::vs,xs,ts,ds,ob,hv,he,hob=>by
  simp only [zY]at hv
  obtain⟨x,xs',rfl,h1,h2⟩:=hv
  simp only [ye]at he
  split at he
  ·rename_i d p ds' q e1 e2
   simp only [Option.some.injEq,Prod.mk.injEq]at he
   obtain⟨rfl,rfl⟩:=he
   simp only [vo]
   exact⟨x,xs',rfl,zBt h lo' h1 e1 hob.1,ZV h lo' h2 e2 hob.2⟩
  ·cases he
theorem Vh (t:Nat): ∀(ds:List D) (j:Nat) (st:St) (hd:Nat→Value) (cs:List Value),ze τ lo w0 ow hd bk st a w→cs.length=ds.length→(∀(i:Nat) (d:D) (c:Value),ds[i]? =some d→cs[i]? =some c→Rp (sz τ) lo w ow (.ex (zb t (j+i)) []) d c)→
  ∃hd',ze τ lo w0 ow hd' bk (yi t j ds st) a w∧(∀k,k<zb t j→hd' k=hd k∧lk (yi t j ds st).r k=lk st.r k)∧
   (∀(i:Nat) (e:TypeId) (xs:List D) (c:Value),ds[i]? =some (.lst e xs)→cs[i]? =some c→lk (yi t j ds st).r (zb t (j+i))=some ⟨.ex,e,xs,none⟩∧hd' (zb t (j+i))=c)
 | [],j,st,hd,cs,h,_,_=>⟨hd,h,fun k _=>⟨rfl,rfl⟩,fun i e xs c hx=>by simp at hx⟩
 |d::ds,j,st,hd,cs,h,hl,hr=>by
  cases cs with
  |nil=>simp at hl
  |cons c cs=>
   have hr': ∀(i:Nat) (d':D) (c':Value),ds[i]? =some d'→cs[i]? =some c'→Rp (sz τ) lo w ow (.ex (zb t (j+1+i)) []) d' c':=fun i d' c' h1 h2=>by
    have :=hr (i+1) d' c' (by simpa using h1) (by simpa using h2)
    rwa [show j+(i+1)=j+1+i from by omega]at this
   have fin: ∀(st1:St) (hd1:Nat→Value),yi t j (d::ds) st=yi t (j+1) ds st1→ze τ lo w0 ow hd1 bk st1 a w→(∀k,k<zb t j→hd1 k=hd k∧lk st1.r k=lk st.r k)→(∀e xs,d= .lst e xs→lk st1.r (zb t j)=some ⟨.ex,e,xs,none⟩∧hd1 (zb t j)=c)→
     ∃hd',ze τ lo w0 ow hd' bk (yi t j (d::ds) st) a w∧(∀k,k<zb t j→hd' k=hd k∧lk (yi t j (d::ds) st).r k=lk st.r k)∧
      (∀(i:Nat) (e:TypeId) (xs:List D) (c':Value),(d::ds)[i]? =some (.lst e xs)→(c::cs)[i]? =some c'→lk (yi t j (d::ds) st).r (zb t (j+i))=some ⟨.ex,e,xs,none⟩∧hd' (zb t (j+i))=c'):=by
    intro st1 hd1 hst h1 hk hd0
    rw [hst]
    obtain⟨hd',r1,r2,r3⟩:=Vh t ds (j+1) st1 hd1 cs h1 (by simpa using hl) hr'
    refine⟨hd',r1,fun k hlt=> ?_,fun i e xs c' hx hc=> ?_⟩
    ·have :=r2 k (by unfold zb at hlt⊢;omega)
     have :=hk k hlt
     exact⟨by simp_all,by simp_all⟩
    ·cases i with
     |zero=>
      simp at hx hc
      subst hc
      have h2:=r2 (zb t j) (by unfold zb;omega)
      have h3:=hd0 e xs hx
      rw [show j+0=j from rfl,h2.1,h2.2]
      exact h3
     |succ i=>
      have :=r3 i e xs c' (by simpa using hx) (by simpa using hc)
      rwa [show j+(i+1)=j+1+i from by omega]
   cases d with
   |lst e xs=>
    have h0:=hr 0 _ c rfl rfl
    rw [Nat.add_zero]at h0
    refine fin _ _ rfl (xx h (zb t j) ⟨.ex,e,xs,none⟩ c h0) (fun k hk=> ?_) (fun e' xs' hd=> ?_)
    ·simp only [St.addR,zd]
     rw [qf _ _ (by omega),if_neg (by omega)]
     exact⟨rfl,rfl⟩
    ·cases hd
     simp only [St.addR,zd,if_true]
     exact⟨trivial,yF _ _ _⟩
   |int k n=>exact fin st hd rfl h (fun k hk=>⟨rfl,rfl⟩) (fun e xs hd=>by cases hd)
   |bool b=>exact fin st hd rfl h (fun k hk=>⟨rfl,rfl⟩) (fun e xs hd=>by cases hd)
   |hole=>exact fin st hd rfl h (fun k hk=>⟨rfl,rfl⟩) (fun e xs hd=>by cases hd)
end
section
variable {P:Program} {τ:Ty} {lo:Nat} {w0:Fz} {ow:Nat→Option Pl} {hd:Nat→Value} {bk:Nat→Nat} {st:St} {a:Act} {w:World}
def szL (τ:Ty):List D→Prop
 | []=>True
 | .lst e _::ds=>sz τ e≠0∧szL τ ds
 | .hole::ds=>False
 |_::ds=>szL τ ds
theorem wZ {rr:List (Nat×zr)}{bb:List (Nat×List AV)}(t:Nat): ∀(ds:List D) (j:Nat) (cs:List Value),cs.length=ds.length→szL τ ds→(∀(i:Nat) (d:D) (c:Value),ds[i]? =some d→cs[i]? =some c→∃m,Rp (sz τ) lo w ow m d c)→
  (∀(i:Nat) (e:TypeId) (xs:List D) (c:Value),ds[i]? =some (.lst e xs)→cs[i]? =some c→hd (zb t (j+i))=c)→zY τ w rr bb hd bk (yR τ t j ds) cs
 | [],j,cs,hl,_,_,_=>by
  have :cs= []:=List.eq_nil_of_length_eq_zero (by simpa using hl)
  simp [yR,zY,this]
 |d::ds,j,cs,hl,hs,hr,hh=>by
  cases cs with
  |nil=>simp at hl
  |cons c cs=>
   obtain⟨m,h0⟩:=hr 0 d c rfl rfl
   have tl:szL τ ds→zY τ w rr bb hd bk (yR τ t (j+1) ds) cs:=fun hs=>wZ t ds (j+1) cs (by simpa using hl) hs (fun i d' c' h1 h2=>hr (i+1) d' c' (by simpa using h1) (by simpa using h2)) (fun i e xs c' h1 h2=>by
    have :=hh (i+1) e xs c' (by simpa using h1) (by simpa using h2)
    rwa [show j+(i+1)=j+1+i from by omega]at this)
   cases d with
   |int k n=>
    simp only [Rp]at h0
    simp only [yR,zY]
    exact⟨c,cs,rfl,by simpa only [AvR]using h0,tl hs⟩
   |bool b=>
    simp only [Rp]at h0
    simp only [yR,zY]
    exact⟨c,cs,rfl,by simpa only [AvR]using h0,tl hs⟩
   |hole=>exact False.elim hs
   |lst e xs=>
    obtain⟨A,n,k,rfl,hn,hk,hm⟩:=xZ h0
    have hd0:=hh 0 e xs _ rfl rfl
    rw [Nat.add_zero]at hd0
    have hpos:0<sz τ e:=Nat.pos_of_ne_zero hs.1
    have hdiv:xs.length / sz τ e=n:=by rw [hn,Nat.mul_div_cancel _ hpos]
    simp only [yR,zY]
    refine⟨_,cs,rfl,?_,tl hs.2⟩
    simp only [AvR]
    refine⟨⟨_,_,_,rfl⟩,fun R hR hp=>⟨.slice A n k,?_,A,n,k,A,k,nw0,rfl,by rw [hdiv],by omega,by omega,hm,fun _=>⟨rfl,rfl⟩,fun h0'=> ?_⟩⟩
    ·simp only [yC,hd0]
    ·rw [hdiv]at h0'
     obtain⟨vs,q1,q2⟩:=(zw _ _).1 h0
     have hlen:0<vs.length:=by rw [q1.1,hn];exact Nat.mul_pos (Nat.pos_of_ne_zero h0') hpos
     obtain⟨b2,o2,n3,c3,hv3,-⟩:=qV q1 (List.getElem?_eq_getElem hlen)
     cases hv3
     exact⟨b2,o2,rfl,by simp⟩
theorem Zx (t:Nat): ∀(ds:List D) (j:Nat),(yR τ t j ds).length=ds.length
 | [],j=>rfl
 |d::ds,j=>by cases d<;>simp [yR,Zx t ds]
theorem zCP {S:TypeId→Nat}{lo:Nat}{w:World}{ow:Nat→Option Pl}: ∀{ds:List D} {cs:List Value} {j:Nat},RpF S lo w ow j ds cs→cs.length=ds.length∧∀(i:Nat) (d:D) (c:Value),ds[i]? =some d→cs[i]? =some c→Rp S lo w ow (.ex (j+i) []) d c
 | [],cs,j,h=>by simp only [RpF]at h;subst h;exact⟨rfl,fun i d c h=>by simp at h⟩
 |d::ds,cs,j,h=>by
  simp only [RpF]at h
  obtain⟨c,cs',rfl,h1,h2⟩:=h
  obtain⟨h3,h4⟩:=zCP h2
  refine⟨by simp [h3],fun i d' c' hd hc=> ?_⟩
  cases i with
  |zero=>simp at hd hc;subst hd;subst hc;exact h1
  |succ i=>have :=h4 i d' c' (by simpa using hd) (by simpa using hc);rwa [show j+(i+1)=j+1+i from by omega]
theorem XQ {S:TypeId→Nat}{lo:Nat}{w:World}{ow:Nat→Option Pl}{τ:Ty}{rr:List (Nat×zr)}{bb:List (Nat×List AV)}{t:Nat}: ∀{ress:List VT} {vs:List Value} {j:Nat},vH S lo w ow j ress vs→
  ∃cs:List Value,cs.length=(zv ress).length∧(∀(i:Nat) (d:D) (c:Value),(zv ress)[i]? =some d→cs[i]? =some c→Rp S lo w ow (.ex (j+i) []) d c)∧
   (∀(w':World) (hd':Nat→Value),zY τ w' rr bb hd' bk (yR τ t j (zv ress)) cs→zY τ w' rr bb hd' bk (xT τ t j ress) vs)
 | [],vs,j,h=>by simp only [vH]at h;subst h;exact⟨[],rfl,fun i d c h=>by simp [zv]at h,fun w' hd' h=>by simp [xT,zY]⟩
 | .c d::xs,vs,j,h=>by
  simp only [vH]at h
  obtain⟨v,vs',rfl,h1,h2⟩:=h
  obtain⟨cs,k1,k2,k3⟩:=XQ (τ:=τ) (rr:=rr) (bb:=bb) (t:=t) h2
  refine⟨v::cs,by simp [zv,VT.cells,k1],fun i d' c' hd hc=> ?_,fun w' hd' hh=> ?_⟩
  ·cases i with
   |zero=>simp [zv,VT.cells]at hd hc;subst hd;subst hc;exact h1
   |succ i=>have :=k2 i d' c' (by simpa [zv,VT.cells]using hd) (by simpa using hc);rwa [show j+(i+1)=j+1+i from by omega]
  ·have e:yR τ t j (zv (.c d::xs))=(yR τ t j [d]).headD .dead::yR τ t (j+1) (zv xs):=by cases d<;>rfl
   rw [e]at hh
   simp only [zY]at hh
   obtain⟨v',cs',hv,h3,h4⟩:=hh
   cases hv
   simp only [xT,zY]
   exact⟨v,vs',rfl,h3,k3 w' hd' h4⟩
 | .agg ds::xs,vs,j,h=>by
  simp only [vH]at h
  obtain⟨us,vs',rfl,h1,h2⟩:=h
  obtain⟨u1,u2⟩:=zCP h1
  obtain⟨cs,k1,k2,k3⟩:=XQ (τ:=τ) (rr:=rr) (bb:=bb) (t:=t) h2
  refine⟨us++cs,by simp [zv,VT.cells,k1,u1],fun i d' c' hd hc=> ?_,fun w' hd' hh=> ?_⟩
  ·simp only [zv,VT.cells]at hd
   by_cases hi:i<ds.length
   ·rw [List.getElem?_append_left hi]at hd
    rw [List.getElem?_append_left (by omega)]at hc
    exact u2 i d' c' hd hc
   ·rw [List.getElem?_append_right (by omega)]at hd
    rw [List.getElem?_append_right (by omega),u1]at hc
    have :=k2 _ d' c' hd hc
    rwa [show j+ds.length+(i - ds.length)=j+i from by omega]at this
  ·have e: ∀(ds es:List D) (j:Nat),yR τ t j (ds++es)=yR τ t j ds++yR τ t (j+ds.length) es:=by
    intro ds
    induction ds with
    |nil=>intro es j;rfl
    |cons d ds ih=>intro es j;cases d<;>simp only [List.cons_append,yR,ih,List.length_cons]<;>rw [show j+1+ds.length=j+(ds.length+1)from by omega]
   simp only [zv,VT.cells,e]at hh
   obtain⟨l1,l2⟩:=zp.1 hh
   simp only [xT,zY]
   refine⟨_,vs',rfl,?_,k3 w' hd' (zp.2 ⟨by rw [Zx];exact k1,fun i v x hv hx=> ?_⟩)⟩
   ·simp only [AvR]
    refine⟨us,rfl,zp.2 ⟨by rw [Zx];exact u1,fun i v x hv hx=> ?_⟩⟩
    have hi:=(List.getElem?_eq_some_iff.1 hv).1
    exact l2 i v x (by rw [List.getElem?_append_left hi];exact hv) (by rw [List.getElem?_append_left (by rw [Zx]at hi;omega)];exact hx)
   ·refine l2 (ds.length+i) v x ?_ ?_
    ·rw [List.getElem?_append_right (by rw [Zx];omega),Zx,show ds.length+i - ds.length=i from by omega];exact hv
    ·rw [List.getElem?_append_right (by omega),u1,show ds.length+i - ds.length=i from by omega];exact hx
 | .fn f ds::xs,vs,j,h=>by simp only [vH]at h
theorem jb {rr:List (Nat×zr)}{bb:List (Nat×List AV)}{vs:List AV}{xs:List Value}(h:zY τ w rr bb hd bk vs xs):AvR τ w rr bb hd bk (qk vs) (wG xs):=by
 have hl:=(zp.1 h).1
 match vs,xs,hl with
 | [],[],_=>simp only [qk,wG,AvR];exact⟨[],rfl,by simp [zY]⟩
 | [v],[x],_=>simp only [zY]at h;obtain⟨y,ys,e,h1,h2⟩:=h;cases e;simpa only [qk,wG]using h1
 |v::v'::vs,x::x'::xs,_=>simp only [qk,wG,AvR];exact⟨_,rfl,h⟩
mutual
theorem Up {S:TypeId→Nat}{lo lo':Nat}{w:World}{ow:Nat→Option Pl}(hle:lo'≤lo): ∀(d:D) (m:Md) (v:Value),Rp S lo w ow m d v→Rp S lo' w ow m d v
 | .int k n,m,v,h=>by simpa only [Rp]using h
 | .bool b,m,v,h=>by simpa only [Rp]using h
 | .hole,m,v,h=>by simpa only [Rp]using h
 | .lst e xs,m,v,h=>by
  simp only [Rp]at h⊢
  obtain⟨vs,⟨h0,n,h1,h2⟩,h3⟩:=h
  refine⟨vs,⟨h0,n,h1,?_⟩,uF hle xs m 0 vs h3⟩
  have own:w.ownsRow lo e (S e) v n vs→w.ownsRow lo' e (S e) v n vs:=fun h=>⟨h.1,by
   rcases h.2 with hn|⟨g,cap,cur,hv,hb,rest⟩
   ·exact .inl hn
   ·exact .inr ⟨g,cap,cur,hv,Nat.le_trans hle hb,rest⟩⟩
  cases m with
  |sh=>exact h2
  |ex d p=>exact⟨own h2.1,h2.2⟩
  |top d p=>exact⟨own h2.1,h2.2⟩
theorem uF {S:TypeId→Nat}{lo lo':Nat}{w:World}{ow:Nat→Option Pl}(hle:lo'≤lo): ∀(xs:List D) (m:Md) (k:Nat) (vs:List Value),RpL S lo w ow m k xs vs→RpL S lo' w ow m k xs vs
 | [],m,k,vs,h=>by simpa only [RpL]using h
 |x::xs,m,k,vs,h=>by
  simp only [RpL]at h⊢
  obtain⟨v,vs',h1,h2,h3⟩:=h
  exact⟨v,vs',h1,Up hle x _ v h2,uF hle xs m (k+1) vs' h3⟩
end
theorem Ve (h:ze τ lo w0 ow hd bk st a w){ress:List VT}{t:Nat}(hs:szL τ (zv ress)){e:Ending}{w':World}(hp:jr τ w ress e w'):
  ∃z ow' hd',e= .returned z∧ze τ lo w0 ow' hd' bk (yi t 0 (zv ress) st) a w'∧AvR τ w' (yi t 0 (zv ress) st).r (yi t 0 (zv ress) st).b hd' bk (qk (xT τ t 0 ress)) z:=by
 obtain⟨vs,ow',he,hb,hlow,hnew,hres⟩:=hp
 let ow2:Nat→Option Pl:=fun b=>if b<w.heap.size then ow b else match ow' b with|some (.root j q)=>some (.root (zb t j) q)|_=>none
 have e1: ∀b,b<w.heap.size→ow2 b=ow b:=fun b hb=>if_pos hb
 have e2: ∀b j q,ow' b=some (.root j q)→ow2 b=some (.root (zb t j) q):=fun b j q hq=>by
  have : ¬b<w.heap.size:=fun hlt=>by rw [hlow b hlt]at hq;cases hq
  simp only [ow2,if_neg this,hq]
 have hgrow:=XP h (w':=w') (ow':=ow2) hb.size (fun b hlt=>⟨hb.block b hlt,e1 b hlt⟩) (h.below.below hb) (fun b p hle hp hne=>⟨by have :=h.low;omega,fun hlt=>by have :=h.below.size;omega⟩) (fun b hle=>by
  have : ¬b<w.heap.size:=by have :=hb.size;omega
  simp only [ow2,if_neg this]
  cases ho:ow' b with
  |none=>rfl
  |some p=>have :=(hnew b p ho).1;omega)
 obtain⟨cs,k1,k2,k3⟩:=XQ (bk:=bk) (τ:=τ) (rr:=(yi t 0 (zv ress) st).r) (bb:=(yi t 0 (zv ress) st).b) (t:=t) hres
 have hlo: ∀{d:Nat} {x:D} {v:Value},Rp (sz τ) w.heap.size w' ow2 (.ex d []) x v→Rp (sz τ) lo w' ow2 (.ex d []) x v:=fun h'=>Up h.low _ _ _ h'
 have k2': ∀(i:Nat) (d:D) (c:Value),(zv ress)[i]? =some d→cs[i]? =some c→Rp (sz τ) lo w' ow2 (.ex (zb t (0+i)) []) d c:=fun i d c hd hc=>by
  have :=k2 i d c hd hc
  exact hlo (qW _ _ _ _ _ [] [] _ (fun b q _ e=>e2 b _ q e) this)
 obtain⟨hd',r1,r2,r3⟩:=Vh t (zv ress) 0 st hd cs hgrow k1 k2'
 refine⟨wG vs,ow2,hd',he,r1,jb (k3 w' hd' (wZ (ow:=ow2) (lo:=lo) t (zv ress) 0 cs k1 hs (fun i d c h1 h2=>⟨_,k2' i d c h1 h2⟩) (fun i e xs c h1 h2=>(r3 i e xs c h1 h2).2)))⟩
end
end Go.Proofs.Ytggpbepdeilpgaa
