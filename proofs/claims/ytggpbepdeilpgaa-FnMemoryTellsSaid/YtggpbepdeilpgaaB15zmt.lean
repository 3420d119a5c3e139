/- The state with a map beside it: rules. -/
import Derived.Test.YtggpbepdeilpgaaB14zmt
import Derived.Test.YtggpbepdeilpgaaB8zmt
import Derived.Test.YtggpbepdeilpgaaGWzmt
namespace Go.Proofs.Ytggpbepdeilpgaa
open Go.RowKit
set_option linter.unusedVariables false
set_option linter.unusedSimpArgs false
structure Qx (w w':World)(r:Nat):Prop where
 os:w'.os=w.os
 tape:w'.tape=w.tape
 output:w'.output=w.output
 size:w'.heap.size=w.heap.size
 other: ∀k,k≠r→w'.heap[k]? =w.heap[k]?
 it: ∃m,w.heap[r]? =some (vh m)
section
variable {w w':World} {r:Nat}
theorem Qx.cell (hm:Qx w w' r){b o:Nat}{u:Value}(h:w.cell? ⟨b,o,none⟩=some u):w'.cell? ⟨b,o,none⟩=some u:=by
 by_cases e:b=r
 ·obtain⟨m,hm⟩:=hm.it
  rw [e]at h
  simp [World.cell?,hm,vh]at h
 ·rw [xe (hm.other b e)];exact h
theorem Qx.cells (hm:Qx w w' r){b:Nat}{cs:Array Value}{ty:TypeId}{fz:Nat×Nat}(h:w.heap[b]? =some (.cells cs ty fz)):w'.heap[b]? =some (.cells cs ty fz):=by
 by_cases e:b=r
 ·obtain⟨m,hm⟩:=hm.it
  rw [e,hm]at h
  cases h
 ·rw [hm.other b e];exact h
theorem zJm {S:TypeId→Nat}{lo:Nat}{ow:Nat→Option Pl}(hm:Qx w w' r){m:Md}{e:TypeId}{v:Value}{N:Nat}{vs:List Value}(h:Hd S lo w ow m e v N vs):Hd S lo w' ow m e v N vs:=by
 obtain⟨h1,n,h2,h3⟩:=h
 refine⟨h1,n,h2,?_⟩
 have own: ∀(p:Pl),(w.ownsRow lo e (S e) v n vs∧∀b,v.ownBlock=some b→ow b=some p)→(w'.ownsRow lo e (S e) v n vs∧∀b,v.ownBlock=some b→ow b=some p):=by
  rintro p ⟨h3,h4⟩
  refine⟨⟨h3.1,?_⟩,h4⟩
  rcases h3.2 with hn|⟨g,cap,cur,hv,hb,hg,rest⟩
  ·exact .inl hn
  ·exact .inr ⟨g,cap,cur,hv,hb,hm.cells hg,rest⟩
 cases m with
 |sh=>
  obtain⟨A,c,hv,hn,hc,hmm⟩:=h3
  refine⟨A,c,hv,hn,hc,fun h0=> ?_⟩
  obtain⟨b,o,hA,hb,ho,hcell⟩:=hmm h0
  exact⟨b,o,hA,by rw [hm.size];exact hb,ho,fun i u hu=>hm.cell (hcell i u hu)⟩
 |ex d p=>exact own _ h3
 |top d p=>exact own _ h3
mutual
theorem zEa {S:TypeId→Nat}{lo:Nat}{ow:Nat→Option Pl}(hm:Qx w w' r): ∀(t:D) (m:Md) (v:Value),Rp S lo w ow m t v→Rp S lo w' ow m t v
 | .int k n,m,v,h=>by simpa only [Rp]using h
 | .bool b,m,v,h=>by simpa only [Rp]using h
 | .hole,m,v,h=>by simpa only [Rp]using h
 | .lst e xs,m,v,h=>by
  simp only [Rp]at h⊢
  obtain⟨vs,h1,h2⟩:=h
  exact⟨vs,zJm hm h1,zCR hm xs m 0 vs h2⟩
theorem zCR {S:TypeId→Nat}{lo:Nat}{ow:Nat→Option Pl}(hm:Qx w w' r): ∀(xs:List D) (m:Md) (k:Nat) (vs:List Value),RpL S lo w ow m k xs vs→RpL S lo w' ow m k xs vs
 | [],m,k,vs,h=>by simpa only [RpL]using h
 |x::xs,m,k,vs,h=>by
  simp only [RpL]at h⊢
  obtain⟨v,vs',h1,h2,h3⟩:=h
  exact⟨v,vs',h1,zEa hm x _ v h2,zCR hm xs m (k+1) vs' h3⟩
end
end
structure UO (w:World)(ow:Nat→Option Pl)(r:Nat)(m:MD):Prop where
 it:w.heap[r]? =some (vh m)
 nobody: ∀p,ow r=some p→p= .ext
section
variable {P:Program} {τ:Ty} {lo:Nat} {w0:Fz} {ow:Nat→Option Pl} {hd:Nat→Value} {bk:Nat→Nat} {st:St} {a:Act} {w w':World} {r:Nat} {m:MD}
theorem zGS (h:ze τ lo w0 ow hd bk st a w)(hm:Qx w w' r)(hb:yu w0 w'):ze τ lo w0 ow hd bk st a w':=by
 have hD: ∀d,noB d=false→yq w w' st.r st.r hd hd d:=fun d _ R hR=>⟨R,hR,rfl,fun p hp=>⟨hp,xE p _ _ _ _ (h.root d R hR) hp (fun b o A n c hb _ hc=>hm.cell hc)⟩⟩
 have hB: ∀t,noB t=false→yp st.b st.b bk bk t:=fun t _ hl=>⟨hl,rfl⟩
 refine⟨h.big,h.defers,h.size,by rw [hm.size];exact h.low,hb,fun b p hlt hb hp=>h.ge b p (by rw [←hm.size];exact hlt) hb hp,fun b hb=>h.new b (by rw [←hm.size];exact hb),fun k v hv=> ?_,fun d R hR=>zEa hm _ _ _ (h.root d R hR),fun t vs hv=> ?_,h.pin⟩
 ·have :=yl hD hB v _ (h.slot k v hv)
  rwa [qX]at this
 ·obtain⟨cs,ty,h1,h2,h3⟩:=h.box t vs hv
  have :=yA hD hB vs cs h3
  rw [xF]at this
  exact⟨cs,ty,hm.cells h1,h2,this⟩
def ZP (τ:Ty)(lo:Nat)(w0:Fz)(r:Nat)(m:MD)(st:St)(a:Act)(w:World):Prop:=w0.w.heap.size≤r∧∃ow hd bk,ze τ lo w0 ow hd bk st a w∧UO w ow r m
def fzM (w0:Fz)(ow:Nat→Option Pl)(w:World):Fz:=⟨w,fun b=> ∀p,ow b=some p→p= .ext,w0.pin⟩
theorem vS (h:ze τ lo w0 ow hd bk st a w):ze τ lo (fzM w0 ow w) ow hd bk st a w:=
 ⟨h.big,h.defers,h.size,h.low,yu.start (fzM w0 ow w),fun b p hlt hb hp=>⟨(h.ge b p hlt hb hp).1,fun _ hk=>hp (hk p hb)⟩,h.new,h.slot,h.root,h.box,h.pin⟩
theorem vC (h:ze τ lo w0 ow hd bk st a w)(hm:UO w ow r m)(hr:w0.w.heap.size≤r){st':St}{a':Act}(h':Rel τ lo (fzM w0 ow w) st' a' w'):ZP τ lo w0 r m st' a' w':=by
 obtain⟨ow',hd',bk',h'⟩:=h'
 have hlt:r<w.heap.size:=(Array.getElem?_eq_some_iff.1 hm.it).1
 have hback: ∀b,(fzM w0 ow w).fre b→w0.fre b:=fun b hf hlt0 hk=>by
  have hb:b<w.heap.size:=Nat.lt_of_lt_of_le hlt0 h.below.size
  refine hf hb fun p hp=> ?_
  cases p with
  |ext=>rfl
  |root d q=>exact absurd hk ((h.ge b _ hb hp (by simp)).2 hlt0)
  |box t=>exact absurd hk ((h.ge b _ hb hp (by simp)).2 hlt0)
 refine⟨hr,ow',hd',bk',⟨h'.big,h'.defers,h'.size,h'.low,?_,fun b p hb hp hne=>⟨(h'.ge b p hb hp hne).1,hback b (h'.ge b p hb hp hne).2⟩,h'.new,h'.slot,h'.root,h'.box,h'.pin⟩,?_,fun p hp=> ?_⟩
 ·refine⟨h'.below.os.trans h.below.os,h'.below.tape.trans h.below.tape,h'.below.output.trans h.below.output,Nat.le_trans h.below.size h'.below.size,fun b hb hk=> ?_⟩
  have hb2:b<w.heap.size:=Nat.lt_of_lt_of_le hb h.below.size
  refine(h'.below.block b hb2 fun p hp=> ?_).trans (h.below.block b hb hk)
  cases p with
  |ext=>rfl
  |root d q=>exact absurd hk ((h.ge b _ hb2 hp (by simp)).2 hb)
  |box t=>exact absurd hk ((h.ge b _ hb2 hp (by simp)).2 hb)
 ·rw [←hm.it]
  exact h'.below.block r hlt hm.nobody
 ·cases p with
  |ext=>rfl
  |root d q=>
   have hsz:=h'.below.size
   exact absurd hm.nobody ((h'.ge r _ (Nat.lt_of_lt_of_le hlt hsz) hp (by simp)).2 hlt)
  |box t=>
   have hsz:=h'.below.size
   exact absurd hm.nobody ((h'.ge r _ (Nat.lt_of_lt_of_le hlt hsz) hp (by simp)).2 hlt)
theorem Um {st':St}(h:ZP τ lo w0 r m st a w)(hc:Cov st st'):ZP τ lo w0 r m st' a w:=by
 obtain⟨hr,ow,hd,bk,h1,h2⟩:=h
 exact vC h1 h2 hr (ql ⟨ow,hd,bk,vS h1⟩ hc)
end
def qL (P:Program)(τ:Ty)(r:Nat)(c:Code)(Q:Exit→St→MD→Prop)(st:St)(m:MD):Prop:=
 ∀(lo:Nat) (w0:Fz) (a:Act) (w:World),ZP τ lo w0 r m st a w→c.wp P (fun e a' w'=> ∃st' m',ZP τ lo w0 r m' st' a' w'∧Q e st' m') a w
def xN (N:St→MD→Prop)(Q:Exit→St→MD→Prop):Exit→St→MD→Prop
 | .normal,st,m=>N st m
 |e,st,m=>Q e st m
def qK (id:Nat)(Q:Exit→St→MD→Prop):Exit→St→MD→Prop
 | .exit id',st,m=>if id'=id then Q .normal st m else Q (.exit id') st m
 |e,st,m=>Q e st m
section
variable {P:Program} {τ:Ty} {r:Nat} {Q:Exit→St→MD→Prop} {st:St} {m:MD}
theorem zq {c:Code}(h:awp P τ c (fun e st'=>Q e st' m) st):qL P τ r c Q st m:=fun lo w0 a w ⟨hr,ow,hd,bk,h1,h2⟩=>
 Go.wp_mono (h lo _ a w ⟨ow,hd,bk,vS h1⟩) fun e a' w' ⟨st',h3,h4⟩=>⟨st',m,vC h1 h2 hr h3,h4⟩
theorem zGh {x y:Code}(h:qL P τ r x (xN (fun st m=>qL P τ r y Q st m) Q) st m):qL P τ r (.seq x y) Q st m:=fun lo w0 a w hr=>by
 refine wp_seq (Go.wp_mono (h lo w0 a w hr) fun e a' w' ⟨st',m',h1,h2⟩=> ?_)
 cases e with
 |normal=>exact h2 lo w0 a' w' h1
 |_=>exact⟨st',m',h1,h2⟩
theorem zj {x y:Code}(h: ∀K:St→MD→Prop,(∀st m,qL P τ r y Q st m→K st m)→qL P τ r x (xN K Q) st m):qL P τ r (.seq x y) Q st m:=zGh (h _ fun _ _ h=>h)
theorem vW {id:Nat}{c:Code}(h:qL P τ r c (qK id Q) st m):qL P τ r (.block id c) Q st m:=fun lo w0 a w hr=>by
 refine wp_block (Go.wp_mono (h lo w0 a w hr) fun e a' w' ⟨st',m',h1,h2⟩=> ?_)
 cases e with
 |exit id'=>
  simp only [Exit.inBlock,qK]at h2⊢
  split
  ·rename_i e;rw [if_pos e]at h2;exact⟨st',m',h1,h2⟩
  ·rename_i e;rw [if_neg e]at h2;exact⟨st',m',h1,h2⟩
 |_=>exact⟨st',m',h1,h2⟩
theorem vw (h:Q .normal st m):qL P τ r .skip Q st m:=fun lo w0 a w hr=>wp_skip ⟨st,m,hr,h⟩
theorem XV {id:Nat}(h:Q (.exit id) st m):qL P τ r (.exit id) Q st m:=fun lo w0 a w hr=>wp_exit ⟨st,m,hr,h⟩
theorem zGg (h:Q .ret st m):qL P τ r .ret Q st m:=fun lo w0 a w hr=>wp_ret ⟨st,m,hr,h⟩
theorem qR {c:Operand}{x y:Code}{b:Bool}(hc:ev st c= .bool b)(ht:b=true→qL P τ r x Q st m)(hf:b=false→qL P τ r y Q st m):qL P τ r (.cond c x y) Q st m:=fun lo w0 a w hr=>by
 obtain⟨-,ow,hd,bk,h1,-⟩:=id hr
 have hx:=zZ h1 c
 rw [hc]at hx
 simp only [AvR]at hx
 exact wp_cond_split hx (fun e=>ht e lo w0 a w hr) (fun e=>hf e lo w0 a w hr)
theorem zEn {ι:Type}{c:Code}(F:ι→St)(G:ι→MD)(I:ι→Prop)(μ:ι→Nat)(i0:ι)(h0:Cov st (F i0))(hm:m=G i0)(hI:I i0)
  (round: ∀i,I i→qL P τ r c (xN (fun st' m'=> ∃j,I j∧μ j<μ i∧Cov st' (F j)∧m'=G j) Q) (F i) (G i)):qL P τ r (.loop c) Q st m:=fun lo w0 a w hr=>by
 intro b k cs
 have key: ∀n i a w,μ i=n→I i→ZP τ lo w0 r (G i) (F i) a w→∃e a' w',(∃st' m',ZP τ lo w0 r m' st' a' w'∧Q e st' m')∧Arrives P (lone (b.at a (.code c:: .inLoop c::k)) cs w) b k cs e a' w':=by
  intro n
  induction n using Nat.strongRecOn with
  |_ n ih=>
   intro i a w hn hi hr
   obtain⟨e,a₁,w₁,⟨st',m',hr',hq⟩,harr⟩:=round i hi lo w0 a w hr b (.inLoop c::k) cs
   cases e with
   |normal=>
    obtain⟨j,hj,hlt,hcov,rfl⟩:=hq
    obtain⟨e₂,a₂,w₂,hq₂,harr₂⟩:=ih (μ j) (hn ▸ hlt) j a₁ w₁ rfl hj (Um hr' hcov)
    exact⟨e₂,a₂,w₂,hq₂, .of_steps (Steps.trans harr (.one step_inLoop)) harr₂⟩
   |exit id=>exact⟨_,a₁,w₁,⟨st',m',hr',hq⟩, .pass (x:= .inLoop c) rfl (fun _ _=> .inl (by simp)) harr⟩
   |goto l=>exact⟨_,a₁,w₁,⟨st',m',hr',hq⟩, .pass (x:= .inLoop c) rfl (fun _ _=> .inl (by simp)) harr⟩
   |ret=>exact⟨_,a₁,w₁,⟨st',m',hr',hq⟩, .pass (x:= .inLoop c) rfl (fun _ _=> .inl (by simp)) harr⟩
   |panic ch=>exact⟨_,a₁,w₁,⟨st',m',hr',hq⟩, .pass (x:= .inLoop c) rfl (fun _ _=> .inl (by simp)) harr⟩
   |outgrown=>exact⟨_,a₁,w₁,⟨st',m',hr',hq⟩, .pass (x:= .inLoop c) rfl (fun _ _=> .inl (by simp)) harr⟩
 obtain⟨e,a',w',hq,harr⟩:=key _ i0 a w rfl hI (hm ▸ Um hr h0)
 exact⟨e,a',w',hq, .of_steps (.one step_loop) harr⟩
theorem Yc {ι:Type}{c:Code}(ds rs:List Nat)(L:ι→List (Nat×AV))(B:ι→List (Nat×List AV))(R:ι→List (Nat×zr))(G:ι→MD)(I:ι→Prop)(μ:ι→Nat)(i0:ι)(h0:Cov st (st.reset ds rs (L i0) (B i0) (R i0)))(hm:m=G i0)(hI:I i0)
  (round: ∀i,I i→∀K:St→MD→Prop,(∀st' m',(∃j,I j∧μ j<μ i∧Cov st' (st.reset ds rs (L j) (B j) (R j))∧m'=G j)→K st' m')→qL P τ r c (xN K Q) (st.reset ds rs (L i) (B i) (R i)) (G i)):qL P τ r (.loop c) Q st m:=
 zEn (fun i=>st.reset ds rs (L i) (B i) (R i)) G I μ i0 h0 hm hI fun i hi=>round i hi _ fun _ _ h=>h
end
def aopM (P:Program)(τ:Ty)(al:List Nat)(ta tm:TypeId)(r:Nat)(o:Oper)(K:St→MD→Prop)(st:St)(m:MD):Prop:=
 match o.op with
 | .build t fs=>if t=ta then(match fs.toList with
   | [(0,x),(1,y)]=>(match ev st x,ev st y with
    | .int .i64 a, .int .i64 b=>K (st.put o.dst (.agg [.int .i64 a, .int .i64 b])) m
    |_,_=>False)
   |_=>False)else aop P τ al o (fun st'=>K st' m) st
 | .alloc t=>if t=ta then(match o.dst with
   |some d=>d<1000000∧K ((JA τ st d ta [.int .i64 0, .int .i64 0]).put (some d) (.bp d 0)) m
   |none=>False)else aop P τ al o (fun st'=>K st' m) st
 | .store t p v=>if t=ta then(match ev st p,ev st v with
   | .bp d 0, .agg [.int .i64 a, .int .i64 b]=>(match lk st.b d with
    |some [_,_]=>K ((st.setB d [.int .i64 a, .int .i64 b]).put o.dst (.tup [])) m
    |_=>False)
   |_,_=>False)else aop P τ al o (fun st'=>K st' m) st
 | .load t p=>if t=ta then(match ev st p with
   | .bp d 0=>(match lk st.b d with
    |some [x,y]=>K (st.put o.dst (.agg [x,y])) m
    |_=>False)
   |_=>False)else aop P τ al o (fun st'=>K st' m) st
 | .indexAddr t p i=>if t=ta then(match ev st p,ev st i with
   | .bp d 0, .int .i64 k=>(∃cs,lk st.b d=some cs)∧(0≤k∧k<2)∧K (st.put o.dst (.bp d k.toNat)) m
   |_,_=>False)else aop P τ al o (fun st'=>K st' m) st
 | .lookup t x k true=>t=tm∧(match ev st x,ev st k with
   | .raw u, .agg [.int .i64 a, .int .i64 b]=>u= .map (some r)∧K (st.put o.dst (.tup [.int .i64 ((lkM m (a,b)).getD 0), .bool (lkM m (a,b)).isSome])) m
   |_,_=>False)
 | .mapUpdate t x k v=>t=tm∧(match ev st x,ev st k,ev st v with
   | .raw u, .agg [.int .i64 a, .int .i64 b], .int .i64 z=>u= .map (some r)∧lkM m (a,b)=none∧K (st.put o.dst (.tup [])) (m++ [((a,b),z)])
   |_,_,_=>False)
 | .insert t x k v=>t=tm∧(match ev st x,ev st k,ev st v with
   | .raw u, .agg [.int .i64 a, .int .i64 b], .int .i64 z=>u= .map (some r)∧lkM m (a,b)=none∧K (st.put o.dst (.tup [])) (m++ [((a,b),z)])
   |_,_,_=>False)
 |_=>aop P τ al o (fun st'=>K st' m) st
section
variable {P:Program} {τ:Ty} {lo:Nat} {w0:Fz} {ow:Nat→Option Pl} {hd:Nat→Value} {bk:Nat→Nat} {st:St} {a:Act} {w w':World} {r:Nat} {m:MD} {ta te tm:TypeId}
theorem agg2 {x:Value}{b c:Int}(h:AvR τ w st.r st.b hd bk (.agg [.int .i64 b, .int .i64 c]) x):x= .agg #[.int .i64 b, .int .i64 c]:=by
 simp only [AvR,zY]at h
 obtain⟨_,rfl,_,_,rfl,rfl,_,_,rfl,rfl,rfl⟩:=h
 rfl
theorem zHA {o:Obj}(hr:w.heap[r]? =some (vh m)):Qx w {w with heap:=w.heap.setIfInBounds r o} r:=
 ⟨rfl,rfl,rfl,by simp,fun k hk=>by simp only;rw [Array.getElem?_setIfInBounds,if_neg (fun e=>hk e.symm)],m,hr⟩
theorem Kl (hτ:zx P τ)(hpos:yL τ)(hT:yy P ta te tm){al:List Nat}{o:Oper}{K:St→MD→Prop}{Q:Exit→Act→World→Prop}{K':Act→World→Prop}(hd9: ∀k,o.dst=some k→k<a.tmps.size)(h:ZP τ lo w0 r m st a w)(ha:aopM P τ al ta tm r o K st m)
  (hK: ∀st' m' x w',K st' m'→ZP τ lo w0 r m' st' (a.put o.dst x) w'→K' (a.put o.dst x) w'):o.wp P a w K' Q:=by
 obtain⟨hr0,ow,hd,bk,hr,hm⟩:=id h
 have std:aop P τ al o (fun st'=>K st' m) st→o.wp P a w K' Q:=fun ha=>vu hτ hpos hd9 ⟨ow,hd,bk,vS hr⟩ ha fun st' x w' h2 h3=>hK st' m x w' h2 (vC hr hm hr0 h3)
 -- the end of an operation that gives a value in the same world
 have fin: ∀{x:Value} {v:AV},(execOp a.eval o).run P w= .ok (.value x) w→AvR τ w st.r st.b hd bk v x→K (st.put o.dst v) m→o.wp P a w K' Q:=fun{x v} he hv hk=>by
  unfold Oper.wp
  rw [he]
  exact hK _ m x w hk (vC hr hm hr0 (yb (vS hr) hd9 hv))
 have sk: ∀{w':World} {st1:St},(execOp a.eval o).run P w= .ok .skip w'→ze τ lo (fzM w0 ow w) ow hd bk st1 a w'→K (st1.put o.dst (.tup [])) m→o.wp P a w K' Q:=fun{w' st1} he hv hk=>by
  unfold Oper.wp
  rw [he]
  exact hK _ m undef w' hk (vC hr hm hr0 (yb hv hd9 (by simp only [AvR];exact⟨[],rfl,by simp [zY]⟩)))
 have up: ∀{k:Int×Int} {z:Int},(execOp a.eval o).run P w= .ok .skip {w with heap:=w.heap.setIfInBounds r (vh (m++ [(k,z)]))}→K (st.put o.dst (.tup [])) (m++ [(k,z)])→o.wp P a w K' Q:=fun{k z} he hk=>by
  have hlt:r<w.heap.size:=(Array.getElem?_eq_some_iff.1 hm.it).1
  have hW:=zHA (o:=vh (m++ [(k,z)])) hm.it
  have hkeep:yu w0 {w with heap:=w.heap.setIfInBounds r (vh (m++ [(k,z)]))}:=hr.below.step rfl rfl rfl (by simp) fun b hb hf=>by
   refine hW.other b fun e=>hf ?_
   subst e
   exact fun hlt0 _=>absurd hlt0 (by omega)
  unfold Oper.wp
  rw [he]
  have h2:=zGS hr hW hkeep
  have hat:UO {w with heap:=w.heap.setIfInBounds r (vh (m++ [(k,z)]))} ow r (m++ [(k,z)]):=⟨by simp only;rw [Array.getElem?_setIfInBounds,if_pos rfl,if_pos hlt],hm.nobody⟩
  exact hK _ _ undef _ hk (vC h2 hat hr0 (yb (vS h2) hd9 (by simp only [AvR];exact⟨[],rfl,by simp [zY]⟩)))
 obtain⟨dst,op,oty,pos,after,guard⟩:=o
 unfold aopM at ha
 cases op<;>simp only at ha<;>try(exact std ha)
 case build t fs=>
  split at ha
  rotate_left
  ·exact std ha
  rename_i e
  subst e
  split at ha
  rotate_left
  ·exact ha.elim
  rename_i x y hfs
  split at ha
  rotate_left
  ·exact ha.elim
  rename_i b c hx hy
  have e1:fs= #[(0,x),(1,y)]:=by cases fs;simp at hfs;subst hfs;rfl
  subst e1
  have ex:=zZ hr x
  have ey:=zZ hr y
  rw [hx]at ex
  rw [hy]at ey
  simp only [AvR]at ex ey
  refine fin (x:= .agg #[.int .i64 b, .int .i64 c]) ?_ (by simp only [AvR,zY];exact⟨_,rfl,_,_,rfl,rfl,_,_,rfl,rfl,rfl⟩) ha
  have hz:=hT.zero (w:=w)
  have hs:=hT.esize (w:=w)
  simp only [execOp]
  rw [Sem.run_bind]
  unfold Instr.build
  simp [Sem.run_bind,hz,run_underlying hT.ua,hs,Result.andThen,Instr.fill,ex,ey,Value.cells]
 case alloc t=>
  split at ha
  rotate_left
  ·exact std ha
  rename_i e
  subst e
  cases dst with
  |none=>exact ha.elim
  |some d=>
   obtain⟨hd0,hK1⟩:=ha
   obtain⟨ow',hd',bk',r1,r2⟩:=XW (vS hr) d hd0 t [.int .i64 0, .int .i64 0] [.int .i64 0, .int .i64 0] (by simp only [zY,AvR];exact⟨_,_,rfl,rfl,_,_,rfl,rfl,rfl⟩)
   unfold Oper.wp
   have he:(execOp a.eval ⟨some d, .alloc t,oty,pos,after,guard⟩).run P w= .ok (.value (.pointer (some ⟨w.heap.size,0,none⟩))) (w.alloc (.cells #[.int .i64 0, .int .i64 0] t)):=by
    have hz:=hT.zero (w:=w)
    simp only [execOp]
    rw [Sem.run_bind]
    unfold Instr.alloc
    rw [Sem.run_bind,hz,Result.andThen_ok]
    simp [newVar,newRow,newObj,Sem.run,Value.cells]
   rw [he]
   refine hK _ m _ _ hK1 (vC hr hm hr0 (yb r1 hd9 ?_))
   simp only [AvR]
   exact⟨⟨_,rfl⟩,fun _=>by rw [r2]⟩
 case store t p v=>
  split at ha
  rotate_left
  ·exact std ha
  rename_i e
  subst e
  split at ha
  rotate_left
  ·exact ha.elim
  rename_i d b c hp hv
  split at ha
  rotate_left
  ·exact ha.elim
  rename_i x y hb
  have ep:=zZ hr p
  have ev9:=zZ hr v
  rw [hp]at ep
  rw [hv]at ev9
  have ev9:=agg2 ev9
  simp only [AvR]at ep
  have hptr:=ep.2 ⟨_,hb⟩
  obtain⟨cs,ty,b1,b2,b3⟩:=(vS hr).box d _ hb
  have hcl:=qb (st:=st) b3
  have hset:=YL (vS hr) hb b1 (i:=0) (vs:= [.int .i64 b, .int .i64 c]) (us:= [.int .i64 b, .int .i64 c]) (by simp) b3 (by simp only [zY,AvR];exact⟨_,_,rfl,rfl,_,_,rfl,rfl,rfl⟩)
  have hlay:lay [x,y] 0 [AV.int .i64 b,AV.int .i64 c]= [.int .i64 b, .int .i64 c]:=rfl
  rw [hlay]at hset
  have hst:=run_storeCells_at P (bk d) 0 ty [.int .i64 b, .int .i64 c] 0 cs.toArray w b1 (by simp at hcl⊢;omega) (by intro u hu;simp at hu;rcases hu with rfl|rfl<;>rfl)
  rw [Zf]at hst
  refine sk (w':=w.setRow (bk d) (lay cs 0 [.int .i64 b, .int .i64 c]).toArray) ?_ hset ha
  have hs:=hT.size (w:=w)
  simp only [execOp]
  rw [Sem.run_bind]
  unfold Instr.storeAt
  rw [Sem.run_bind,hptr]
  simp only [Instr.sureAddr,Sem.run_pure,Result.andThen_ok,storeVar,Sem.run_bind,hs,ev9]
  rw [if_neg (by simp [Value.cells])]
  rw [show(Value.agg #[.int .i64 b, .int .i64 c]).cells= [Value.int .i64 b, .int .i64 c].toArray from rfl,hst]
  simp
 case load t p=>
  split at ha
  rotate_left
  ·exact std ha
  rename_i e
  subst e
  split at ha
  rotate_left
  ·exact ha.elim
  rename_i d hp
  split at ha
  rotate_left
  ·exact ha.elim
  rename_i x y hb
  have ep:=zZ hr p
  rw [hp]at ep
  simp only [AvR]at ep
  have hptr:=ep.2 ⟨_,hb⟩
  obtain⟨cs,ty,b1,b2,b3⟩:=hr.box d _ hb
  have hcl:=qb (st:=st) b3
  have hcell: ∀j v,cs[j]? =some v→w.cell? ((⟨bk d,0,none⟩:Addr).add j)=some v:=fun j v hj=>by
   rw [Addr.add_lit,Nat.zero_add,cell_of_row w (bk d) j _ _ _ b1]
   simpa using hj
  have hl:=run_loadCells_list (P:=P) w ⟨bk d,0,none⟩ cs hcell
  rw [hcl]at hl
  refine fin (x:= .agg cs.toArray) ?_ (by simp only [AvR];exact⟨cs,rfl,b3⟩) ha
  have hs:=hT.size (w:=w)
  have hg:=hT.agg (w:=w)
  simp only [execOp]
  rw [Sem.run_bind]
  simp only [hptr,Instr.loadAt,Instr.sureAddr,pure_bind,loadVar,Sem.run_bind,hg,Result.andThen_ok,if_true,hs,Sem.run_pure]
  rw [show [x,y].length=2 from rfl]at hl
  rw [hl]
  simp
 case indexAddr t p i=>
  split at ha
  rotate_left
  ·exact std ha
  rename_i e
  subst e
  split at ha
  rotate_left
  ·exact ha.elim
  rename_i d k hp hi
  obtain⟨⟨cells,hb⟩,hk2,hK1⟩:=ha
  have ep:=zZ hr p
  have ei:=zZ hr i
  rw [hp]at ep
  rw [hi]at ei
  simp only [AvR]at ep ei
  have hptr:=ep.2 ⟨_,hb⟩
  refine fin (x:= .pointer (some ⟨bk d,k.toNat,none⟩)) ?_ (by simp [AvR]) hK1
  have hs:=hT.esize (w:=w)
  simp only [execOp]
  rw [Sem.run_bind]
  unfold Instr.indexAt
  simp [hptr,ei,Sem.run_bind,asIntOf,run_underlying hT.ua,Instr.sureAddr,Result.andThen,hs,hk2,Addr.add]
  try omega
  try(intro _;omega)
 case lookup t x k ok=>
  cases ok with
  |false=>exact std ha
  |true=>
   simp only at ha
   obtain⟨rfl,ha⟩:=ha
   split at ha
   rotate_left
   ·exact ha.elim
   rename_i u b c hx hk
   obtain⟨rfl,hK1⟩:=ha
   have ex:=zZ hr x
   have ek:=zZ hr k
   rw [hx]at ex
   rw [hk]at ek
   have ek:=agg2 ek
   simp only [AvR]at ex
   refine fin (x:= .tuple #[.int .i64 ((lkM m (b,c)).getD 0), .bool (lkM m (b,c)).isSome]) ?_ (by simp only [AvR,zY];exact⟨_,rfl,_,_,rfl,rfl,_,_,rfl,rfl,rfl⟩) hK1
   have hl:=hT.look hm.it (b,c)
   simp only [execOp]
   rw [Sem.run_bind,ex,ek,hl]
   simp
 case mapUpdate t x k v=>
  obtain⟨rfl,ha⟩:=ha
  split at ha
  rotate_left
  ·exact ha.elim
  rename_i u b c z hx hk hv
  obtain⟨rfl,hl,hK1⟩:=ha
  have ex:=zZ hr x
  have ek:=zZ hr k
  have ez:=zZ hr v
  rw [hx]at ex
  rw [hk]at ek
  rw [hv]at ez
  have ek:=agg2 ek
  simp only [AvR]at ex ez
  refine up (k:=(b,c)) (z:=z) ?_ hK1
  have hu:=hT.upd hm.it (b,c) z hl
  simp only [execOp]
  rw [Sem.run_bind,ex,ek,ez,hu]
  simp
 case insert t x k v=>
  obtain⟨rfl,ha⟩:=ha
  split at ha
  rotate_left
  ·exact ha.elim
  rename_i u b c z hx hk hv
  obtain⟨rfl,hl,hK1⟩:=ha
  have ex:=zZ hr x
  have ek:=zZ hr k
  have ez:=zZ hr v
  rw [hx]at ex
  rw [hk]at ek
  rw [hv]at ez
  have ek:=agg2 ek
  simp only [AvR]at ex ez
  refine up (k:=(b,c)) (z:=z) ?_ hK1
  have hu:=hT.upd hm.it (b,c) z hl
  simp only [execOp]
  rw [Sem.run_bind,ex,ek,ez,hu]
  simp
def Yb (P:Program)(τ:Ty)(al:List Nat)(ta tm:TypeId)(r:Nat)(K:St→MD→Prop):List Oper→St→MD→Prop
 | [],st,m=>K st m
 |o::os,st,m=>
  match o.guard with
  |none=>aopM P τ al ta tm r o (Yb P τ al ta tm r K os) st m
  |some (j,want)=>False
theorem Xx (hτ:zx P τ)(hpos:yL τ)(hT:yy P ta te tm){al:List Nat}{all:List Oper}{K:St→MD→Prop}{Q:Exit→Act→World→Prop}(hQ: ∀st m a w,K st m→ZP τ lo w0 r m st a w→Q .normal a w):
  ∀(os:List Oper) (st:St) (m:MD) (a:Act) (w:World),yn a.tmps.size os=true→ZP τ lo w0 r m st a w→Yb P τ al ta tm r K os st m→wpList P all.toArray Q os a w
 | [],st,m,a,w,_,h,ha=>wpList_nil (hQ st m a w ha h)
 |o::os,st,m,a,w,hd,h,ha=>by
  have hd1: ∀k,o.dst=some k→k<a.tmps.size:=fun k hk=>by
   have :=List.all_eq_true.1 hd o (by simp)
   rw [hk]at this
   simpa using this
  have hd2:yn a.tmps.size os=true:=List.all_eq_true.2 fun x hx=>List.all_eq_true.1 hd x (by simp [hx])
  refine wpList_step fun K' hK'=> ?_
  simp only [Yb]at ha
  split at ha
  ·rename_i hg
   rw [if_pos (by simp [Region.wanted,hg])]
   exact Kl hτ hpos hT hd1 h ha fun st' m' x w' h2 h3=>hK' _ _ (Xx hτ hpos hT hQ os st' m' _ w' (by rw [xH];exact hd2) h3 h2)
  ·exact ha.elim
end
theorem qS {P:Program}{τ:Ty}{r:Nat}{Q:Exit→St→MD→Prop}{st:St}{m:MD}{ta te tm:TypeId}(hτ:zx P τ)(hpos:yL τ)(hT:yy P ta te tm)(al:List Nat){id:Nat}{ops:List Oper}(hd:yn st.n ops=true)(h:Yb P τ al ta tm r (Q .normal) ops st m):qL P τ r (.region id ops.toArray false) Q st m:=fun lo w0 a w hr=>by
 have hn:a.tmps.size=st.n:=by obtain⟨-,ow,hd,bk,h,-⟩:=hr;exact h.size
 refine wp_region_lit (Xx hτ hpos hT (fun st m a w h1 h2=>⟨st,m,h2,h1⟩) ops st m a w (by rw [hn];exact hd) hr h)
theorem zBw {P:Program}{τ:Ty}{Q:Exit→St→Prop}{st:St}{ta te tm:TypeId}(hτ:zx P τ)(hpos:yL τ)(hT:yy P ta te tm)(al:List Nat){id:Nat}{o:Oper}{ops:List Oper}{rest:Code}{t:Nat}(ho:o.op= .makeMap tm none)(hg:o.guard=none)(ht:o.dst=some t)(hd:yn st.n (o::ops)=true)
  (hK9: ∀r (K:St→MD→Prop),(∀st m,qL P τ r rest (fun e st _=>Q e st) st m→K st m)→Yb P τ al ta tm r K ops (st.put (some t) (.raw (.map (some r)))) []):awp P τ (.seq (.region id (o::ops).toArray false) rest) Q st:=fun lo w0 a w hr=>by
 have h:=fun r=>hK9 r _ fun _ _ h=>h
 clear hK9
 obtain⟨ow,hd9,bk,hr⟩:=hr
 have hn:a.tmps.size=st.n:=hr.size
 have hd1: ∀k,o.dst=some k→k<a.tmps.size:=fun k hk=>by
  have :=List.all_eq_true.1 hd o (by simp)
  rw [hk,←hn]at this
  simpa using this
 have hd2:yn a.tmps.size ops=true:=List.all_eq_true.2 fun x hx=>by rw [hn];exact List.all_eq_true.1 hd x (by simp [hx])
 have h1:=ZN hr (.map #[] 0) none (by simp)
 have hat:UO (w.alloc (.map #[] 0)) (upd ow w.heap.size none) w.heap.size []:=⟨heap_alloc_new w _,fun p hp=>by rw [yF]at hp;cases hp⟩
 refine wp_seq (wp_region_lit (wpList_step fun K' hK'=> ?_))
 rw [if_pos (by simp [Region.wanted,hg])]
 unfold Oper.wp
 have he:(execOp a.eval o).run P w= .ok (.value (.map (some w.heap.size))) (w.alloc (.map #[] 0)):=by
  obtain⟨dst,op,oty,pos,after,guard⟩:=o
  simp only at ho
  subst ho
  simp only [execOp]
  rw [Sem.run_bind]
  simp [Instr.makeMap,newObj,Sem.run]
 rw [he]
 refine hK' _ _ (Xx hτ hpos hT (fun st' m' a' w' h2 h3=> ?_) ops _ _ _ _ (by rw [xH];exact hd2) (vC h1 hat hr.below.size (yb (vS h1) hd1 (v:= .raw (.map (some w.heap.size))) (x:= .map (some w.heap.size)) (by simp only [AvR]))) (by rw [ht];exact h w.heap.size))
 refine Go.wp_mono (h2 lo w0 a' w' h3) fun e a2 w2 ⟨st2,m2,⟨_,ow2,hd2,bk2,h4,_⟩,h5⟩=>⟨st2,⟨ow2,hd2,bk2,h4⟩,h5⟩
section
variable {P:Program} {τ:Ty} {lo:Nat} {w0:Fz} {r:Nat} {ta te tm:TypeId}
theorem Km (hτ:zx P τ)(hpos:yL τ)(hT:yy P ta te tm){al:List Nat}{all o2:List Oper}{K:St→MD→Prop}{Q:Exit→Act→World→Prop}{n:Nat}(hQ: ∀st m a w,a.tmps.size=n→K st m→ZP τ lo w0 r m st a w→wpList P all.toArray Q o2 a w):
  ∀(os:List Oper) (st:St) (m:MD) (a:Act) (w:World),a.tmps.size=n→yn a.tmps.size os=true→ZP τ lo w0 r m st a w→Yb P τ al ta tm r K os st m→wpList P all.toArray Q (os++o2) a w
 | [],st,m,a,w,hn,_,h,ha=>hQ st m a w hn ha h
 |o::os,st,m,a,w,hn,hd,h,ha=>by
  have hd1: ∀k,o.dst=some k→k<a.tmps.size:=fun k hk=>by
   have :=List.all_eq_true.1 hd o (by simp)
   rw [hk]at this
   simpa using this
  have hd2:yn a.tmps.size os=true:=List.all_eq_true.2 fun x hx=>List.all_eq_true.1 hd x (by simp [hx])
  refine wpList_step fun K' hK'=> ?_
  simp only [Yb]at ha
  split at ha
  ·rename_i hg
   rw [if_pos (by simp [Region.wanted,hg])]
   exact Kl hτ hpos hT hd1 h ha fun st' m' x w' h2 h3=>hK' _ _ (Km hτ hpos hT hQ os st' m' _ w' (by rw [xH];exact hn) (by rw [xH];exact hd2) h3 h2)
  ·exact ha.elim
theorem WA (np:Bool)(n:Nat)(hτ:zx P τ)(hpos:yL τ)(hT:yy P ta te tm){Q:Exit→St→MD→Prop}{st:St}{m:MD}{id:Nat}{ops:List Oper}(hs:XH np ops=true)(hd:yn st.n ops=true)(hl:n≤ops.length)
  (h:Yb P τ [] ta tm r (fun st m=>qO P np τ ops (fun st'=>Q .normal st' m) (ops.drop n) (st.start np ops)) (ops.take n) st m):qL P τ r (.region id ops.toArray false) Q st m:=fun lo w0 a w hr=>by
 have hn:a.tmps.size=st.n:=by obtain⟨-,ow,hd,bk,h,-⟩:=hr;exact h.size
 have hd':yn a.tmps.size ops=true:=by rw [hn];exact hd
 refine wp_region_lit ?_
 have key:=Km (P:=P) (τ:=τ) (lo:=lo) (w0:=w0) (r:=r) (al:= []) (all:=ops) (o2:=ops.drop n) (n:=st.n) (K:=fun st m=>qO P np τ ops (fun st'=>Q .normal st' m) (ops.drop n) (st.start np ops)) (Q:=fun e a' w'=> ∃st' m',ZP τ lo w0 r m' st' a' w'∧Q e st' m') hτ hpos hT (fun st' m' a' w' hn' h1 h2=>by
  obtain⟨hr0,ow,hd2,bk,h3,h4⟩:=h2
  exact Vk (np:=np) hτ hpos hs (fun st2 a2 w2 h5 h6=>⟨st2,m',vC h3 h4 hr0 h6,h5⟩) (ops.drop n) n (st'.start np ops) a' w' (fun j=>by rw [List.getElem?_drop]) (by rw [hn'];exact hd) (fun j o _ ho hm=>jh ho hm) (fun e=>by unfold St.start;rw [if_pos e];exact Kx _) (uD ⟨ow,hd2,bk,vS h3⟩ ops) h1) (ops.take n) st m a w hn (List.all_eq_true.2 fun x hx=>List.all_eq_true.1 hd' x (List.mem_of_mem_take hx)) hr h
 rwa [List.take_append_drop]at key
theorem xw {Q:Exit→St→MD→Prop}{st:St}{m:MD}(e:TypeId)(t:Nat)(ht:t<st.n){c:Code}(h:qL P τ r c Q (st.settle e t) m):qL P τ r c Q st m:=fun lo w0 a w hr=>by
 obtain⟨hr0,ow,hd,bk,h1,h2⟩:=id hr
 have hrr:=vS h1
 have hx:=zZ hrr (.tmp t)
 obtain⟨ow',hd',r1,r2,-,-⟩:=Xb hrr [] (.sl e) (zb t 0) hx
 have hsz:t<a.tmps.size:=by rw [hrr.size];exact ht
 have hrel:=yb (d:=some t) r1 (fun k hk=>by cases hk;exact hsz) r2
 rw [zHS hsz]at hrel
 exact h lo w0 a w (vC h1 h2 hr0 hrel)
end
attribute [push_cast] aopM Yb lkM
open Nat renaming reduceMod → zA, reduceMul → zB, reduceDiv → zC, reduceAdd → zD, reduceSub → zE, reduceEqDiff → zF, reduceBEq → zG, reduceLT → zH, reduceLeDiff → zI
theorem Yy :yy Try.prog 102 2 103:=by
 refine⟨by kernel_rfl,by kernel_rfl,by kernel_rfl,?_,?_⟩
 ·exact⟨(Try.prog.info? 102).get!,by kernel_rfl,by kernel_rfl,by kernel_rfl⟩
 ·exact⟨(Try.prog.info? 2).get!,by kernel_rfl,by kernel_rfl,by kernel_rfl⟩
theorem zIp :cks tyT 102= []:=rfl
attribute [push_cast] zIp
set_option maxRecDepth 20000 in
set_option maxHeartbeats 8000000 in
theorem jL (a:Ar)(ha:a.Ln 1048576)(m:Me)(hm:m.Ln 1048576)(s:Int)(h:MmI a m s):Fn Try.prog tyT 46 [.agg (dAr a), .agg (dMe m), .c (.int .i64 s)] [.c (.lst 78 (xX (stM a m s 6145))), .c (DII (rsM a m s (stM a m s 6145).length))]:=by
 have hno:=ha.owner
 have hnn:=ha.next.1
 have hrr9: ∀v,(gl a.next v).length≤1048576:=fun v=>wu ha.next v
 unfold LnI at hno
 have hal:=zl h.ar
 obtain⟨hk0,hkm⟩:=wW h.mem
 have hs0:=h.st
 unfold dAr dMe
 refine yK (fn:=Try.f46) (ts:= [6,7]) Try.func46 (by kernel_rfl) rfl rfl (by rw [Try.ntmps46];exact Nat.le_of_ble_eq_true rfl) rfl (by simp only [szA,List.mem_cons,List.not_mem_nil,or_false,forall_eq_or_imp,forall_eq,VT.cells,szL];try decide) ?_
 rw [Try.ntmps46]
 simp only [push_cast,↓zK,↓zJ,↓reduceIte,zA,zB,zC,zD,zE,zF,zG,zH,zI,reduceCtorEq]
 refine zL fun K hK=> ?_
 refine zM zQ zO [] rfl ?_
 all_goals simp only [push_cast,↓zK,↓zJ,↓reduceIte,zA,zB,zC,zD,zE,zF,zG,zH,zI,reduceCtorEq]
 all_goals repeat'(first|(apply zP<;>(intro hg;(try simp only [push_cast]at hg)))|apply And.intro|(intro hg;(try simp only [push_cast]at hg)))
 all_goals first|exact gA|(exact zW (by omega))|skip
 all_goals first|(refine hK _ ?_;clear hK K)|(simp only [push_cast];done)
 refine zBw zQ zO Yy [] rfl rfl rfl rfl fun r9 K hK=> ?_
 all_goals simp only [push_cast,↓zK,↓zJ,↓reduceIte,zA,zB,zC,zD,zE,zF,zG,zH,zI,reduceCtorEq]
 repeat' apply And.intro
 all_goals first|exact True.intro|exact rfl|omega|with_reducible assumption|skip
 refine hK _ _ ?_;clear hK K
 refine zj fun K hK=> ?_
 refine zq ?_
 refine za false zQ zO ?_ rfl ?_
 ·kernel_rfl
 simp only [push_cast,↓zK,↓zJ,↓reduceIte,zA,zB,zC,zD,zE,zF,zG,zH,zI,reduceCtorEq]
 all_goals repeat'(first|(apply zP<;>(intro hg;(try simp only [push_cast]at hg)))|apply And.intro|(intro hg;(try simp only [push_cast]at hg)))
 all_goals first|exact gA|(exact zW (by omega))|skip
 all_goals first|(refine hK _ _ ?_;clear hK K)|(simp only [push_cast];done)
 refine xw 78 9 (Nat.le_of_ble_eq_true rfl) ?_
 simp only [push_cast,↓zK,↓zJ,↓reduceIte,zA,zB,zC,zD,zE,zF,zG,zH,zI,reduceCtorEq]
 refine zj fun K hK=> ?_
 refine zq ?_
 refine za false zQ zO ?_ rfl ?_
 ·kernel_rfl
 simp only [push_cast,↓zK,↓zJ,↓reduceIte,zA,zB,zC,zD,zE,zF,zG,zH,zI,reduceCtorEq]
 all_goals repeat'(first|(apply zP<;>(intro hg;(try simp only [push_cast]at hg)))|apply And.intro|(intro hg;(try simp only [push_cast]at hg)))
 all_goals first|exact gA|(exact zW (by omega))|skip
 all_goals first|(refine hK _ _ ?_;clear hK K)|(simp only [push_cast];done)
 refine zj fun K1 hK1=> ?_
 refine xw 22 10 (Nat.le_of_ble_eq_true rfl) ?_
 simp only [push_cast,↓zK,↓zJ,↓reduceIte,zA,zB,zC,zD,zE,zF,zG,zH,zI,reduceCtorEq]
 refine zj fun K hK=> ?_
 refine zq ?_
 refine zM zQ zO [] rfl ?_
 all_goals simp only [push_cast,↓zK,↓zJ,↓reduceIte,zA,zB,zC,zD,zE,zF,zG,zH,zI,reduceCtorEq]
 all_goals repeat'(first|(apply zP<;>(intro hg;(try simp only [push_cast]at hg)))|apply And.intro|(intro hg;(try simp only [push_cast]at hg)))
 all_goals first|exact gA|(exact zW (by omega))|skip
 all_goals first|(refine hK _ _ ?_;clear hK K)|(simp only [push_cast];done)
 refine vW ?_
 refine Yc [9,10,11,12,13,14,15,16,18,19,20,21,31,32,33,34,35,36,37,38,39,40,41,42,43,44,45,46,47,48,49,50,51,52,53,54,55,56,57,58,59,60,61,62,63,64,65,66,67,68,69,70,71,72,73,74,75,76,77,78,79,80,81,82,83,84,85,86,87,88,89,90,91,92,93,94,95,96,97,98,99,100,101,102,103,104,105,106,107,108,109,110,111,112,113,114,115,116,117,118] [] (fun(i:Nat)=> [(11, .int .i64 i),(9, .sl 144 [] 0 (stM a m s i).length 78),(10, .sl 160 [] 0 i 22)]) (fun i=> []) (fun i=> [(144,⟨.ex,78,xX (stM a m s i),none⟩),(160,⟨.ex,22,dII (rsM a m s i),none⟩)]) (fun i=>mdF (stM a m s i) 0) (fun i=>i≤(stM a m s i).length) (fun i=>6145 - i) 0 ?_ ?_ (by show 0≤1;decide) ?_
 ·
  rw [show stM a m s 0= [⟨s,[0]⟩]from rfl,rsM_0]
  refine zX rfl ?_ ?_ ?_<;>simp only [zg,zf,push_cast,↓zK,↓zJ,↓reduceIte,zA,zB,zC,zD,zE,zF,zG,zH,zI,reduceCtorEq]
  all_goals first|exact⟨rfl,rfl⟩|rfl
 ·
  rfl
 ·rintro i hi KL0 hL0
  have hfew:=jA h i
  have hrs:=Yt a m s i
  have hq:QLn 1048576 (stM a m s i):=⟨by omega,fun p hp=>by rw [(vJ h i p hp).2.2.1];show 1≤1048576;decide⟩
  simp only [push_cast,↓zK,↓zJ,↓reduceIte,zA,zB,zC,zD,zE,zF,zG,zH,zI,reduceCtorEq]
  refine zj fun K2 hK2=> ?_
  refine zj fun K hK=> ?_
  refine zq ?_
  refine zM zQ zO [] rfl ?_
  all_goals simp only [push_cast,↓zK,↓zJ,↓reduceIte,zA,zB,zC,zD,zE,zF,zG,zH,zI,reduceCtorEq]
  all_goals repeat'(first|(apply zP<;>(intro hg;(try simp only [push_cast]at hg)))|apply And.intro|(intro hg;(try simp only [push_cast]at hg)))
  all_goals first|exact gA|(exact zW (by omega))|skip
  all_goals first|(refine hK _ _ ?_;clear hK K)|(simp only [push_cast];done)
  refine qR rfl (fun hc=> ?_) (fun hc=> ?_)<;>(try simp only [push_cast]at hc)
  ·
   refine vw ?_
   (try simp only [xN,qK,reduceIte,zF]);refine hK2 _ _ ?_
   refine zj fun K3 hK3=> ?_
   refine vW ?_
   have hi2:i<(stM a m s i).length:=by omega
   have hP:=vJ h i _ (xz hi2)
   obtain⟨hU1,hU2,hN1,hN2⟩:=Wn h hP
   obtain⟨hP1,hP2,hP3,hP4,hP5⟩:=hP
   have hPl:(gq (stM a m s i) i).record.length=1:=by rw [hP3];rfl
   obtain⟨hr1,hr2,hr3⟩:=hkm (gi (gq (stM a m s i) i).record 0).toNat (by omega)
   have hr4:=(wC hr2).1
   unfold ntM at hN1 hN2
   refine zj fun K hK=> ?_
   refine zq ?_
   refine yB false zQ zO xW ?_ rfl ?_
   ·kernel_rfl
   intro E hE
   all_goals simp only [push_cast,↓zK,↓zJ,↓reduceIte,zA,zB,zC,zD,zE,zF,zG,zH,zI,reduceCtorEq]
   all_goals repeat'(first|(apply zP<;>(intro hg;(try simp only [push_cast]at hg)))|apply And.intro|(intro hg;(try simp only [push_cast]at hg)))
   all_goals first|exact gA|(refine hE _ _ ?_ ?_;kernel_rfl)|(exact zW (by omega))|skip
   all_goals clear hE E
   all_goals first|(refine hK _ _ ?_;clear hK K)|(simp only [push_cast];done)
   refine zj fun K hK=> ?_
   refine zq ?_
   refine zM zQ zO [] rfl ?_
   all_goals simp only [push_cast,↓zK,↓zJ,↓reduceIte,zA,zB,zC,zD,zE,zF,zG,zH,zI,reduceCtorEq]
   all_goals repeat'(first|(apply zP<;>(intro hg;(try simp only [push_cast]at hg)))|apply And.intro|(intro hg;(try simp only [push_cast]at hg)))
   all_goals first|exact gA|(exact zW (by omega))|skip
   all_goals first|(refine hK _ _ ?_;clear hK K)|(simp only [push_cast];done)
   refine zj fun K4 hK4=> ?_
   refine zj fun K hK=> ?_
   refine zq ?_
   refine zM zQ zO [] rfl ?_
   all_goals simp only [push_cast,↓zK,↓zJ,↓reduceIte,zA,zB,zC,zD,zE,zF,zG,zH,zI,reduceCtorEq]
   all_goals repeat'(first|(apply zP<;>(intro hg;(try simp only [push_cast]at hg)))|apply And.intro|(intro hg;(try simp only [push_cast]at hg)))
   all_goals first|exact gA|(exact zW (by omega))|skip
   all_goals first|(refine hK _ _ ?_;clear hK K)|(simp only [push_cast];done)
   refine qR rfl (fun hc=> ?_) (fun hc=> ?_)<;>(try simp only [push_cast]at hc)
   ·
    refine zj fun K hK=> ?_
    refine zq ?_
    refine zM zQ zO [] rfl ?_
    all_goals simp only [push_cast,↓zK,↓zJ,↓reduceIte,zA,zB,zC,zD,zE,zF,zG,zH,zI,reduceCtorEq]
    all_goals repeat'(first|(apply zP<;>(intro hg;(try simp only [push_cast]at hg)))|apply And.intro|(intro hg;(try simp only [push_cast]at hg)))
    all_goals first|exact gA|(exact zW (by omega))|skip
    all_goals first|(refine hK _ _ ?_;clear hK K)|(simp only [push_cast];done)
    refine zj fun K hK=> ?_
    refine zq ?_
    refine zM zQ zO [] rfl ?_
    all_goals simp only [push_cast,↓zK,↓zJ,↓reduceIte,zA,zB,zC,zD,zE,zF,zG,zH,zI,reduceCtorEq]
    all_goals repeat'(first|(apply zP<;>(intro hg;(try simp only [push_cast]at hg)))|apply And.intro|(intro hg;(try simp only [push_cast]at hg)))
    all_goals first|exact gA|(exact zW (by omega))|skip
    all_goals first|(refine hK _ _ ?_;clear hK K)|(simp only [push_cast];done)
    refine zj fun K hK=> ?_
    refine zq ?_
    refine zM zQ zO [] rfl ?_
    all_goals simp only [push_cast,↓zK,↓zJ,↓reduceIte,zA,zB,zC,zD,zE,zF,zG,zH,zI,reduceCtorEq]
    all_goals repeat'(first|(apply zP<;>(intro hg;(try simp only [push_cast]at hg)))|apply And.intro|(intro hg;(try simp only [push_cast]at hg)))
    all_goals first|exact gA|(exact zW (by omega))|skip
    all_goals first|(refine hK _ _ ?_;clear hK K)|(simp only [push_cast];done)
    refine qR rfl (fun hc=> ?_) (fun hc=> ?_)<;>(try simp only [push_cast]at hc)
    ·
     refine zq ?_
     refine zM zQ zO [] rfl ?_
     all_goals simp only [push_cast,↓zK,↓zJ,↓reduceIte,zA,zB,zC,zD,zE,zF,zG,zH,zI,reduceCtorEq]
     all_goals repeat'(first|(apply zP<;>(intro hg;(try simp only [push_cast]at hg)))|apply And.intro|(intro hg;(try simp only [push_cast]at hg)))
     all_goals first|exact gA|(exact zW (by omega))|skip
     (try simp only [xN,qK,reduceIte,zF]);refine hK4 _ _ ?_
     obtain⟨U9,hU9⟩: ∃U:List Int,U= [(gi (gl m.choice (gi (gq (stM a m s i) i).record 0).toNat) (gq (stM a m s i) i).at_.toNat)]:=⟨_,rfl⟩
     have hU:usM a m (gq (stM a m s i) i)=U9:=by rw [hU9];exact JY (by omega) (by unfold chM;omega)
     have hU8:U9.length=1:=by rw [hU9];rfl
     refine zj fun K hK=> ?_
     refine zq ?_
     refine zM zQ zO [] rfl ?_
     all_goals simp only [push_cast,↓zK,↓zJ,↓reduceIte,zA,zB,zC,zD,zE,zF,zG,zH,zI,reduceCtorEq]
     all_goals repeat'(first|(apply zP<;>(intro hg;(try simp only [push_cast]at hg)))|apply And.intro|(intro hg;(try simp only [push_cast]at hg)))
     all_goals first|exact gA|(exact zW (by omega))|skip
     all_goals first|(refine hK _ _ ?_;clear hK K)|(simp only [push_cast];done)
     refine zj fun K5 hK5=> ?_
     refine zj fun K hK=> ?_
     refine zq ?_
     refine zM zQ zO [] rfl ?_
     all_goals simp only [push_cast,↓zK,↓zJ,↓reduceIte,zA,zB,zC,zD,zE,zF,zG,zH,zI,reduceCtorEq]
     all_goals repeat'(first|(apply zP<;>(intro hg;(try simp only [push_cast]at hg)))|apply And.intro|(intro hg;(try simp only [push_cast]at hg)))
     all_goals first|exact gA|(exact zW (by omega))|skip
     all_goals first|(refine hK _ _ ?_;clear hK K)|(simp only [push_cast];done)
     refine vW ?_
     refine Yc [9,14,16,18,19,20,21,32,37,39,40,42,44,45,46,47,75,76,77,78,79,80,81,82,83,84,85,86,87,88,89,90,91,92,93,94,95,96,97,98,99,100,101,102,103,104,105,106,107,108,109,110,111,112,113,114] [224] (fun(k:Nat)=> [(75, .int .i64 k),(9, .sl 144 [] 0 (zt (rcM m (gq (stM a m s i) i)) U9 (stM a m s i) k).1.length 78),(16, .sl 256 [] 0 k 2),(14, .sl 224 [] 0 1 2)]) (fun k=> []) (fun k=> [(144,⟨.ex,78,xX (zt (rcM m (gq (stM a m s i) i)) U9 (stM a m s i) k).1,none⟩),(256,⟨.ex,2,dI (zt (rcM m (gq (stM a m s i) i)) U9 (stM a m s i) k).2,none⟩),(224,⟨.ex,2,dI U9,none⟩)]) (fun k=>mdF (zt (rcM m (gq (stM a m s i) i)) U9 (stM a m s i) k).1 0) (fun k=>k≤U9.length) (fun k=>U9.length - k) 0 ?_ ?_ (by omega) ?_
     ·
      rw [jd]
      rw [hU9]
      refine zX rfl ?_ ?_ ?_<;>simp only [zg,zf,push_cast,↓zK,↓zJ,↓reduceIte,zA,zB,zC,zD,zE,zF,zG,zH,zI,reduceCtorEq]
      all_goals first|rfl|exact⟨rfl,rfl⟩|exact⟨rfl,rfl,rfl⟩
     ·
      rfl
     ·rintro k hk KL1 hL1
      have hrl:=wH (r:=(rcM m (gq (stM a m s i) i))) (us:=U9) (ps:=(stM a m s i)) (k:=k) hk
      have hfr:=zAX h (i:=i) (k:=k) hi2 (by rw [hU];exact hk)
      rw [hU]at hfr
      have hrr:=JU h (i:=i) (k:=k) hi2 (by rw [hU];exact hk)
      rw [hU]at hrr
      have hrc: ∀p∈(zt (rcM m (gq (stM a m s i) i)) U9 (stM a m s i) k).1,p.record= [gi p.record 0]:=fun p hp=>(hrr p hp).2.2.1
      simp only [push_cast,↓zK,↓zJ,↓reduceIte,zA,zB,zC,zD,zE,zF,zG,zH,zI,reduceCtorEq]
      refine zj fun K hK=> ?_
      refine zq ?_
      refine zM zQ zO [] rfl ?_
      all_goals simp only [push_cast,↓zK,↓zJ,↓reduceIte,zA,zB,zC,zD,zE,zF,zG,zH,zI,reduceCtorEq]
      all_goals repeat'(first|(apply zP<;>(intro hg;(try simp only [push_cast]at hg)))|apply And.intro|(intro hg;(try simp only [push_cast]at hg)))
      all_goals first|exact gA|(exact zW (by omega))|skip
      all_goals first|(refine hK _ _ ?_;clear hK K)|(simp only [push_cast];done)
      refine zj fun K6 hK6=> ?_
      refine qR rfl (fun hc=> ?_) (fun hc=> ?_)<;>(try simp only [push_cast]at hc)
      ·
       refine vw ?_
       (try simp only [xN,qK,reduceIte,zF]);refine hK6 _ _ ?_
       refine zj fun K7 hK7=> ?_
       refine vW ?_
       refine zj fun K hK=> ?_
       refine zq ?_
       refine zM zQ zO [] rfl ?_
       all_goals simp only [push_cast,↓zK,↓zJ,↓reduceIte,zA,zB,zC,zD,zE,zF,zG,zH,zI,reduceCtorEq]
       all_goals repeat'(first|(apply zP<;>(intro hg;(try simp only [push_cast]at hg)))|apply And.intro|(intro hg;(try simp only [push_cast]at hg)))
       all_goals first|exact gA|(exact zW (by omega))|skip
       all_goals first|(refine hK _ _ ?_;clear hK K)|(simp only [push_cast];done)
       refine zj fun K hK=> ?_
       refine qS zQ zO Yy [] rfl ?_
       all_goals simp only [push_cast,↓zK,↓zJ,↓reduceIte,zA,zB,zC,zD,zE,zF,zG,zH,zI,reduceCtorEq]
       all_goals repeat'(first|(apply zP<;>(intro hg;(try simp only [push_cast]at hg)))|apply And.intro|(intro hg;(try simp only [push_cast]at hg)))
       all_goals first|exact gA|exact⟨_,rfl⟩|(exact zW (by omega))|skip
       all_goals first|(refine hK _ _ ?_;clear hK K)|(simp only [push_cast];done)
       by_cases hx:ixQ (yc (gi U9 k) (rcM m (gq (stM a m s i) i))) (zt (rcM m (gq (stM a m s i) i)) U9 (stM a m s i) k).1<0
       ·
        have hlk:lkM (mdF (zt (rcM m (gq (stM a m s i) i)) U9 (stM a m s i) k).1 0) ((gi U9 k),(gi (gl m.next (gi (gq (stM a m s i) i).record 0).toNat) (gq (stM a m s i) i).at_.toNat))=none:=zID hrc hx
        refine zj fun K hK=> ?_
        refine qS zQ zO Yy [] rfl ?_
        all_goals simp only [push_cast,↓zK,↓zJ,↓reduceIte,zA,zB,zC,zD,zE,zF,zG,zH,zI,reduceCtorEq]
        all_goals repeat'(first|(apply zP<;>(intro hg;(try simp only [push_cast]at hg)))|apply And.intro|(intro hg;(try simp only [push_cast]at hg)))
        all_goals first|exact gA|exact⟨_,rfl⟩|(exact zW (by omega))|skip
        all_goals first|(refine hK _ _ ?_;clear hK K)|(simp only [push_cast];done)
        all_goals rw [hlk]
        all_goals simp only [Option.getD_none,Option.isSome_none]
        refine zj fun K8 hK8=> ?_
        refine zj fun K hK=> ?_
        refine zq ?_
        refine zM zQ zO [] rfl ?_
        all_goals simp only [push_cast,↓zK,↓zJ,↓reduceIte,zA,zB,zC,zD,zE,zF,zG,zH,zI,reduceCtorEq]
        all_goals repeat'(first|(apply zP<;>(intro hg;(try simp only [push_cast]at hg)))|apply And.intro|(intro hg;(try simp only [push_cast]at hg)))
        all_goals first|exact gA|(exact zW (by omega))|skip
        all_goals first|(refine hK _ _ ?_;clear hK K)|(simp only [push_cast];done)
        refine qR rfl (fun hc=> ?_) (fun hc=> ?_)
        rotate_left
        ·exfalso;first|(cases hc;done)|(simp only [push_cast]at hc;done)|(simp only [push_cast]at hc;omega)|omega
        refine zj fun K hK=> ?_
        refine zq ?_
        refine zM zQ zO [] rfl ?_
        all_goals simp only [push_cast,↓zK,↓zJ,↓reduceIte,zA,zB,zC,zD,zE,zF,zG,zH,zI,reduceCtorEq]
        all_goals repeat'(first|(apply zP<;>(intro hg;(try simp only [push_cast]at hg)))|apply And.intro|(intro hg;(try simp only [push_cast]at hg)))
        all_goals first|exact gA|(exact zW (by omega))|skip
        all_goals first|(refine hK _ _ ?_;clear hK K)|(simp only [push_cast];done)
        refine zj fun K hK=> ?_
        refine qS zQ zO Yy [] rfl ?_
        all_goals simp only [push_cast,↓zK,↓zJ,↓reduceIte,zA,zB,zC,zD,zE,zF,zG,zH,zI,reduceCtorEq]
        all_goals repeat'(first|(apply zP<;>(intro hg;(try simp only [push_cast]at hg)))|apply And.intro|(intro hg;(try simp only [push_cast]at hg)))
        all_goals first|exact gA|exact⟨_,rfl⟩|(exact zW (by omega))|skip
        all_goals first|(refine hK _ _ ?_;clear hK K)|(simp only [push_cast];done)
        refine WA false 4 zQ zO Yy ?_ rfl (by decide) ?_
        ·kernel_rfl
        all_goals simp only [push_cast,↓zK,↓zJ,↓reduceIte,zA,zB,zC,zD,zE,zF,zG,zH,zI,reduceCtorEq]
        all_goals repeat'(first|(apply zP<;>(intro hg;(try simp only [push_cast]at hg)))|apply And.intro|(intro hg;(try simp only [push_cast]at hg)))
        all_goals first|exact gA|exact⟨_,rfl⟩|(exact zW (by omega))|skip
        (try simp only [xN,qK,reduceIte,zF]);refine hK8 _ _ ?_
        refine xw 78 9 (Nat.le_of_ble_eq_true rfl) ?_
        simp only [push_cast,↓zK,↓zJ,↓reduceIte,zA,zB,zC,zD,zE,zF,zG,zH,zI,reduceCtorEq]
        refine zq ?_
        refine zM zQ zO [] rfl ?_
        all_goals simp only [push_cast,↓zK,↓zJ,↓reduceIte,zA,zB,zC,zD,zE,zF,zG,zH,zI,reduceCtorEq]
        all_goals repeat'(first|(apply zP<;>(intro hg;(try simp only [push_cast]at hg)))|apply And.intro|(intro hg;(try simp only [push_cast]at hg)))
        all_goals first|exact gA|(exact zW (by omega))|skip
        (try simp only [xN,qK,reduceIte,zF]);refine hK7 _ _ ?_
        refine zq ?_
        refine zM zQ zO [] rfl ?_
        all_goals simp only [push_cast,↓zK,↓zJ,↓reduceIte,zA,zB,zC,zD,zE,zF,zG,zH,zI,reduceCtorEq]
        all_goals repeat'(first|(apply zP<;>(intro hg;(try simp only [push_cast]at hg)))|apply And.intro|(intro hg;(try simp only [push_cast]at hg)))
        all_goals first|exact gA|(exact zW (by omega))|skip
        refine hL1 _ _ ⟨k+1,by omega,by omega,?_,?_⟩
        rotate_left
        ·
         rw [vD (by omega) hx,kb,Nat.zero_add];rfl
        (try rw [List.take_of_length_le (l:=(zt (rcM m (gq (stM a m s i) i)) U9 (stM a m s i) k).2) (by omega)])
        rw [vD (by omega) hx]
        refine zX rfl ?_ ?_ ?_<;>simp only [zg,zf,push_cast,↓zK,↓zJ,↓reduceIte,zA,zB,zC,zD,zE,zF,zG,zH,zI,reduceCtorEq]
        all_goals first|rfl|(rw [List.length_append];rfl)|exact⟨rfl,rfl⟩|skip
       ·
        have hlk:lkM (mdF (zt (rcM m (gq (stM a m s i) i)) U9 (stM a m s i) k).1 0) ((gi U9 k),(gi (gl m.next (gi (gq (stM a m s i) i).record 0).toNat) (gq (stM a m s i) i).at_.toNat))=some (ixQ (yc (gi U9 k) (rcM m (gq (stM a m s i) i))) (zt (rcM m (gq (stM a m s i) i)) U9 (stM a m s i) k).1):=zFb hrc hx
        refine zj fun K hK=> ?_
        refine qS zQ zO Yy [] rfl ?_
        all_goals simp only [push_cast,↓zK,↓zJ,↓reduceIte,zA,zB,zC,zD,zE,zF,zG,zH,zI,reduceCtorEq]
        all_goals repeat'(first|(apply zP<;>(intro hg;(try simp only [push_cast]at hg)))|apply And.intro|(intro hg;(try simp only [push_cast]at hg)))
        all_goals first|exact gA|exact⟨_,rfl⟩|(exact zW (by omega))|skip
        all_goals first|(refine hK _ _ ?_;clear hK K)|(simp only [push_cast];done)
        all_goals rw [hlk]
        all_goals simp only [Option.getD_some,Option.isSome_some]
        refine zj fun K8 hK8=> ?_
        refine zj fun K hK=> ?_
        refine zq ?_
        refine zM zQ zO [] rfl ?_
        all_goals simp only [push_cast,↓zK,↓zJ,↓reduceIte,zA,zB,zC,zD,zE,zF,zG,zH,zI,reduceCtorEq]
        all_goals repeat'(first|(apply zP<;>(intro hg;(try simp only [push_cast]at hg)))|apply And.intro|(intro hg;(try simp only [push_cast]at hg)))
        all_goals first|exact gA|(exact zW (by omega))|skip
        all_goals first|(refine hK _ _ ?_;clear hK K)|(simp only [push_cast];done)
        refine qR rfl (fun hc=> ?_) (fun hc=> ?_)
        skip
        ·exfalso;first|(cases hc;done)|(simp only [push_cast]at hc;done)|(simp only [push_cast]at hc;omega)|omega
        refine vw ?_
        (try simp only [xN,qK,reduceIte,zF]);refine hK8 _ _ ?_
        refine xw 78 9 (Nat.le_of_ble_eq_true rfl) ?_
        simp only [push_cast,↓zK,↓zJ,↓reduceIte,zA,zB,zC,zD,zE,zF,zG,zH,zI,reduceCtorEq]
        refine zq ?_
        refine zM zQ zO [] rfl ?_
        all_goals simp only [push_cast,↓zK,↓zJ,↓reduceIte,zA,zB,zC,zD,zE,zF,zG,zH,zI,reduceCtorEq]
        all_goals repeat'(first|(apply zP<;>(intro hg;(try simp only [push_cast]at hg)))|apply And.intro|(intro hg;(try simp only [push_cast]at hg)))
        all_goals first|exact gA|(exact zW (by omega))|skip
        (try simp only [xN,qK,reduceIte,zF]);refine hK7 _ _ ?_
        refine zq ?_
        refine zM zQ zO [] rfl ?_
        all_goals simp only [push_cast,↓zK,↓zJ,↓reduceIte,zA,zB,zC,zD,zE,zF,zG,zH,zI,reduceCtorEq]
        all_goals repeat'(first|(apply zP<;>(intro hg;(try simp only [push_cast]at hg)))|apply And.intro|(intro hg;(try simp only [push_cast]at hg)))
        all_goals first|exact gA|(exact zW (by omega))|skip
        refine hL1 _ _ ⟨k+1,by omega,by omega,?_,?_⟩
        rotate_left
        ·
         rw [vE (by omega) hx]
        (try rw [List.take_of_length_le (l:=(zt (rcM m (gq (stM a m s i) i)) U9 (stM a m s i) k).2) (by omega)])
        rw [vE (by omega) hx]
        refine zX rfl ?_ ?_ ?_<;>simp only [zg,zf,push_cast,↓zK,↓zJ,↓reduceIte,zA,zB,zC,zD,zE,zF,zG,zH,zI,reduceCtorEq]
        all_goals first|rfl|(rw [List.length_append];rfl)|exact⟨rfl,rfl⟩|skip
      ·
       refine XV ?_
       have hkk:k=U9.length:=by omega
       subst hkk
       have hst:stM a m s (i+1)=(zt (rcM m (gq (stM a m s i) i)) U9 (stM a m s i) U9.length).1:=by have :=jg (a:=a) (m:=m) (s:=s) hi2;rw [hU]at this;exact this
       have hrw:rwM a m s i=(zt (rcM m (gq (stM a m s i) i)) U9 (stM a m s i) U9.length).2:=by unfold rwM;rw [hU]
       have htk:List.take U9.length (zt (rcM m (gq (stM a m s i) i)) U9 (stM a m s i) U9.length).2=(zt (rcM m (gq (stM a m s i) i)) U9 (stM a m s i) U9.length).2:=List.take_of_length_le (by omega)
       (try simp only [xN,qK,reduceIte,zF]);refine hK5 _ _ ?_
       refine zq ?_
       refine za false zQ zO ?_ rfl ?_
       ·kernel_rfl
       simp only [push_cast,↓zK,↓zJ,↓reduceIte,zA,zB,zC,zD,zE,zF,zG,zH,zI,reduceCtorEq]
       all_goals repeat'(first|(apply zP<;>(intro hg;(try simp only [push_cast]at hg)))|apply And.intro|(intro hg;(try simp only [push_cast]at hg)))
       all_goals first|exact gA|(exact zW (by omega))|skip
       (try simp only [xN,qK,reduceIte,zF]);refine hK3 _ _ ?_
       refine xw 22 10 (Nat.le_of_ble_eq_true rfl) ?_
       simp only [push_cast,↓zK,↓zJ,↓reduceIte,zA,zB,zC,zD,zE,zF,zG,zH,zI,reduceCtorEq]
       refine zq ?_
       refine zM zQ zO [] rfl ?_
       all_goals simp only [push_cast,↓zK,↓zJ,↓reduceIte,zA,zB,zC,zD,zE,zF,zG,zH,zI,reduceCtorEq]
       all_goals repeat'(first|(apply zP<;>(intro hg;(try simp only [push_cast]at hg)))|apply And.intro|(intro hg;(try simp only [push_cast]at hg)))
       all_goals first|exact gA|(exact zW (by omega))|skip
       refine hL0 _ _ ⟨i+1,(by rw [hst];omega),by omega,?_,?_⟩
       rotate_left
       ·
        rw [hst]
       (try rw [List.take_of_length_le (l:=rsM a m s i) (by omega)])
       (try rw [htk])
       rw [hst,zEG,hrw]
       refine zX rfl ?_ ?_ ?_<;>simp only [zg,zf,push_cast,↓zK,↓zJ,↓reduceIte,zA,zB,zC,zD,zE,zF,zG,zH,zI,reduceCtorEq]
       all_goals first|rfl|exact⟨rfl,rfl⟩|skip
    ·
     refine vw ?_
     (try simp only [xN,qK,reduceIte,zF]);refine hK4 _ _ ?_
     obtain⟨U9,hU9⟩: ∃U:List Int,U= []:=⟨_,rfl⟩
     have hU:usM a m (gq (stM a m s i) i)=U9:=by rw [hU9];exact zBc (by omega) (by unfold chM;omega)
     have hU8:U9.length=0:=by rw [hU9];rfl
     refine zj fun K hK=> ?_
     refine zq ?_
     refine zM zQ zO [] rfl ?_
     all_goals simp only [push_cast,↓zK,↓zJ,↓reduceIte,zA,zB,zC,zD,zE,zF,zG,zH,zI,reduceCtorEq]
     all_goals repeat'(first|(apply zP<;>(intro hg;(try simp only [push_cast]at hg)))|apply And.intro|(intro hg;(try simp only [push_cast]at hg)))
     all_goals first|exact gA|(exact zW (by omega))|skip
     all_goals first|(refine hK _ _ ?_;clear hK K)|(simp only [push_cast];done)
     refine zj fun K5 hK5=> ?_
     refine zj fun K hK=> ?_
     refine zq ?_
     refine zM zQ zO [] rfl ?_
     all_goals simp only [push_cast,↓zK,↓zJ,↓reduceIte,zA,zB,zC,zD,zE,zF,zG,zH,zI,reduceCtorEq]
     all_goals repeat'(first|(apply zP<;>(intro hg;(try simp only [push_cast]at hg)))|apply And.intro|(intro hg;(try simp only [push_cast]at hg)))
     all_goals first|exact gA|(exact zW (by omega))|skip
     all_goals first|(refine hK _ _ ?_;clear hK K)|(simp only [push_cast];done)
     refine vW ?_
     refine Yc [9,14,16,18,19,20,21,32,37,39,40,42,44,45,46,47,75,76,77,78,79,80,81,82,83,84,85,86,87,88,89,90,91,92,93,94,95,96,97,98,99,100,101,102,103,104,105,106,107,108,109,110,111,112,113,114] [224] (fun(k:Nat)=> [(75, .int .i64 k),(9, .sl 144 [] 0 (zt (rcM m (gq (stM a m s i) i)) U9 (stM a m s i) k).1.length 78),(16, .sl 256 [] 0 k 2),(14, .sl 224 [] 0 0 2)]) (fun k=> []) (fun k=> [(144,⟨.ex,78,xX (zt (rcM m (gq (stM a m s i) i)) U9 (stM a m s i) k).1,none⟩),(256,⟨.ex,2,dI (zt (rcM m (gq (stM a m s i) i)) U9 (stM a m s i) k).2,none⟩),(224,⟨.ex,2,dI U9,none⟩)]) (fun k=>mdF (zt (rcM m (gq (stM a m s i) i)) U9 (stM a m s i) k).1 0) (fun k=>k≤U9.length) (fun k=>U9.length - k) 0 ?_ ?_ (by omega) ?_
     ·
      rw [jd]
      rw [hU9]
      refine zX rfl ?_ ?_ ?_<;>simp only [zg,zf,push_cast,↓zK,↓zJ,↓reduceIte,zA,zB,zC,zD,zE,zF,zG,zH,zI,reduceCtorEq]
      all_goals first|rfl|exact⟨rfl,rfl⟩|exact⟨rfl,rfl,rfl⟩
     ·
      rfl
     ·rintro k hk KL1 hL1
      have hrl:=wH (r:=(rcM m (gq (stM a m s i) i))) (us:=U9) (ps:=(stM a m s i)) (k:=k) hk
      have hfr:=zAX h (i:=i) (k:=k) hi2 (by rw [hU];exact hk)
      rw [hU]at hfr
      have hrr:=JU h (i:=i) (k:=k) hi2 (by rw [hU];exact hk)
      rw [hU]at hrr
      have hrc: ∀p∈(zt (rcM m (gq (stM a m s i) i)) U9 (stM a m s i) k).1,p.record= [gi p.record 0]:=fun p hp=>(hrr p hp).2.2.1
      simp only [push_cast,↓zK,↓zJ,↓reduceIte,zA,zB,zC,zD,zE,zF,zG,zH,zI,reduceCtorEq]
      refine zj fun K hK=> ?_
      refine zq ?_
      refine zM zQ zO [] rfl ?_
      all_goals simp only [push_cast,↓zK,↓zJ,↓reduceIte,zA,zB,zC,zD,zE,zF,zG,zH,zI,reduceCtorEq]
      all_goals repeat'(first|(apply zP<;>(intro hg;(try simp only [push_cast]at hg)))|apply And.intro|(intro hg;(try simp only [push_cast]at hg)))
      all_goals first|exact gA|(exact zW (by omega))|skip
      all_goals first|(refine hK _ _ ?_;clear hK K)|(simp only [push_cast];done)
      refine zj fun K6 hK6=> ?_
      refine qR rfl (fun hc=> ?_) (fun hc=> ?_)
      skip
      ·exfalso;first|(cases hc;done)|(simp only [push_cast]at hc;done)|(simp only [push_cast]at hc;omega)|omega
      refine XV ?_
      have hkk:k=U9.length:=by omega
      subst hkk
      have hst:stM a m s (i+1)=(zt (rcM m (gq (stM a m s i) i)) U9 (stM a m s i) U9.length).1:=by have :=jg (a:=a) (m:=m) (s:=s) hi2;rw [hU]at this;exact this
      have hrw:rwM a m s i=(zt (rcM m (gq (stM a m s i) i)) U9 (stM a m s i) U9.length).2:=by unfold rwM;rw [hU]
      have htk:List.take U9.length (zt (rcM m (gq (stM a m s i) i)) U9 (stM a m s i) U9.length).2=(zt (rcM m (gq (stM a m s i) i)) U9 (stM a m s i) U9.length).2:=List.take_of_length_le (by omega)
      (try simp only [xN,qK,reduceIte,zF]);refine hK5 _ _ ?_
      refine zq ?_
      refine za false zQ zO ?_ rfl ?_
      ·kernel_rfl
      simp only [push_cast,↓zK,↓zJ,↓reduceIte,zA,zB,zC,zD,zE,zF,zG,zH,zI,reduceCtorEq]
      all_goals repeat'(first|(apply zP<;>(intro hg;(try simp only [push_cast]at hg)))|apply And.intro|(intro hg;(try simp only [push_cast]at hg)))
      all_goals first|exact gA|(exact zW (by omega))|skip
      (try simp only [xN,qK,reduceIte,zF]);refine hK3 _ _ ?_
      refine xw 22 10 (Nat.le_of_ble_eq_true rfl) ?_
      simp only [push_cast,↓zK,↓zJ,↓reduceIte,zA,zB,zC,zD,zE,zF,zG,zH,zI,reduceCtorEq]
      refine zq ?_
      refine zM zQ zO [] rfl ?_
      all_goals simp only [push_cast,↓zK,↓zJ,↓reduceIte,zA,zB,zC,zD,zE,zF,zG,zH,zI,reduceCtorEq]
      all_goals repeat'(first|(apply zP<;>(intro hg;(try simp only [push_cast]at hg)))|apply And.intro|(intro hg;(try simp only [push_cast]at hg)))
      all_goals first|exact gA|(exact zW (by omega))|skip
      refine hL0 _ _ ⟨i+1,(by rw [hst];omega),by omega,?_,?_⟩
      rotate_left
      ·
       rw [hst]
      (try rw [List.take_of_length_le (l:=rsM a m s i) (by omega)])
      (try rw [htk])
      rw [hst,zEG,hrw]
      refine zX rfl ?_ ?_ ?_<;>simp only [zg,zf,push_cast,↓zK,↓zJ,↓reduceIte,zA,zB,zC,zD,zE,zF,zG,zH,zI,reduceCtorEq]
      all_goals first|rfl|exact⟨rfl,rfl⟩|skip
   ·
    refine vw ?_
    (try simp only [xN,qK,reduceIte,zF]);refine hK4 _ _ ?_
    have hU:usM a m (gq (stM a m s i) i)=(gl a.next (gq (stM a m s i) i).at_.toNat):=Qs (by omega)
    have hU3:(gl a.next (gq (stM a m s i) i).at_.toNat).length≤16:=by rw [←hU];exact hU1
    refine zj fun K hK=> ?_
    refine zq ?_
    refine zM zQ zO [] rfl ?_
    all_goals simp only [push_cast,↓zK,↓zJ,↓reduceIte,zA,zB,zC,zD,zE,zF,zG,zH,zI,reduceCtorEq]
    all_goals repeat'(first|(apply zP<;>(intro hg;(try simp only [push_cast]at hg)))|apply And.intro|(intro hg;(try simp only [push_cast]at hg)))
    all_goals first|exact gA|(exact zW (by omega))|skip
    all_goals first|(refine hK _ _ ?_;clear hK K)|(simp only [push_cast];done)
    refine zj fun K5 hK5=> ?_
    refine zj fun K hK=> ?_
    refine zq ?_
    refine zM zQ zO [] rfl ?_
    all_goals simp only [push_cast,↓zK,↓zJ,↓reduceIte,zA,zB,zC,zD,zE,zF,zG,zH,zI,reduceCtorEq]
    all_goals repeat'(first|(apply zP<;>(intro hg;(try simp only [push_cast]at hg)))|apply And.intro|(intro hg;(try simp only [push_cast]at hg)))
    all_goals first|exact gA|(exact zW (by omega))|skip
    all_goals first|(refine hK _ _ ?_;clear hK K)|(simp only [push_cast];done)
    refine vW ?_
    refine Yc [9,16,18,19,20,21,32,37,39,40,42,44,45,46,47,75,76,77,78,79,80,81,82,83,84,85,86,87,88,89,90,91,92,93,94,95,96,97,98,99,100,101,102,103,104,105,106,107,108,109,110,111,112,113,114] [] (fun(k:Nat)=> [(75, .int .i64 k),(9, .sl 144 [] 0 (zt (rcM m (gq (stM a m s i) i)) (gl a.next (gq (stM a m s i) i).at_.toNat) (stM a m s i) k).1.length 78),(16, .sl 256 [] 0 k 2)]) (fun k=> []) (fun k=> [(144,⟨.ex,78,xX (zt (rcM m (gq (stM a m s i) i)) (gl a.next (gq (stM a m s i) i).at_.toNat) (stM a m s i) k).1,none⟩),(256,⟨.ex,2,dI (zt (rcM m (gq (stM a m s i) i)) (gl a.next (gq (stM a m s i) i).at_.toNat) (stM a m s i) k).2,none⟩)]) (fun k=>mdF (zt (rcM m (gq (stM a m s i) i)) (gl a.next (gq (stM a m s i) i).at_.toNat) (stM a m s i) k).1 0) (fun k=>k≤(gl a.next (gq (stM a m s i) i).at_.toNat).length) (fun k=>(gl a.next (gq (stM a m s i) i).at_.toNat).length - k) 0 ?_ ?_ (by omega) ?_
    ·
     rw [jd]
     refine zX rfl ?_ ?_ ?_<;>simp only [zg,zf,push_cast,↓zK,↓zJ,↓reduceIte,zA,zB,zC,zD,zE,zF,zG,zH,zI,reduceCtorEq]
     all_goals first|rfl|exact⟨rfl,rfl⟩|exact⟨rfl,rfl,rfl⟩
    ·
     rfl
    ·rintro k hk KL1 hL1
     have hrl:=wH (r:=(rcM m (gq (stM a m s i) i))) (us:=(gl a.next (gq (stM a m s i) i).at_.toNat)) (ps:=(stM a m s i)) (k:=k) hk
     have hfr:=zAX h (i:=i) (k:=k) hi2 (by rw [hU];exact hk)
     rw [hU]at hfr
     have hrr:=JU h (i:=i) (k:=k) hi2 (by rw [hU];exact hk)
     rw [hU]at hrr
     have hrc: ∀p∈(zt (rcM m (gq (stM a m s i) i)) (gl a.next (gq (stM a m s i) i).at_.toNat) (stM a m s i) k).1,p.record= [gi p.record 0]:=fun p hp=>(hrr p hp).2.2.1
     simp only [push_cast,↓zK,↓zJ,↓reduceIte,zA,zB,zC,zD,zE,zF,zG,zH,zI,reduceCtorEq]
     refine zj fun K hK=> ?_
     refine zq ?_
     refine zM zQ zO [] rfl ?_
     all_goals simp only [push_cast,↓zK,↓zJ,↓reduceIte,zA,zB,zC,zD,zE,zF,zG,zH,zI,reduceCtorEq]
     all_goals repeat'(first|(apply zP<;>(intro hg;(try simp only [push_cast]at hg)))|apply And.intro|(intro hg;(try simp only [push_cast]at hg)))
     all_goals first|exact gA|(exact zW (by omega))|skip
     all_goals first|(refine hK _ _ ?_;clear hK K)|(simp only [push_cast];done)
     refine zj fun K6 hK6=> ?_
     refine qR rfl (fun hc=> ?_) (fun hc=> ?_)<;>(try simp only [push_cast]at hc)
     ·
      refine vw ?_
      (try simp only [xN,qK,reduceIte,zF]);refine hK6 _ _ ?_
      refine zj fun K7 hK7=> ?_
      refine vW ?_
      refine zj fun K hK=> ?_
      refine zq ?_
      refine zM zQ zO [] rfl ?_
      all_goals simp only [push_cast,↓zK,↓zJ,↓reduceIte,zA,zB,zC,zD,zE,zF,zG,zH,zI,reduceCtorEq]
      all_goals repeat'(first|(apply zP<;>(intro hg;(try simp only [push_cast]at hg)))|apply And.intro|(intro hg;(try simp only [push_cast]at hg)))
      all_goals first|exact gA|(exact zW (by omega))|skip
      all_goals first|(refine hK _ _ ?_;clear hK K)|(simp only [push_cast];done)
      refine zj fun K hK=> ?_
      refine qS zQ zO Yy [] rfl ?_
      all_goals simp only [push_cast,↓zK,↓zJ,↓reduceIte,zA,zB,zC,zD,zE,zF,zG,zH,zI,reduceCtorEq]
      all_goals repeat'(first|(apply zP<;>(intro hg;(try simp only [push_cast]at hg)))|apply And.intro|(intro hg;(try simp only [push_cast]at hg)))
      all_goals first|exact gA|exact⟨_,rfl⟩|(exact zW (by omega))|skip
      all_goals first|(refine hK _ _ ?_;clear hK K)|(simp only [push_cast];done)
      by_cases hx:ixQ (yc (gi (gl a.next (gq (stM a m s i) i).at_.toNat) k) (rcM m (gq (stM a m s i) i))) (zt (rcM m (gq (stM a m s i) i)) (gl a.next (gq (stM a m s i) i).at_.toNat) (stM a m s i) k).1<0
      ·
       have hlk:lkM (mdF (zt (rcM m (gq (stM a m s i) i)) (gl a.next (gq (stM a m s i) i).at_.toNat) (stM a m s i) k).1 0) ((gi (gl a.next (gq (stM a m s i) i).at_.toNat) k),(gi (gl m.next (gi (gq (stM a m s i) i).record 0).toNat) (gq (stM a m s i) i).at_.toNat))=none:=zID hrc hx
       refine zj fun K hK=> ?_
       refine qS zQ zO Yy [] rfl ?_
       all_goals simp only [push_cast,↓zK,↓zJ,↓reduceIte,zA,zB,zC,zD,zE,zF,zG,zH,zI,reduceCtorEq]
       all_goals repeat'(first|(apply zP<;>(intro hg;(try simp only [push_cast]at hg)))|apply And.intro|(intro hg;(try simp only [push_cast]at hg)))
       all_goals first|exact gA|exact⟨_,rfl⟩|(exact zW (by omega))|skip
       all_goals first|(refine hK _ _ ?_;clear hK K)|(simp only [push_cast];done)
       all_goals rw [hlk]
       all_goals simp only [Option.getD_none,Option.isSome_none]
       refine zj fun K8 hK8=> ?_
       refine zj fun K hK=> ?_
       refine zq ?_
       refine zM zQ zO [] rfl ?_
       all_goals simp only [push_cast,↓zK,↓zJ,↓reduceIte,zA,zB,zC,zD,zE,zF,zG,zH,zI,reduceCtorEq]
       all_goals repeat'(first|(apply zP<;>(intro hg;(try simp only [push_cast]at hg)))|apply And.intro|(intro hg;(try simp only [push_cast]at hg)))
       all_goals first|exact gA|(exact zW (by omega))|skip
       all_goals first|(refine hK _ _ ?_;clear hK K)|(simp only [push_cast];done)
       refine qR rfl (fun hc=> ?_) (fun hc=> ?_)
       rotate_left
       ·exfalso;first|(cases hc;done)|(simp only [push_cast]at hc;done)|(simp only [push_cast]at hc;omega)|omega
       refine zj fun K hK=> ?_
       refine zq ?_
       refine zM zQ zO [] rfl ?_
       all_goals simp only [push_cast,↓zK,↓zJ,↓reduceIte,zA,zB,zC,zD,zE,zF,zG,zH,zI,reduceCtorEq]
       all_goals repeat'(first|(apply zP<;>(intro hg;(try simp only [push_cast]at hg)))|apply And.intro|(intro hg;(try simp only [push_cast]at hg)))
       all_goals first|exact gA|(exact zW (by omega))|skip
       all_goals first|(refine hK _ _ ?_;clear hK K)|(simp only [push_cast];done)
       refine zj fun K hK=> ?_
       refine qS zQ zO Yy [] rfl ?_
       all_goals simp only [push_cast,↓zK,↓zJ,↓reduceIte,zA,zB,zC,zD,zE,zF,zG,zH,zI,reduceCtorEq]
       all_goals repeat'(first|(apply zP<;>(intro hg;(try simp only [push_cast]at hg)))|apply And.intro|(intro hg;(try simp only [push_cast]at hg)))
       all_goals first|exact gA|exact⟨_,rfl⟩|(exact zW (by omega))|skip
       all_goals first|(refine hK _ _ ?_;clear hK K)|(simp only [push_cast];done)
       refine WA false 4 zQ zO Yy ?_ rfl (by decide) ?_
       ·kernel_rfl
       all_goals simp only [push_cast,↓zK,↓zJ,↓reduceIte,zA,zB,zC,zD,zE,zF,zG,zH,zI,reduceCtorEq]
       all_goals repeat'(first|(apply zP<;>(intro hg;(try simp only [push_cast]at hg)))|apply And.intro|(intro hg;(try simp only [push_cast]at hg)))
       all_goals first|exact gA|exact⟨_,rfl⟩|(exact zW (by omega))|skip
       (try simp only [xN,qK,reduceIte,zF]);refine hK8 _ _ ?_
       refine xw 78 9 (Nat.le_of_ble_eq_true rfl) ?_
       simp only [push_cast,↓zK,↓zJ,↓reduceIte,zA,zB,zC,zD,zE,zF,zG,zH,zI,reduceCtorEq]
       refine zq ?_
       refine zM zQ zO [] rfl ?_
       all_goals simp only [push_cast,↓zK,↓zJ,↓reduceIte,zA,zB,zC,zD,zE,zF,zG,zH,zI,reduceCtorEq]
       all_goals repeat'(first|(apply zP<;>(intro hg;(try simp only [push_cast]at hg)))|apply And.intro|(intro hg;(try simp only [push_cast]at hg)))
       all_goals first|exact gA|(exact zW (by omega))|skip
       (try simp only [xN,qK,reduceIte,zF]);refine hK7 _ _ ?_
       refine zq ?_
       refine zM zQ zO [] rfl ?_
       all_goals simp only [push_cast,↓zK,↓zJ,↓reduceIte,zA,zB,zC,zD,zE,zF,zG,zH,zI,reduceCtorEq]
       all_goals repeat'(first|(apply zP<;>(intro hg;(try simp only [push_cast]at hg)))|apply And.intro|(intro hg;(try simp only [push_cast]at hg)))
       all_goals first|exact gA|(exact zW (by omega))|skip
       refine hL1 _ _ ⟨k+1,by omega,by omega,?_,?_⟩
       rotate_left
       ·
        rw [vD (by omega) hx,kb,Nat.zero_add];rfl
       (try rw [List.take_of_length_le (l:=(zt (rcM m (gq (stM a m s i) i)) (gl a.next (gq (stM a m s i) i).at_.toNat) (stM a m s i) k).2) (by omega)])
       rw [vD (by omega) hx]
       refine zX rfl ?_ ?_ ?_<;>simp only [zg,zf,push_cast,↓zK,↓zJ,↓reduceIte,zA,zB,zC,zD,zE,zF,zG,zH,zI,reduceCtorEq]
       all_goals first|rfl|(rw [List.length_append];rfl)|exact⟨rfl,rfl⟩|skip
      ·
       have hlk:lkM (mdF (zt (rcM m (gq (stM a m s i) i)) (gl a.next (gq (stM a m s i) i).at_.toNat) (stM a m s i) k).1 0) ((gi (gl a.next (gq (stM a m s i) i).at_.toNat) k),(gi (gl m.next (gi (gq (stM a m s i) i).record 0).toNat) (gq (stM a m s i) i).at_.toNat))=some (ixQ (yc (gi (gl a.next (gq (stM a m s i) i).at_.toNat) k) (rcM m (gq (stM a m s i) i))) (zt (rcM m (gq (stM a m s i) i)) (gl a.next (gq (stM a m s i) i).at_.toNat) (stM a m s i) k).1):=zFb hrc hx
       refine zj fun K hK=> ?_
       refine qS zQ zO Yy [] rfl ?_
       all_goals simp only [push_cast,↓zK,↓zJ,↓reduceIte,zA,zB,zC,zD,zE,zF,zG,zH,zI,reduceCtorEq]
       all_goals repeat'(first|(apply zP<;>(intro hg;(try simp only [push_cast]at hg)))|apply And.intro|(intro hg;(try simp only [push_cast]at hg)))
       all_goals first|exact gA|exact⟨_,rfl⟩|(exact zW (by omega))|skip
       all_goals first|(refine hK _ _ ?_;clear hK K)|(simp only [push_cast];done)
       all_goals rw [hlk]
       all_goals simp only [Option.getD_some,Option.isSome_some]
       refine zj fun K8 hK8=> ?_
       refine zj fun K hK=> ?_
       refine zq ?_
       refine zM zQ zO [] rfl ?_
       all_goals simp only [push_cast,↓zK,↓zJ,↓reduceIte,zA,zB,zC,zD,zE,zF,zG,zH,zI,reduceCtorEq]
       all_goals repeat'(first|(apply zP<;>(intro hg;(try simp only [push_cast]at hg)))|apply And.intro|(intro hg;(try simp only [push_cast]at hg)))
       all_goals first|exact gA|(exact zW (by omega))|skip
       all_goals first|(refine hK _ _ ?_;clear hK K)|(simp only [push_cast];done)
       refine qR rfl (fun hc=> ?_) (fun hc=> ?_)
       skip
       ·exfalso;first|(cases hc;done)|(simp only [push_cast]at hc;done)|(simp only [push_cast]at hc;omega)|omega
       refine vw ?_
       (try simp only [xN,qK,reduceIte,zF]);refine hK8 _ _ ?_
       refine xw 78 9 (Nat.le_of_ble_eq_true rfl) ?_
       simp only [push_cast,↓zK,↓zJ,↓reduceIte,zA,zB,zC,zD,zE,zF,zG,zH,zI,reduceCtorEq]
       refine zq ?_
       refine zM zQ zO [] rfl ?_
       all_goals simp only [push_cast,↓zK,↓zJ,↓reduceIte,zA,zB,zC,zD,zE,zF,zG,zH,zI,reduceCtorEq]
       all_goals repeat'(first|(apply zP<;>(intro hg;(try simp only [push_cast]at hg)))|apply And.intro|(intro hg;(try simp only [push_cast]at hg)))
       all_goals first|exact gA|(exact zW (by omega))|skip
       (try simp only [xN,qK,reduceIte,zF]);refine hK7 _ _ ?_
       refine zq ?_
       refine zM zQ zO [] rfl ?_
       all_goals simp only [push_cast,↓zK,↓zJ,↓reduceIte,zA,zB,zC,zD,zE,zF,zG,zH,zI,reduceCtorEq]
       all_goals repeat'(first|(apply zP<;>(intro hg;(try simp only [push_cast]at hg)))|apply And.intro|(intro hg;(try simp only [push_cast]at hg)))
       all_goals first|exact gA|(exact zW (by omega))|skip
       refine hL1 _ _ ⟨k+1,by omega,by omega,?_,?_⟩
       rotate_left
       ·
        rw [vE (by omega) hx]
       (try rw [List.take_of_length_le (l:=(zt (rcM m (gq (stM a m s i) i)) (gl a.next (gq (stM a m s i) i).at_.toNat) (stM a m s i) k).2) (by omega)])
       rw [vE (by omega) hx]
       refine zX rfl ?_ ?_ ?_<;>simp only [zg,zf,push_cast,↓zK,↓zJ,↓reduceIte,zA,zB,zC,zD,zE,zF,zG,zH,zI,reduceCtorEq]
       all_goals first|rfl|(rw [List.length_append];rfl)|exact⟨rfl,rfl⟩|skip
     ·
      refine XV ?_
      have hkk:k=(gl a.next (gq (stM a m s i) i).at_.toNat).length:=by omega
      subst hkk
      have hst:stM a m s (i+1)=(zt (rcM m (gq (stM a m s i) i)) (gl a.next (gq (stM a m s i) i).at_.toNat) (stM a m s i) (gl a.next (gq (stM a m s i) i).at_.toNat).length).1:=by have :=jg (a:=a) (m:=m) (s:=s) hi2;rw [hU]at this;exact this
      have hrw:rwM a m s i=(zt (rcM m (gq (stM a m s i) i)) (gl a.next (gq (stM a m s i) i).at_.toNat) (stM a m s i) (gl a.next (gq (stM a m s i) i).at_.toNat).length).2:=by unfold rwM;rw [hU]
      have htk:List.take (gl a.next (gq (stM a m s i) i).at_.toNat).length (zt (rcM m (gq (stM a m s i) i)) (gl a.next (gq (stM a m s i) i).at_.toNat) (stM a m s i) (gl a.next (gq (stM a m s i) i).at_.toNat).length).2=(zt (rcM m (gq (stM a m s i) i)) (gl a.next (gq (stM a m s i) i).at_.toNat) (stM a m s i) (gl a.next (gq (stM a m s i) i).at_.toNat).length).2:=List.take_of_length_le (by omega)
      (try simp only [xN,qK,reduceIte,zF]);refine hK5 _ _ ?_
      refine zq ?_
      refine za false zQ zO ?_ rfl ?_
      ·kernel_rfl
      simp only [push_cast,↓zK,↓zJ,↓reduceIte,zA,zB,zC,zD,zE,zF,zG,zH,zI,reduceCtorEq]
      all_goals repeat'(first|(apply zP<;>(intro hg;(try simp only [push_cast]at hg)))|apply And.intro|(intro hg;(try simp only [push_cast]at hg)))
      all_goals first|exact gA|(exact zW (by omega))|skip
      (try simp only [xN,qK,reduceIte,zF]);refine hK3 _ _ ?_
      refine xw 22 10 (Nat.le_of_ble_eq_true rfl) ?_
      simp only [push_cast,↓zK,↓zJ,↓reduceIte,zA,zB,zC,zD,zE,zF,zG,zH,zI,reduceCtorEq]
      refine zq ?_
      refine zM zQ zO [] rfl ?_
      all_goals simp only [push_cast,↓zK,↓zJ,↓reduceIte,zA,zB,zC,zD,zE,zF,zG,zH,zI,reduceCtorEq]
      all_goals repeat'(first|(apply zP<;>(intro hg;(try simp only [push_cast]at hg)))|apply And.intro|(intro hg;(try simp only [push_cast]at hg)))
      all_goals first|exact gA|(exact zW (by omega))|skip
      refine hL0 _ _ ⟨i+1,(by rw [hst];omega),by omega,?_,?_⟩
      rotate_left
      ·
       rw [hst]
      (try rw [List.take_of_length_le (l:=rsM a m s i) (by omega)])
      (try rw [htk])
      rw [hst,zEG,hrw]
      refine zX rfl ?_ ?_ ?_<;>simp only [zg,zf,push_cast,↓zK,↓zJ,↓reduceIte,zA,zB,zC,zD,zE,zF,zG,zH,zI,reduceCtorEq]
      all_goals first|rfl|exact⟨rfl,rfl⟩|skip
  ·
   refine XV ?_
   (try simp only [xN,qK,reduceIte,zF]);refine hK1 _ _ ?_
   refine zj fun K hK=> ?_
   refine zq ?_
   refine zM zQ zO [] rfl ?_
   all_goals simp only [push_cast,↓zK,↓zJ,↓reduceIte,zA,zB,zC,zD,zE,zF,zG,zH,zI,reduceCtorEq]
   all_goals repeat'(first|(apply zP<;>(intro hg;(try simp only [push_cast]at hg)))|apply And.intro|(intro hg;(try simp only [push_cast]at hg)))
   all_goals first|exact gA|(exact zW (by omega))|skip
   all_goals first|(refine hK _ _ ?_;clear hK K)|(simp only [push_cast];done)
   refine zGg ?_
   (try simp only [xN,qK])
   refine⟨Or.inl rfl,?_⟩
   simp only [zi,yS,xU,push_cast,↓zK,↓zJ,↓reduceIte,zA,zB,zC,zD,zE,zF,zG,zH,zI,reduceCtorEq]
   have hE:=zDu h (by omega) (show ¬i<(stM a m s i).length by omega)
   rw [hE,show(stM a m s i).length=i by omega,hrs]
   all_goals first|rfl|exact⟨⟨rfl,rfl⟩,rfl,rfl⟩|skip
end Go.Proofs.Ytggpbepdeilpgaa
