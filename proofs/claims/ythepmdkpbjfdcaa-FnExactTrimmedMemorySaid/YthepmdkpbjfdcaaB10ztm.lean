/- The state with a map beside it: rules. -/
import Derived.Test.YthepmdkpbjfdcaaB8ztm
namespace Go.Proofs.Ythepmdkpbjfdcaa
open Go.RowKit
set_option linter.unusedVariables false
set_option linter.unusedSimpArgs false
structure Ym (w w':World)(r:Nat):Prop where
 os:w'.os=w.os
 tape:w'.tape=w.tape
 output:w'.output=w.output
 size:w'.heap.size=w.heap.size
 other: ∀k,k≠r→w'.heap[k]? =w.heap[k]?
 it: ∃m,w.heap[r]? =some (qf m)
section
variable {w w':World} {r:Nat}
theorem Ym.cell (hm:Ym w w' r){b o:Nat}{u:Value}(h:w.cell? ⟨b,o,none⟩=some u):w'.cell? ⟨b,o,none⟩=some u:=by
 by_cases e:b=r
 ·obtain⟨m,hm⟩:=hm.it
  rw [e]at h
  simp [World.cell?,hm,qf]at h
 ·rw [xP (hm.other b e)];exact h
theorem Ym.cells (hm:Ym w w' r){b:Nat}{cs:Array Value}{ty:TypeId}{fz:Nat×Nat}(h:w.heap[b]? =some (.cells cs ty fz)):w'.heap[b]? =some (.cells cs ty fz):=by
 by_cases e:b=r
 ·obtain⟨m,hm⟩:=hm.it
  rw [e,hm]at h
  cases h
 ·rw [hm.other b e];exact h
theorem zC8 {S:TypeId→Nat}{lo:Nat}{ow:Nat→Option Pl}(hm:Ym w w' r){m:Md}{e:TypeId}{v:Value}{N:Nat}{vs:List Value}(h:Hd S lo w ow m e v N vs):Hd S lo w' ow m e v N vs:=by
 obtain⟨h1,n,h2,h3⟩:=h
 refine⟨h1,n,h2,?_⟩
 have own: ∀(p:Pl),(w.ownsRow lo e (S e) v n vs∧∀b,v.ownBlock=some b→ow b=some p)→(w'.ownsRow lo e (S e) v n vs∧∀b,v.ownBlock=some b→ow b=some p):=by
  rintro p ⟨h3,h4⟩
  refine⟨⟨h3.1,?_⟩,h4⟩
  rcases h3.2 with hn|⟨g,cap,cur,hv,hb,hg,rest⟩
  ·exact .inl hn
  ·exact .inr ⟨g,cap,cur,hv,hb,hm.cells hg,rest⟩
 cases m with
 |sh=>
  obtain⟨A,c,hv,hn,hc,hmm⟩:=h3
  refine⟨A,c,hv,hn,hc,fun h0=> ?_⟩
  obtain⟨b,o,hA,hb,ho,hcell⟩:=hmm h0
  exact⟨b,o,hA,by rw [hm.size];exact hb,ho,fun i u hu=>hm.cell (hcell i u hu)⟩
 |ex d p=>exact own _ h3
 |top d p=>exact own _ h3
mutual
theorem Ud {S:TypeId→Nat}{lo:Nat}{ow:Nat→Option Pl}(hm:Ym w w' r): ∀(t:D) (m:Md) (v:Value),Rp S lo w ow m t v→Rp S lo w' ow m t v
 | .int k n,m,v,h=>by simpa only [Rp]using h
 | .bool b,m,v,h=>by simpa only [Rp]using h
 | .hole,m,v,h=>by simpa only [Rp]using h
 | .lst e xs,m,v,h=>by
  simp only [Rp]at h⊢
  obtain⟨vs,h1,h2⟩:=h
  exact⟨vs,zC8 hm h1,kw hm xs m 0 vs h2⟩
theorem kw {S:TypeId→Nat}{lo:Nat}{ow:Nat→Option Pl}(hm:Ym w w' r): ∀(xs:List D) (m:Md) (k:Nat) (vs:List Value),RpL S lo w ow m k xs vs→RpL S lo w' ow m k xs vs
 | [],m,k,vs,h=>by simpa only [RpL]using h
 |x::xs,m,k,vs,h=>by
  simp only [RpL]at h⊢
  obtain⟨v,vs',h1,h2,h3⟩:=h
  exact⟨v,vs',h1,Ud hm x _ v h2,kw hm xs m (k+1) vs' h3⟩
end
end
structure KJ (w:World)(ow:Nat→Option Pl)(r:Nat)(m:MD):Prop where
 it:w.heap[r]? =some (qf m)
 nobody: ∀p,ow r=some p→p= .ext
section
variable {P:Program} {τ:Ty} {lo:Nat} {w0:Fz} {ow:Nat→Option Pl} {hd:Nat→Value} {bk:Nat→Nat} {st:St} {a:Act} {w w':World} {r:Nat} {m:MD}
theorem zAn (h:zb τ lo w0 ow hd bk st a w)(hm:Ym w w' r)(hb:yl w0 w'):zb τ lo w0 ow hd bk st a w':=by
 have hD: ∀d,noB d=false→yh w w' st.r st.r hd hd d:=fun d _ R hR=>⟨R,hR,rfl,fun p hp=>⟨hp,yu p _ _ _ _ (h.root d R hR) hp (fun b o A n c hb _ hc=>hm.cell hc)⟩⟩
 have hB: ∀t,noB t=false→yg st.b st.b bk bk t:=fun t _ hl=>⟨hl,rfl⟩
 refine⟨h.big,h.defers,h.size,by rw [hm.size];exact h.low,hb,fun b p hlt hb hp=>h.ge b p (by rw [←hm.size];exact hlt) hb hp,fun b hb=>h.new b (by rw [←hm.size];exact hb),fun k v hv=> ?_,fun d R hR=>Ud hm _ _ _ (h.root d R hR),fun t vs hv=> ?_,h.pin⟩
 ·have :=yf hD hB v _ (h.slot k v hv)
  rwa [qQ]at this
 ·obtain⟨cs,ty,h1,h2,h3⟩:=h.box t vs hv
  have :=zw hD hB vs cs h3
  rw [yb]at this
  exact⟨cs,ty,hm.cells h1,h2,this⟩
def vt (τ:Ty)(lo:Nat)(w0:Fz)(r:Nat)(m:MD)(st:St)(a:Act)(w:World):Prop:=w0.w.heap.size≤r∧∃ow hd bk,zb τ lo w0 ow hd bk st a w∧KJ w ow r m
def fzM (w0:Fz)(ow:Nat→Option Pl)(w:World):Fz:=⟨w,fun b=> ∀p,ow b=some p→p= .ext,w0.pin⟩
theorem qS (h:zb τ lo w0 ow hd bk st a w):zb τ lo (fzM w0 ow w) ow hd bk st a w:=
 ⟨h.big,h.defers,h.size,h.low,yl.start (fzM w0 ow w),fun b p hlt hb hp=>⟨(h.ge b p hlt hb hp).1,fun _ hk=>hp (hk p hb)⟩,h.new,h.slot,h.root,h.box,h.pin⟩
theorem qK (h:zb τ lo w0 ow hd bk st a w)(hm:KJ w ow r m)(hr:w0.w.heap.size≤r){st':St}{a':Act}(h':Rel τ lo (fzM w0 ow w) st' a' w'):vt τ lo w0 r m st' a' w':=by
 obtain⟨ow',hd',bk',h'⟩:=h'
 have hlt:r<w.heap.size:=(Array.getElem?_eq_some_iff.1 hm.it).1
 have hback: ∀b,(fzM w0 ow w).fre b→w0.fre b:=fun b hf hlt0 hk=>by
  have hb:b<w.heap.size:=Nat.lt_of_lt_of_le hlt0 h.below.size
  refine hf hb fun p hp=> ?_
  cases p with
  |ext=>rfl
  |root d q=>exact absurd hk ((h.ge b _ hb hp (by simp)).2 hlt0)
  |box t=>exact absurd hk ((h.ge b _ hb hp (by simp)).2 hlt0)
 refine⟨hr,ow',hd',bk',⟨h'.big,h'.defers,h'.size,h'.low,?_,fun b p hb hp hne=>⟨(h'.ge b p hb hp hne).1,hback b (h'.ge b p hb hp hne).2⟩,h'.new,h'.slot,h'.root,h'.box,h'.pin⟩,?_,fun p hp=> ?_⟩
 ·refine⟨h'.below.os.trans h.below.os,h'.below.tape.trans h.below.tape,h'.below.output.trans h.below.output,Nat.le_trans h.below.size h'.below.size,fun b hb hk=> ?_⟩
  have hb2:b<w.heap.size:=Nat.lt_of_lt_of_le hb h.below.size
  refine(h'.below.block b hb2 fun p hp=> ?_).trans (h.below.block b hb hk)
  cases p with
  |ext=>rfl
  |root d q=>exact absurd hk ((h.ge b _ hb2 hp (by simp)).2 hb)
  |box t=>exact absurd hk ((h.ge b _ hb2 hp (by simp)).2 hb)
 ·rw [←hm.it]
  exact h'.below.block r hlt hm.nobody
 ·cases p with
  |ext=>rfl
  |root d q=>
   have hsz:=h'.below.size
   exact absurd hm.nobody ((h'.ge r _ (Nat.lt_of_lt_of_le hlt hsz) hp (by simp)).2 hlt)
  |box t=>
   have hsz:=h'.below.size
   exact absurd hm.nobody ((h'.ge r _ (Nat.lt_of_lt_of_le hlt hsz) hp (by simp)).2 hlt)
theorem Kh {st':St}(h:vt τ lo w0 r m st a w)(hc:Cov st st'):vt τ lo w0 r m st' a w:=by
 obtain⟨hr,ow,hd,bk,h1,h2⟩:=h
 exact qK h1 h2 hr (qM ⟨ow,hd,bk,qS h1⟩ hc)
end
def xf (P:Program)(τ:Ty)(r:Nat)(c:Code)(Q:Exit→St→MD→Prop)(st:St)(m:MD):Prop:=
 ∀(lo:Nat) (w0:Fz) (a:Act) (w:World),vt τ lo w0 r m st a w→c.wp P (fun e a' w'=> ∃st' m',vt τ lo w0 r m' st' a' w'∧Q e st' m') a w
def yi (N:St→MD→Prop)(Q:Exit→St→MD→Prop):Exit→St→MD→Prop
 | .normal,st,m=>N st m
 |e,st,m=>Q e st m
def xe (id:Nat)(Q:Exit→St→MD→Prop):Exit→St→MD→Prop
 | .exit id',st,m=>if id'=id then Q .normal st m else Q (.exit id') st m
 |e,st,m=>Q e st m
section
variable {P:Program} {τ:Ty} {r:Nat} {Q:Exit→St→MD→Prop} {st:St} {m:MD}
theorem zg {c:Code}(h:awp P τ c (fun e st'=>Q e st' m) st):xf P τ r c Q st m:=fun lo w0 a w ⟨hr,ow,hd,bk,h1,h2⟩=>
 Go.wp_mono (h lo _ a w ⟨ow,hd,bk,qS h1⟩) fun e a' w' ⟨st',h3,h4⟩=>⟨st',m,qK h1 h2 hr h3,h4⟩
theorem zA1 {x y:Code}(h:xf P τ r x (yi (fun st m=>xf P τ r y Q st m) Q) st m):xf P τ r (.seq x y) Q st m:=fun lo w0 a w hr=>by
 refine wp_seq (Go.wp_mono (h lo w0 a w hr) fun e a' w' ⟨st',m',h1,h2⟩=> ?_)
 cases e with
 |normal=>exact h2 lo w0 a' w' h1
 |_=>exact⟨st',m',h1,h2⟩
theorem ze {x y:Code}(h: ∀K:St→MD→Prop,(∀st m,xf P τ r y Q st m→K st m)→xf P τ r x (yi K Q) st m):xf P τ r (.seq x y) Q st m:=zA1 (h _ fun _ _ h=>h)
theorem qV {id:Nat}{c:Code}(h:xf P τ r c (xe id Q) st m):xf P τ r (.block id c) Q st m:=fun lo w0 a w hr=>by
 refine wp_block (Go.wp_mono (h lo w0 a w hr) fun e a' w' ⟨st',m',h1,h2⟩=> ?_)
 cases e with
 |exit id'=>
  simp only [Exit.inBlock,xe]at h2⊢
  split
  ·rename_i e;rw [if_pos e]at h2;exact⟨st',m',h1,h2⟩
  ·rename_i e;rw [if_neg e]at h2;exact⟨st',m',h1,h2⟩
 |_=>exact⟨st',m',h1,h2⟩
theorem qu (h:Q .normal st m):xf P τ r .skip Q st m:=fun lo w0 a w hr=>wp_skip ⟨st,m,hr,h⟩
theorem Ze {id:Nat}(h:Q (.exit id) st m):xf P τ r (.exit id) Q st m:=fun lo w0 a w hr=>wp_exit ⟨st,m,hr,h⟩
theorem zA0 (h:Q .ret st m):xf P τ r .ret Q st m:=fun lo w0 a w hr=>wp_ret ⟨st,m,hr,h⟩
theorem xk {c:Operand}{x y:Code}{b:Bool}(hc:ev st c= .bool b)(ht:b=true→xf P τ r x Q st m)(hf:b=false→xf P τ r y Q st m):xf P τ r (.cond c x y) Q st m:=fun lo w0 a w hr=>by
 obtain⟨-,ow,hd,bk,h1,-⟩:=id hr
 have hx:=zY h1 c
 rw [hc]at hx
 simp only [AvR]at hx
 exact wp_cond_split hx (fun e=>ht e lo w0 a w hr) (fun e=>hf e lo w0 a w hr)
theorem Um {ι:Type}{c:Code}(F:ι→St)(G:ι→MD)(I:ι→Prop)(μ:ι→Nat)(i0:ι)(h0:Cov st (F i0))(hm:m=G i0)(hI:I i0)
  (round: ∀i,I i→xf P τ r c (yi (fun st' m'=> ∃j,I j∧μ j<μ i∧Cov st' (F j)∧m'=G j) Q) (F i) (G i)):xf P τ r (.loop c) Q st m:=fun lo w0 a w hr=>by
 intro b k cs
 have key: ∀n i a w,μ i=n→I i→vt τ lo w0 r (G i) (F i) a w→∃e a' w',(∃st' m',vt τ lo w0 r m' st' a' w'∧Q e st' m')∧Arrives P (lone (b.at a (.code c:: .inLoop c::k)) cs w) b k cs e a' w':=by
  intro n
  induction n using Nat.strongRecOn with
  |_ n ih=>
   intro i a w hn hi hr
   obtain⟨e,a₁,w₁,⟨st',m',hr',hq⟩,harr⟩:=round i hi lo w0 a w hr b (.inLoop c::k) cs
   cases e with
   |normal=>
    obtain⟨j,hj,hlt,hcov,rfl⟩:=hq
    obtain⟨e₂,a₂,w₂,hq₂,harr₂⟩:=ih (μ j) (hn ▸ hlt) j a₁ w₁ rfl hj (Kh hr' hcov)
    exact⟨e₂,a₂,w₂,hq₂, .of_steps (Steps.trans harr (.one step_inLoop)) harr₂⟩
   |exit id=>exact⟨_,a₁,w₁,⟨st',m',hr',hq⟩, .pass (x:= .inLoop c) rfl (fun _ _=> .inl (by simp)) harr⟩
   |goto l=>exact⟨_,a₁,w₁,⟨st',m',hr',hq⟩, .pass (x:= .inLoop c) rfl (fun _ _=> .inl (by simp)) harr⟩
   |ret=>exact⟨_,a₁,w₁,⟨st',m',hr',hq⟩, .pass (x:= .inLoop c) rfl (fun _ _=> .inl (by simp)) harr⟩
   |panic ch=>exact⟨_,a₁,w₁,⟨st',m',hr',hq⟩, .pass (x:= .inLoop c) rfl (fun _ _=> .inl (by simp)) harr⟩
   |outgrown=>exact⟨_,a₁,w₁,⟨st',m',hr',hq⟩, .pass (x:= .inLoop c) rfl (fun _ _=> .inl (by simp)) harr⟩
 obtain⟨e,a',w',hq,harr⟩:=key _ i0 a w rfl hI (hm ▸ Kh hr h0)
 exact⟨e,a',w',hq, .of_steps (.one step_loop) harr⟩
theorem ww {ι:Type}{c:Code}(ds rs:List Nat)(L:ι→List (Nat×AV))(B:ι→List (Nat×List AV))(R:ι→List (Nat×zn))(G:ι→MD)(I:ι→Prop)(μ:ι→Nat)(i0:ι)(h0:Cov st (st.reset ds rs (L i0) (B i0) (R i0)))(hm:m=G i0)(hI:I i0)
  (round: ∀i,I i→∀K:St→MD→Prop,(∀st' m',(∃j,I j∧μ j<μ i∧Cov st' (st.reset ds rs (L j) (B j) (R j))∧m'=G j)→K st' m')→xf P τ r c (yi K Q) (st.reset ds rs (L i) (B i) (R i)) (G i)):xf P τ r (.loop c) Q st m:=
 Um (fun i=>st.reset ds rs (L i) (B i) (R i)) G I μ i0 h0 hm hI fun i hi=>round i hi _ fun _ _ h=>h
end
def aopM (P:Program)(τ:Ty)(al:List Nat)(ta tm:TypeId)(r:Nat)(o:Oper)(K:St→MD→Prop)(st:St)(m:MD):Prop:=
 match o.op with
 | .build t fs=>if t=ta then(match fs.toList with
   | [(0,x),(1,y)]=>(match ev st x,ev st y with
    | .int .i64 a, .int .i64 b=>K (st.put o.dst (.agg [.int .i64 a, .int .i64 b])) m
    |_,_=>False)
   |_=>False)else aop P τ al o (fun st'=>K st' m) st
 | .alloc t=>if t=ta then(match o.dst with
   |some d=>d≠1000000∧K ((Vq τ st d ta [.int .i64 0, .int .i64 0]).put (some d) (.bp d 0)) m
   |none=>False)else aop P τ al o (fun st'=>K st' m) st
 | .store t p v=>if t=ta then(match ev st p,ev st v with
   | .bp d 0, .agg [.int .i64 a, .int .i64 b]=>(match lk st.b d with
    |some [_,_]=>K ((st.setB d [.int .i64 a, .int .i64 b]).put o.dst (.tup [])) m
    |_=>False)
   |_,_=>False)else aop P τ al o (fun st'=>K st' m) st
 | .load t p=>if t=ta then(match ev st p with
   | .bp d 0=>(match lk st.b d with
    |some [x,y]=>K (st.put o.dst (.agg [x,y])) m
    |_=>False)
   |_=>False)else aop P τ al o (fun st'=>K st' m) st
 | .indexAddr t p i=>if t=ta then(match ev st p,ev st i with
   | .bp d 0, .int .i64 k=>(∃cs,lk st.b d=some cs)∧(0≤k∧k<2)∧K (st.put o.dst (.bp d k.toNat)) m
   |_,_=>False)else aop P τ al o (fun st'=>K st' m) st
 | .lookup t x k true=>t=tm∧(match ev st x,ev st k with
   | .raw u, .agg [.int .i64 a, .int .i64 b]=>u= .map (some r)∧K (st.put o.dst (.tup [.int .i64 ((lkM m (a,b)).getD 0), .bool (lkM m (a,b)).isSome])) m
   |_,_=>False)
 | .mapUpdate t x k v=>t=tm∧(match ev st x,ev st k,ev st v with
   | .raw u, .agg [.int .i64 a, .int .i64 b], .int .i64 z=>u= .map (some r)∧lkM m (a,b)=none∧K (st.put o.dst (.tup [])) (m++ [((a,b),z)])
   |_,_,_=>False)
 | .insert t x k v=>t=tm∧(match ev st x,ev st k,ev st v with
   | .raw u, .agg [.int .i64 a, .int .i64 b], .int .i64 z=>u= .map (some r)∧lkM m (a,b)=none∧K (st.put o.dst (.tup [])) (m++ [((a,b),z)])
   |_,_,_=>False)
 |_=>aop P τ al o (fun st'=>K st' m) st
section
variable {P:Program} {τ:Ty} {lo:Nat} {w0:Fz} {ow:Nat→Option Pl} {hd:Nat→Value} {bk:Nat→Nat} {st:St} {a:Act} {w w':World} {r:Nat} {m:MD} {ta te tm:TypeId}
theorem agg2 {x:Value}{b c:Int}(h:AvR τ w st.r st.b hd bk (.agg [.int .i64 b, .int .i64 c]) x):x= .agg #[.int .i64 b, .int .i64 c]:=by
 simp only [AvR,zW]at h
 obtain⟨_,rfl,_,_,rfl,rfl,_,_,rfl,rfl,rfl⟩:=h
 rfl
theorem zBP {o:Obj}(hr:w.heap[r]? =some (qf m)):Ym w {w with heap:=w.heap.setIfInBounds r o} r:=
 ⟨rfl,rfl,rfl,by simp,fun k hk=>by simp only;rw [Array.getElem?_setIfInBounds,if_neg (fun e=>hk e.symm)],m,hr⟩
theorem Vj (hτ:zu P τ)(hpos:yR τ)(hT:ya P ta te tm){al:List Nat}{o:Oper}{K:St→MD→Prop}{Q:Exit→Act→World→Prop}{K':Act→World→Prop}(hd9: ∀k,o.dst=some k→k<a.tmps.size)(h:vt τ lo w0 r m st a w)(ha:aopM P τ al ta tm r o K st m)
  (hK: ∀st' m' x w',K st' m'→vt τ lo w0 r m' st' (a.put o.dst x) w'→K' (a.put o.dst x) w'):o.wp P a w K' Q:=by
 obtain⟨hr0,ow,hd,bk,hr,hm⟩:=id h
 have std:aop P τ al o (fun st'=>K st' m) st→o.wp P a w K' Q:=fun ha=>wa hτ hpos hd9 ⟨ow,hd,bk,qS hr⟩ ha fun st' x w' h2 h3=>hK st' m x w' h2 (qK hr hm hr0 h3)
 -- the end of an operation that gives a value in the same world
 have fin: ∀{x:Value} {v:AV},(execOp a.eval o).run P w= .ok (.value x) w→AvR τ w st.r st.b hd bk v x→K (st.put o.dst v) m→o.wp P a w K' Q:=fun{x v} he hv hk=>by
  unfold Oper.wp
  rw [he]
  exact hK _ m x w hk (qK hr hm hr0 (yj (qS hr) hd9 hv))
 have sk: ∀{w':World} {st1:St},(execOp a.eval o).run P w= .ok .skip w'→zb τ lo (fzM w0 ow w) ow hd bk st1 a w'→K (st1.put o.dst (.tup [])) m→o.wp P a w K' Q:=fun{w' st1} he hv hk=>by
  unfold Oper.wp
  rw [he]
  exact hK _ m undef w' hk (qK hr hm hr0 (yj hv hd9 (by simp only [AvR];exact⟨[],rfl,by simp [zW]⟩)))
 have up: ∀{k:Int×Int} {z:Int},(execOp a.eval o).run P w= .ok .skip {w with heap:=w.heap.setIfInBounds r (qf (m++ [(k,z)]))}→K (st.put o.dst (.tup [])) (m++ [(k,z)])→o.wp P a w K' Q:=fun{k z} he hk=>by
  have hlt:r<w.heap.size:=(Array.getElem?_eq_some_iff.1 hm.it).1
  have hW:=zBP (o:=qf (m++ [(k,z)])) hm.it
  have hkeep:yl w0 {w with heap:=w.heap.setIfInBounds r (qf (m++ [(k,z)]))}:=hr.below.step rfl rfl rfl (by simp) fun b hb hf=>by
   refine hW.other b fun e=>hf ?_
   subst e
   exact fun hlt0 _=>absurd hlt0 (by omega)
  unfold Oper.wp
  rw [he]
  have h2:=zAn hr hW hkeep
  have hat:KJ {w with heap:=w.heap.setIfInBounds r (qf (m++ [(k,z)]))} ow r (m++ [(k,z)]):=⟨by simp only;rw [Array.getElem?_setIfInBounds,if_pos rfl,if_pos hlt],hm.nobody⟩
  exact hK _ _ undef _ hk (qK h2 hat hr0 (yj (qS h2) hd9 (by simp only [AvR];exact⟨[],rfl,by simp [zW]⟩)))
 obtain⟨dst,op,oty,pos,after,guard⟩:=o
 unfold aopM at ha
 cases op<;>simp only at ha<;>try(exact std ha)
 case build t fs=>
  split at ha
  rotate_left
  ·exact std ha
  rename_i e
  subst e
  split at ha
  rotate_left
  ·exact ha.elim
  rename_i x y hfs
  split at ha
  rotate_left
  ·exact ha.elim
  rename_i b c hx hy
  have e1:fs= #[(0,x),(1,y)]:=by cases fs;simp at hfs;subst hfs;rfl
  subst e1
  have ex:=zY hr x
  have ey:=zY hr y
  rw [hx]at ex
  rw [hy]at ey
  simp only [AvR]at ex ey
  refine fin (x:= .agg #[.int .i64 b, .int .i64 c]) ?_ (by simp only [AvR,zW];exact⟨_,rfl,_,_,rfl,rfl,_,_,rfl,rfl,rfl⟩) ha
  have hz:=hT.zero (w:=w)
  have hs:=hT.esize (w:=w)
  simp only [execOp]
  rw [Sem.run_bind]
  unfold Instr.build
  simp [Sem.run_bind,hz,run_underlying hT.ua,hs,Result.andThen,Instr.fill,ex,ey,Value.cells]
 case alloc t=>
  split at ha
  rotate_left
  ·exact std ha
  rename_i e
  subst e
  cases dst with
  |none=>exact ha.elim
  |some d=>
   obtain⟨hd0,hK1⟩:=ha
   obtain⟨ow',hd',bk',r1,r2⟩:=Xe (qS hr) d hd0 t [.int .i64 0, .int .i64 0] [.int .i64 0, .int .i64 0] (by simp only [zW,AvR];exact⟨_,_,rfl,rfl,_,_,rfl,rfl,rfl⟩)
   unfold Oper.wp
   have he:(execOp a.eval ⟨some d, .alloc t,oty,pos,after,guard⟩).run P w= .ok (.value (.pointer (some ⟨w.heap.size,0,none⟩))) (w.alloc (.cells #[.int .i64 0, .int .i64 0] t)):=by
    have hz:=hT.zero (w:=w)
    simp only [execOp]
    rw [Sem.run_bind]
    unfold Instr.alloc
    rw [Sem.run_bind,hz,Result.andThen_ok]
    simp [newVar,newRow,newObj,Sem.run,Value.cells]
   rw [he]
   refine hK _ m _ _ hK1 (qK hr hm hr0 (yj r1 hd9 ?_))
   simp only [AvR]
   exact⟨⟨_,rfl⟩,fun _=>by rw [r2]⟩
 case store t p v=>
  split at ha
  rotate_left
  ·exact std ha
  rename_i e
  subst e
  split at ha
  rotate_left
  ·exact ha.elim
  rename_i d b c hp hv
  split at ha
  rotate_left
  ·exact ha.elim
  rename_i x y hb
  have ep:=zY hr p
  have ev9:=zY hr v
  rw [hp]at ep
  rw [hv]at ev9
  have ev9:=agg2 ev9
  simp only [AvR]at ep
  have hptr:=ep.2 ⟨_,hb⟩
  obtain⟨cs,ty,b1,b2,b3⟩:=(qS hr).box d _ hb
  have hcl:=qG (st:=st) b3
  have hset:=Zb (qS hr) hb b1 (i:=0) (vs:= [.int .i64 b, .int .i64 c]) (us:= [.int .i64 b, .int .i64 c]) (by simp) b3 (by simp only [zW,AvR];exact⟨_,_,rfl,rfl,_,_,rfl,rfl,rfl⟩)
  have hlay:lay [x,y] 0 [AV.int .i64 b,AV.int .i64 c]= [.int .i64 b, .int .i64 c]:=rfl
  rw [hlay]at hset
  have hst:=run_storeCells_at P (bk d) 0 ty [.int .i64 b, .int .i64 c] 0 cs.toArray w b1 (by simp at hcl⊢;omega) (by intro u hu;simp at hu;rcases hu with rfl|rfl<;>rfl)
  rw [ZD]at hst
  refine sk (w':=w.setRow (bk d) (lay cs 0 [.int .i64 b, .int .i64 c]).toArray) ?_ hset ha
  have hs:=hT.size (w:=w)
  simp only [execOp]
  rw [Sem.run_bind]
  unfold Instr.storeAt
  rw [Sem.run_bind,hptr]
  simp only [Instr.sureAddr,Sem.run_pure,Result.andThen_ok,storeVar,Sem.run_bind,hs,ev9]
  rw [if_neg (by simp [Value.cells])]
  rw [show(Value.agg #[.int .i64 b, .int .i64 c]).cells= [Value.int .i64 b, .int .i64 c].toArray from rfl,hst]
  simp
 case load t p=>
  split at ha
  rotate_left
  ·exact std ha
  rename_i e
  subst e
  split at ha
  rotate_left
  ·exact ha.elim
  rename_i d hp
  split at ha
  rotate_left
  ·exact ha.elim
  rename_i x y hb
  have ep:=zY hr p
  rw [hp]at ep
  simp only [AvR]at ep
  have hptr:=ep.2 ⟨_,hb⟩
  obtain⟨cs,ty,b1,b2,b3⟩:=hr.box d _ hb
  have hcl:=qG (st:=st) b3
  have hcell: ∀j v,cs[j]? =some v→w.cell? ((⟨bk d,0,none⟩:Addr).add j)=some v:=fun j v hj=>by
   rw [Addr.add_lit,Nat.zero_add,cell_of_row w (bk d) j _ _ _ b1]
   simpa using hj
  have hl:=run_loadCells_list (P:=P) w ⟨bk d,0,none⟩ cs hcell
  rw [hcl]at hl
  refine fin (x:= .agg cs.toArray) ?_ (by simp only [AvR];exact⟨cs,rfl,b3⟩) ha
  have hs:=hT.size (w:=w)
  have hg:=hT.agg (w:=w)
  simp only [execOp]
  rw [Sem.run_bind]
  simp only [hptr,Instr.loadAt,Instr.sureAddr,pure_bind,loadVar,Sem.run_bind,hg,Result.andThen_ok,if_true,hs,Sem.run_pure]
  rw [show [x,y].length=2 from rfl]at hl
  rw [hl]
  simp
 case indexAddr t p i=>
  split at ha
  rotate_left
  ·exact std ha
  rename_i e
  subst e
  split at ha
  rotate_left
  ·exact ha.elim
  rename_i d k hp hi
  obtain⟨⟨cells,hb⟩,hk2,hK1⟩:=ha
  have ep:=zY hr p
  have ei:=zY hr i
  rw [hp]at ep
  rw [hi]at ei
  simp only [AvR]at ep ei
  have hptr:=ep.2 ⟨_,hb⟩
  refine fin (x:= .pointer (some ⟨bk d,k.toNat,none⟩)) ?_ (by simp [AvR]) hK1
  have hs:=hT.esize (w:=w)
  simp only [execOp]
  rw [Sem.run_bind]
  unfold Instr.indexAt
  simp [hptr,ei,Sem.run_bind,asIntOf,run_underlying hT.ua,Instr.sureAddr,Result.andThen,hs,hk2,Addr.add]
  try omega
  try(intro _;omega)
 case lookup t x k ok=>
  cases ok with
  |false=>exact std ha
  |true=>
   simp only at ha
   obtain⟨rfl,ha⟩:=ha
   split at ha
   rotate_left
   ·exact ha.elim
   rename_i u b c hx hk
   obtain⟨rfl,hK1⟩:=ha
   have ex:=zY hr x
   have ek:=zY hr k
   rw [hx]at ex
   rw [hk]at ek
   have ek:=agg2 ek
   simp only [AvR]at ex
   refine fin (x:= .tuple #[.int .i64 ((lkM m (b,c)).getD 0), .bool (lkM m (b,c)).isSome]) ?_ (by simp only [AvR,zW];exact⟨_,rfl,_,_,rfl,rfl,_,_,rfl,rfl,rfl⟩) hK1
   have hl:=hT.look hm.it (b,c)
   simp only [execOp]
   rw [Sem.run_bind,ex,ek,hl]
   simp
 case mapUpdate t x k v=>
  obtain⟨rfl,ha⟩:=ha
  split at ha
  rotate_left
  ·exact ha.elim
  rename_i u b c z hx hk hv
  obtain⟨rfl,hl,hK1⟩:=ha
  have ex:=zY hr x
  have ek:=zY hr k
  have ez:=zY hr v
  rw [hx]at ex
  rw [hk]at ek
  rw [hv]at ez
  have ek:=agg2 ek
  simp only [AvR]at ex ez
  refine up (k:=(b,c)) (z:=z) ?_ hK1
  have hu:=hT.upd hm.it (b,c) z hl
  simp only [execOp]
  rw [Sem.run_bind,ex,ek,ez,hu]
  simp
 case insert t x k v=>
  obtain⟨rfl,ha⟩:=ha
  split at ha
  rotate_left
  ·exact ha.elim
  rename_i u b c z hx hk hv
  obtain⟨rfl,hl,hK1⟩:=ha
  have ex:=zY hr x
  have ek:=zY hr k
  have ez:=zY hr v
  rw [hx]at ex
  rw [hk]at ek
  rw [hv]at ez
  have ek:=agg2 ek
  simp only [AvR]at ex ez
  refine up (k:=(b,c)) (z:=z) ?_ hK1
  have hu:=hT.upd hm.it (b,c) z hl
  simp only [execOp]
  rw [Sem.run_bind,ex,ek,ez,hu]
  simp
def wv (P:Program)(τ:Ty)(al:List Nat)(ta tm:TypeId)(r:Nat)(K:St→MD→Prop):List Oper→St→MD→Prop
 | [],st,m=>K st m
 |o::os,st,m=>
  match o.guard with
  |none=>aopM P τ al ta tm r o (wv P τ al ta tm r K os) st m
  |some (j,want)=>False
theorem Zu (hτ:zu P τ)(hpos:yR τ)(hT:ya P ta te tm){al:List Nat}{all:List Oper}{K:St→MD→Prop}{Q:Exit→Act→World→Prop}(hQ: ∀st m a w,K st m→vt τ lo w0 r m st a w→Q .normal a w):
  ∀(os:List Oper) (st:St) (m:MD) (a:Act) (w:World),yw a.tmps.size os=true→vt τ lo w0 r m st a w→wv P τ al ta tm r K os st m→wpList P all.toArray Q os a w
 | [],st,m,a,w,_,h,ha=>wpList_nil (hQ st m a w ha h)
 |o::os,st,m,a,w,hd,h,ha=>by
  have hd1: ∀k,o.dst=some k→k<a.tmps.size:=fun k hk=>by
   have :=List.all_eq_true.1 hd o (by simp)
   rw [hk]at this
   simpa using this
  have hd2:yw a.tmps.size os=true:=List.all_eq_true.2 fun x hx=>List.all_eq_true.1 hd x (by simp [hx])
  refine wpList_step fun K' hK'=> ?_
  simp only [wv]at ha
  split at ha
  ·rename_i hg
   rw [if_pos (by simp [Region.wanted,hg])]
   exact Vj hτ hpos hT hd1 h ha fun st' m' x w' h2 h3=>hK' _ _ (Zu hτ hpos hT hQ os st' m' _ w' (by rw [xX];exact hd2) h3 h2)
  ·exact ha.elim
end
theorem xl {P:Program}{τ:Ty}{r:Nat}{Q:Exit→St→MD→Prop}{st:St}{m:MD}{ta te tm:TypeId}(hτ:zu P τ)(hpos:yR τ)(hT:ya P ta te tm)(al:List Nat){id:Nat}{ops:List Oper}(hd:yw st.n ops=true)(h:wv P τ al ta tm r (Q .normal) ops st m):xf P τ r (.region id ops.toArray false) Q st m:=fun lo w0 a w hr=>by
 have hn:a.tmps.size=st.n:=by obtain⟨-,ow,hd,bk,h,-⟩:=hr;exact h.size
 refine wp_region_lit (Zu hτ hpos hT (fun st m a w h1 h2=>⟨st,m,h2,h1⟩) ops st m a w (by rw [hn];exact hd) hr h)
theorem kO {P:Program}{τ:Ty}{Q:Exit→St→Prop}{st:St}{ta te tm:TypeId}(hτ:zu P τ)(hpos:yR τ)(hT:ya P ta te tm)(al:List Nat){id:Nat}{o:Oper}{ops:List Oper}{rest:Code}{t:Nat}(ho:o.op= .makeMap tm none)(hg:o.guard=none)(ht:o.dst=some t)(hd:yw st.n (o::ops)=true)
  (hK9: ∀r (K:St→MD→Prop),(∀st m,xf P τ r rest (fun e st _=>Q e st) st m→K st m)→wv P τ al ta tm r K ops (st.put (some t) (.raw (.map (some r)))) []):awp P τ (.seq (.region id (o::ops).toArray false) rest) Q st:=fun lo w0 a w hr=>by
 have h:=fun r=>hK9 r _ fun _ _ h=>h
 clear hK9
 obtain⟨ow,hd9,bk,hr⟩:=hr
 have hn:a.tmps.size=st.n:=hr.size
 have hd1: ∀k,o.dst=some k→k<a.tmps.size:=fun k hk=>by
  have :=List.all_eq_true.1 hd o (by simp)
  rw [hk,←hn]at this
  simpa using this
 have hd2:yw a.tmps.size ops=true:=List.all_eq_true.2 fun x hx=>by rw [hn];exact List.all_eq_true.1 hd x (by simp [hx])
 have h1:=vq hr (.map #[] 0) none (by simp)
 have hat:KJ (w.alloc (.map #[] 0)) (upd ow w.heap.size none) w.heap.size []:=⟨heap_alloc_new w _,fun p hp=>by rw [yD]at hp;cases hp⟩
 refine wp_seq (wp_region_lit (wpList_step fun K' hK'=> ?_))
 rw [if_pos (by simp [Region.wanted,hg])]
 unfold Oper.wp
 have he:(execOp a.eval o).run P w= .ok (.value (.map (some w.heap.size))) (w.alloc (.map #[] 0)):=by
  obtain⟨dst,op,oty,pos,after,guard⟩:=o
  simp only at ho
  subst ho
  simp only [execOp]
  rw [Sem.run_bind]
  simp [Instr.makeMap,newObj,Sem.run]
 rw [he]
 refine hK' _ _ (Zu hτ hpos hT (fun st' m' a' w' h2 h3=> ?_) ops _ _ _ _ (by rw [xX];exact hd2) (qK h1 hat hr.below.size (yj (qS h1) hd1 (v:= .raw (.map (some w.heap.size))) (x:= .map (some w.heap.size)) (by simp only [AvR]))) (by rw [ht];exact h w.heap.size))
 refine Go.wp_mono (h2 lo w0 a' w' h3) fun e a2 w2 ⟨st2,m2,⟨_,ow2,hd2,bk2,h4,_⟩,h5⟩=>⟨st2,⟨ow2,hd2,bk2,h4⟩,h5⟩
section
variable {P:Program} {τ:Ty} {lo:Nat} {w0:Fz} {r:Nat} {ta te tm:TypeId}
theorem Vk (hτ:zu P τ)(hpos:yR τ)(hT:ya P ta te tm){al:List Nat}{all o2:List Oper}{K:St→MD→Prop}{Q:Exit→Act→World→Prop}{n:Nat}(hQ: ∀st m a w,a.tmps.size=n→K st m→vt τ lo w0 r m st a w→wpList P all.toArray Q o2 a w):
  ∀(os:List Oper) (st:St) (m:MD) (a:Act) (w:World),a.tmps.size=n→yw a.tmps.size os=true→vt τ lo w0 r m st a w→wv P τ al ta tm r K os st m→wpList P all.toArray Q (os++o2) a w
 | [],st,m,a,w,hn,_,h,ha=>hQ st m a w hn ha h
 |o::os,st,m,a,w,hn,hd,h,ha=>by
  have hd1: ∀k,o.dst=some k→k<a.tmps.size:=fun k hk=>by
   have :=List.all_eq_true.1 hd o (by simp)
   rw [hk]at this
   simpa using this
  have hd2:yw a.tmps.size os=true:=List.all_eq_true.2 fun x hx=>List.all_eq_true.1 hd x (by simp [hx])
  refine wpList_step fun K' hK'=> ?_
  simp only [wv]at ha
  split at ha
  ·rename_i hg
   rw [if_pos (by simp [Region.wanted,hg])]
   exact Vj hτ hpos hT hd1 h ha fun st' m' x w' h2 h3=>hK' _ _ (Vk hτ hpos hT hQ os st' m' _ w' (by rw [xX];exact hn) (by rw [xX];exact hd2) h3 h2)
  ·exact ha.elim
theorem Xd (np:Bool)(n:Nat)(hτ:zu P τ)(hpos:yR τ)(hT:ya P ta te tm){Q:Exit→St→MD→Prop}{st:St}{m:MD}{id:Nat}{ops:List Oper}(hs:ZT np ops=true)(hd:yw st.n ops=true)(hl:n≤ops.length)
  (h:wv P τ [] ta tm r (fun st m=>xi P np τ ops (fun st'=>Q .normal st' m) (ops.drop n) (st.start np ops)) (ops.take n) st m):xf P τ r (.region id ops.toArray false) Q st m:=fun lo w0 a w hr=>by
 have hn:a.tmps.size=st.n:=by obtain⟨-,ow,hd,bk,h,-⟩:=hr;exact h.size
 have hd':yw a.tmps.size ops=true:=by rw [hn];exact hd
 refine wp_region_lit ?_
 have key:=Vk (P:=P) (τ:=τ) (lo:=lo) (w0:=w0) (r:=r) (al:= []) (all:=ops) (o2:=ops.drop n) (n:=st.n) (K:=fun st m=>xi P np τ ops (fun st'=>Q .normal st' m) (ops.drop n) (st.start np ops)) (Q:=fun e a' w'=> ∃st' m',vt τ lo w0 r m' st' a' w'∧Q e st' m') hτ hpos hT (fun st' m' a' w' hn' h1 h2=>by
  obtain⟨hr0,ow,hd2,bk,h3,h4⟩:=h2
  exact XP (np:=np) hτ hpos hs (fun st2 a2 w2 h5 h6=>⟨st2,m',qK h3 h4 hr0 h6,h5⟩) (ops.drop n) n (st'.start np ops) a' w' (fun j=>by rw [List.getElem?_drop]) (by rw [hn'];exact hd) (fun j o _ ho hm=>WU ho hm) (fun e=>by unfold St.start;rw [if_pos e];exact Vu _) (JM ⟨ow,hd2,bk,qS h3⟩ ops) h1) (ops.take n) st m a w hn (List.all_eq_true.2 fun x hx=>List.all_eq_true.1 hd' x (List.mem_of_mem_take hx)) hr h
 rwa [List.take_append_drop]at key
theorem xJ {Q:Exit→St→MD→Prop}{st:St}{m:MD}(e:TypeId)(t:Nat)(ht:t<st.n){c:Code}(h:xf P τ r c Q (st.settle e t) m):xf P τ r c Q st m:=fun lo w0 a w hr=>by
 obtain⟨hr0,ow,hd,bk,h1,h2⟩:=id hr
 have hrr:=qS h1
 have hx:=zY hrr (.tmp t)
 obtain⟨ow',hd',r1,r2,-,-⟩:=Zj hrr [] (.sl e) (zX t 0) hx
 have hsz:t<a.tmps.size:=by rw [hrr.size];exact ht
 have hrel:=yj (d:=some t) r1 (fun k hk=>by cases hk;exact hsz) r2
 rw [zBZ hsz]at hrel
 exact h lo w0 a w (qK h1 h2 hr0 hrel)
end
attribute [push_cast] aopM wv lkM
open Nat renaming reduceMod → zA, reduceMul → zB, reduceDiv → zC, reduceAdd → zD, reduceSub → zE, reduceEqDiff → zF, reduceBEq → zG, reduceLT → zH, reduceLeDiff → zI
theorem ZP :ya Try.prog 139 2 140:=by
 refine⟨by kernel_rfl,by kernel_rfl,by kernel_rfl,?_,?_⟩
 ·exact⟨(Try.prog.info? 139).get!,by kernel_rfl,by kernel_rfl,by kernel_rfl⟩
 ·exact⟨(Try.prog.info? 2).get!,by kernel_rfl,by kernel_rfl,by kernel_rfl⟩
theorem zCK :cks tyT 139= []:=rfl
attribute [push_cast] zCK
set_option maxRecDepth 20000 in
set_option maxHeartbeats 8000000 in
theorem WF (a:Ar)(ha:a.Ln 1048576)(m:Me)(hm:m.Ln 1048576)(s:Int)(h:MmI a m s):Fn Try.prog tyT 69 [.agg (dAr a), .agg (dMe m), .c (.int .i64 s)] [.c (.lst 102 (yd (stM a m s 6145))), .c (DII (rsM a m s (stM a m s 6145).length))]:=by
 have hno:=ha.owner
 have hnn:=ha.next.1
 have hrr9: ∀v,(gl a.next v).length≤1048576:=fun v=>wW ha.next v
 unfold LnI at hno
 have hal:=yc h.ar
 obtain⟨hk0,hkm⟩:=xg h.mem
 have hs0:=h.st
 unfold dAr dMe
 refine yT (fn:=Try.f69) (ts:= [6,7]) Try.func69 (by kernel_rfl) rfl rfl (by rw [Try.ntmps69];exact Nat.le_of_ble_eq_true rfl) rfl (by simp only [szA,List.mem_cons,List.not_mem_nil,or_false,forall_eq_or_imp,forall_eq,VT.cells,szL];try decide) ?_
 rw [Try.ntmps69]
 simp only [push_cast,↓zK,↓zJ,↓reduceIte,zA,zB,zC,zD,zE,zF,zG,zH,zI,reduceCtorEq]
 refine zM fun K hK=> ?_
 refine zL zO zN [] rfl ?_
 all_goals simp only [push_cast,↓zK,↓zJ,↓reduceIte,zA,zB,zC,zD,zE,zF,zG,zH,zI,reduceCtorEq]
 all_goals repeat'(first|(apply zP<;>(intro hg;(try simp only [push_cast]at hg)))|apply And.intro|(intro hg;(try simp only [push_cast]at hg)))
 all_goals first|exact gA|(exact zR (by omega))|skip
 all_goals first|(refine hK _ ?_;clear hK K)|(simp only [push_cast];done)
 refine kO zO zN ZP [] rfl rfl rfl rfl fun r9 K hK=> ?_
 all_goals simp only [push_cast,↓zK,↓zJ,↓reduceIte,zA,zB,zC,zD,zE,zF,zG,zH,zI,reduceCtorEq]
 repeat' apply And.intro
 all_goals first|exact True.intro|exact rfl|omega|with_reducible assumption|skip
 refine hK _ _ ?_;clear hK K
 refine ze fun K hK=> ?_
 refine zg ?_
 refine zp false zO zN ?_ rfl ?_
 ·kernel_rfl
 simp only [push_cast,↓zK,↓zJ,↓reduceIte,zA,zB,zC,zD,zE,zF,zG,zH,zI,reduceCtorEq]
 all_goals repeat'(first|(apply zP<;>(intro hg;(try simp only [push_cast]at hg)))|apply And.intro|(intro hg;(try simp only [push_cast]at hg)))
 all_goals first|exact gA|(exact zR (by omega))|skip
 all_goals first|(refine hK _ _ ?_;clear hK K)|(simp only [push_cast];done)
 refine xJ 102 9 (Nat.le_of_ble_eq_true rfl) ?_
 simp only [push_cast,↓zK,↓zJ,↓reduceIte,zA,zB,zC,zD,zE,zF,zG,zH,zI,reduceCtorEq]
 refine ze fun K hK=> ?_
 refine zg ?_
 refine zp false zO zN ?_ rfl ?_
 ·kernel_rfl
 simp only [push_cast,↓zK,↓zJ,↓reduceIte,zA,zB,zC,zD,zE,zF,zG,zH,zI,reduceCtorEq]
 all_goals repeat'(first|(apply zP<;>(intro hg;(try simp only [push_cast]at hg)))|apply And.intro|(intro hg;(try simp only [push_cast]at hg)))
 all_goals first|exact gA|(exact zR (by omega))|skip
 all_goals first|(refine hK _ _ ?_;clear hK K)|(simp only [push_cast];done)
 refine ze fun K1 hK1=> ?_
 refine xJ 22 10 (Nat.le_of_ble_eq_true rfl) ?_
 simp only [push_cast,↓zK,↓zJ,↓reduceIte,zA,zB,zC,zD,zE,zF,zG,zH,zI,reduceCtorEq]
 refine ze fun K hK=> ?_
 refine zg ?_
 refine zL zO zN [] rfl ?_
 all_goals simp only [push_cast,↓zK,↓zJ,↓reduceIte,zA,zB,zC,zD,zE,zF,zG,zH,zI,reduceCtorEq]
 all_goals repeat'(first|(apply zP<;>(intro hg;(try simp only [push_cast]at hg)))|apply And.intro|(intro hg;(try simp only [push_cast]at hg)))
 all_goals first|exact gA|(exact zR (by omega))|skip
 all_goals first|(refine hK _ _ ?_;clear hK K)|(simp only [push_cast];done)
 refine qV ?_
 refine ww [9,10,11,12,13,14,15,16,18,19,20,21,31,32,33,34,35,36,37,38,39,40,41,42,43,44,45,46,47,48,49,50,51,52,53,54,55,56,57,58,59,60,61,62,63,64,65,66,67,68,69,70,71,72,73,74,75,76,77,78,79,80,81,82,83,84,85,86,87,88,89,90,91,92,93,94,95,96,97,98,99,100,101,102,103,104,105,106,107,108,109,110,111,112,113,114,115,116,117,118] [] (fun(i:Nat)=> [(11, .int .i64 i),(9, .sl 144 [] 0 (stM a m s i).length 102),(10, .sl 160 [] 0 i 22)]) (fun i=> []) (fun i=> [(144,⟨.ex,102,yd (stM a m s i),none⟩),(160,⟨.ex,22,dII (rsM a m s i),none⟩)]) (fun i=>mdF (stM a m s i) 0) (fun i=>i≤(stM a m s i).length) (fun i=>6145 - i) 0 ?_ ?_ (by show 0≤1;decide) ?_
 ·
  rw [show stM a m s 0= [⟨s,[0]⟩]from rfl,zBx]
  refine zd rfl ?_ ?_ ?_<;>simp only [zl,zk,push_cast,↓zK,↓zJ,↓reduceIte,zA,zB,zC,zD,zE,zF,zG,zH,zI,reduceCtorEq]
  all_goals first|exact⟨rfl,rfl⟩|rfl
 ·
  rfl
 ·rintro i hi KL0 hL0
  have hfew:=KO h i
  have hrs:=uT a m s i
  have hq:QLn 1048576 (stM a m s i):=⟨by omega,fun p hp=>by rw [(qj h i p hp).2.2.1];show 1≤1048576;decide⟩
  simp only [push_cast,↓zK,↓zJ,↓reduceIte,zA,zB,zC,zD,zE,zF,zG,zH,zI,reduceCtorEq]
  refine ze fun K2 hK2=> ?_
  refine ze fun K hK=> ?_
  refine zg ?_
  refine zL zO zN [] rfl ?_
  all_goals simp only [push_cast,↓zK,↓zJ,↓reduceIte,zA,zB,zC,zD,zE,zF,zG,zH,zI,reduceCtorEq]
  all_goals repeat'(first|(apply zP<;>(intro hg;(try simp only [push_cast]at hg)))|apply And.intro|(intro hg;(try simp only [push_cast]at hg)))
  all_goals first|exact gA|(exact zR (by omega))|skip
  all_goals first|(refine hK _ _ ?_;clear hK K)|(simp only [push_cast];done)
  refine xk rfl (fun hc=> ?_) (fun hc=> ?_)<;>(try simp only [push_cast]at hc)
  ·
   refine qu ?_
   (try simp only [yi,xe,reduceIte,zF]);refine hK2 _ _ ?_
   refine ze fun K3 hK3=> ?_
   refine qV ?_
   have hi2:i<(stM a m s i).length:=by omega
   have hP:=qj h i _ (qC hi2)
   obtain⟨hU1,hU2,hN1,hN2⟩:=WZ h hP
   obtain⟨hP1,hP2,hP3,hP4,hP5⟩:=hP
   have hPl:(gq (stM a m s i) i).record.length=1:=by rw [hP3];rfl
   obtain⟨hr1,hr2,hr3⟩:=hkm (gi (gq (stM a m s i) i).record 0).toNat (by omega)
   have hr4:=(ZV hr2).1
   unfold ntM at hN1 hN2
   refine ze fun K hK=> ?_
   refine zg ?_
   refine yN false zO zN xM ?_ rfl ?_
   ·kernel_rfl
   intro E hE
   all_goals simp only [push_cast,↓zK,↓zJ,↓reduceIte,zA,zB,zC,zD,zE,zF,zG,zH,zI,reduceCtorEq]
   all_goals repeat'(first|(apply zP<;>(intro hg;(try simp only [push_cast]at hg)))|apply And.intro|(intro hg;(try simp only [push_cast]at hg)))
   all_goals first|exact gA|(refine hE _ _ ?_ ?_;kernel_rfl)|(exact zR (by omega))|skip
   all_goals clear hE E
   all_goals first|(refine hK _ _ ?_;clear hK K)|(simp only [push_cast];done)
   refine ze fun K hK=> ?_
   refine zg ?_
   refine zL zO zN [] rfl ?_
   all_goals simp only [push_cast,↓zK,↓zJ,↓reduceIte,zA,zB,zC,zD,zE,zF,zG,zH,zI,reduceCtorEq]
   all_goals repeat'(first|(apply zP<;>(intro hg;(try simp only [push_cast]at hg)))|apply And.intro|(intro hg;(try simp only [push_cast]at hg)))
   all_goals first|exact gA|(exact zR (by omega))|skip
   all_goals first|(refine hK _ _ ?_;clear hK K)|(simp only [push_cast];done)
   refine ze fun K4 hK4=> ?_
   refine ze fun K hK=> ?_
   refine zg ?_
   refine zL zO zN [] rfl ?_
   all_goals simp only [push_cast,↓zK,↓zJ,↓reduceIte,zA,zB,zC,zD,zE,zF,zG,zH,zI,reduceCtorEq]
   all_goals repeat'(first|(apply zP<;>(intro hg;(try simp only [push_cast]at hg)))|apply And.intro|(intro hg;(try simp only [push_cast]at hg)))
   all_goals first|exact gA|(exact zR (by omega))|skip
   all_goals first|(refine hK _ _ ?_;clear hK K)|(simp only [push_cast];done)
   refine xk rfl (fun hc=> ?_) (fun hc=> ?_)<;>(try simp only [push_cast]at hc)
   ·
    refine ze fun K hK=> ?_
    refine zg ?_
    refine zL zO zN [] rfl ?_
    all_goals simp only [push_cast,↓zK,↓zJ,↓reduceIte,zA,zB,zC,zD,zE,zF,zG,zH,zI,reduceCtorEq]
    all_goals repeat'(first|(apply zP<;>(intro hg;(try simp only [push_cast]at hg)))|apply And.intro|(intro hg;(try simp only [push_cast]at hg)))
    all_goals first|exact gA|(exact zR (by omega))|skip
    all_goals first|(refine hK _ _ ?_;clear hK K)|(simp only [push_cast];done)
    refine ze fun K hK=> ?_
    refine zg ?_
    refine zL zO zN [] rfl ?_
    all_goals simp only [push_cast,↓zK,↓zJ,↓reduceIte,zA,zB,zC,zD,zE,zF,zG,zH,zI,reduceCtorEq]
    all_goals repeat'(first|(apply zP<;>(intro hg;(try simp only [push_cast]at hg)))|apply And.intro|(intro hg;(try simp only [push_cast]at hg)))
    all_goals first|exact gA|(exact zR (by omega))|skip
    all_goals first|(refine hK _ _ ?_;clear hK K)|(simp only [push_cast];done)
    refine ze fun K hK=> ?_
    refine zg ?_
    refine zL zO zN [] rfl ?_
    all_goals simp only [push_cast,↓zK,↓zJ,↓reduceIte,zA,zB,zC,zD,zE,zF,zG,zH,zI,reduceCtorEq]
    all_goals repeat'(first|(apply zP<;>(intro hg;(try simp only [push_cast]at hg)))|apply And.intro|(intro hg;(try simp only [push_cast]at hg)))
    all_goals first|exact gA|(exact zR (by omega))|skip
    all_goals first|(refine hK _ _ ?_;clear hK K)|(simp only [push_cast];done)
    refine xk rfl (fun hc=> ?_) (fun hc=> ?_)<;>(try simp only [push_cast]at hc)
    ·
     refine zg ?_
     refine zL zO zN [] rfl ?_
     all_goals simp only [push_cast,↓zK,↓zJ,↓reduceIte,zA,zB,zC,zD,zE,zF,zG,zH,zI,reduceCtorEq]
     all_goals repeat'(first|(apply zP<;>(intro hg;(try simp only [push_cast]at hg)))|apply And.intro|(intro hg;(try simp only [push_cast]at hg)))
     all_goals first|exact gA|(exact zR (by omega))|skip
     (try simp only [yi,xe,reduceIte,zF]);refine hK4 _ _ ?_
     obtain⟨U9,hU9⟩: ∃U:List Int,U= [(gi (gl m.choice (gi (gq (stM a m s i) i).record 0).toNat) (gq (stM a m s i) i).at_.toNat)]:=⟨_,rfl⟩
     have hU:usM a m (gq (stM a m s i) i)=U9:=by rw [hU9];exact Qb (by omega) (by unfold chM;omega)
     have hU8:U9.length=1:=by rw [hU9];rfl
     refine ze fun K hK=> ?_
     refine zg ?_
     refine zL zO zN [] rfl ?_
     all_goals simp only [push_cast,↓zK,↓zJ,↓reduceIte,zA,zB,zC,zD,zE,zF,zG,zH,zI,reduceCtorEq]
     all_goals repeat'(first|(apply zP<;>(intro hg;(try simp only [push_cast]at hg)))|apply And.intro|(intro hg;(try simp only [push_cast]at hg)))
     all_goals first|exact gA|(exact zR (by omega))|skip
     all_goals first|(refine hK _ _ ?_;clear hK K)|(simp only [push_cast];done)
     refine ze fun K5 hK5=> ?_
     refine ze fun K hK=> ?_
     refine zg ?_
     refine zL zO zN [] rfl ?_
     all_goals simp only [push_cast,↓zK,↓zJ,↓reduceIte,zA,zB,zC,zD,zE,zF,zG,zH,zI,reduceCtorEq]
     all_goals repeat'(first|(apply zP<;>(intro hg;(try simp only [push_cast]at hg)))|apply And.intro|(intro hg;(try simp only [push_cast]at hg)))
     all_goals first|exact gA|(exact zR (by omega))|skip
     all_goals first|(refine hK _ _ ?_;clear hK K)|(simp only [push_cast];done)
     refine qV ?_
     refine ww [9,14,16,18,19,20,21,32,37,39,40,42,44,45,46,47,75,76,77,78,79,80,81,82,83,84,85,86,87,88,89,90,91,92,93,94,95,96,97,98,99,100,101,102,103,104,105,106,107,108,109,110,111,112,113,114] [224] (fun(k:Nat)=> [(75, .int .i64 k),(9, .sl 144 [] 0 (zi (rcM m (gq (stM a m s i) i)) U9 (stM a m s i) k).1.length 102),(16, .sl 256 [] 0 k 2),(14, .sl 224 [] 0 1 2)]) (fun k=> []) (fun k=> [(144,⟨.ex,102,yd (zi (rcM m (gq (stM a m s i) i)) U9 (stM a m s i) k).1,none⟩),(256,⟨.ex,2,dI (zi (rcM m (gq (stM a m s i) i)) U9 (stM a m s i) k).2,none⟩),(224,⟨.ex,2,dI U9,none⟩)]) (fun k=>mdF (zi (rcM m (gq (stM a m s i) i)) U9 (stM a m s i) k).1 0) (fun k=>k≤U9.length) (fun k=>U9.length - k) 0 ?_ ?_ (by omega) ?_
     ·
      rw [Xx]
      rw [hU9]
      refine zd rfl ?_ ?_ ?_<;>simp only [zl,zk,push_cast,↓zK,↓zJ,↓reduceIte,zA,zB,zC,zD,zE,zF,zG,zH,zI,reduceCtorEq]
      all_goals first|rfl|exact⟨rfl,rfl⟩|exact⟨rfl,rfl,rfl⟩
     ·
      rfl
     ·rintro k hk KL1 hL1
      have hrl:=ZW (r:=(rcM m (gq (stM a m s i) i))) (us:=U9) (ps:=(stM a m s i)) (k:=k) hk
      have hfr:=Vx h (i:=i) (k:=k) hi2 (by rw [hU];exact hk)
      rw [hU]at hfr
      have hrr:=QV h (i:=i) (k:=k) hi2 (by rw [hU];exact hk)
      rw [hU]at hrr
      have hrc: ∀p∈(zi (rcM m (gq (stM a m s i) i)) U9 (stM a m s i) k).1,p.record= [gi p.record 0]:=fun p hp=>(hrr p hp).2.2.1
      simp only [push_cast,↓zK,↓zJ,↓reduceIte,zA,zB,zC,zD,zE,zF,zG,zH,zI,reduceCtorEq]
      refine ze fun K hK=> ?_
      refine zg ?_
      refine zL zO zN [] rfl ?_
      all_goals simp only [push_cast,↓zK,↓zJ,↓reduceIte,zA,zB,zC,zD,zE,zF,zG,zH,zI,reduceCtorEq]
      all_goals repeat'(first|(apply zP<;>(intro hg;(try simp only [push_cast]at hg)))|apply And.intro|(intro hg;(try simp only [push_cast]at hg)))
      all_goals first|exact gA|(exact zR (by omega))|skip
      all_goals first|(refine hK _ _ ?_;clear hK K)|(simp only [push_cast];done)
      refine ze fun K6 hK6=> ?_
      refine xk rfl (fun hc=> ?_) (fun hc=> ?_)<;>(try simp only [push_cast]at hc)
      ·
       refine qu ?_
       (try simp only [yi,xe,reduceIte,zF]);refine hK6 _ _ ?_
       refine ze fun K7 hK7=> ?_
       refine qV ?_
       refine ze fun K hK=> ?_
       refine zg ?_
       refine zL zO zN [] rfl ?_
       all_goals simp only [push_cast,↓zK,↓zJ,↓reduceIte,zA,zB,zC,zD,zE,zF,zG,zH,zI,reduceCtorEq]
       all_goals repeat'(first|(apply zP<;>(intro hg;(try simp only [push_cast]at hg)))|apply And.intro|(intro hg;(try simp only [push_cast]at hg)))
       all_goals first|exact gA|(exact zR (by omega))|skip
       all_goals first|(refine hK _ _ ?_;clear hK K)|(simp only [push_cast];done)
       refine ze fun K hK=> ?_
       refine xl zO zN ZP [] rfl ?_
       all_goals simp only [push_cast,↓zK,↓zJ,↓reduceIte,zA,zB,zC,zD,zE,zF,zG,zH,zI,reduceCtorEq]
       all_goals repeat'(first|(apply zP<;>(intro hg;(try simp only [push_cast]at hg)))|apply And.intro|(intro hg;(try simp only [push_cast]at hg)))
       all_goals first|exact gA|exact⟨_,rfl⟩|(exact zR (by omega))|skip
       all_goals first|(refine hK _ _ ?_;clear hK K)|(simp only [push_cast];done)
       by_cases hx:ixQ (yO (gi U9 k) (rcM m (gq (stM a m s i) i))) (zi (rcM m (gq (stM a m s i) i)) U9 (stM a m s i) k).1<0
       ·
        have hlk:lkM (mdF (zi (rcM m (gq (stM a m s i) i)) U9 (stM a m s i) k).1 0) ((gi U9 k),(gi (gl m.next (gi (gq (stM a m s i) i).record 0).toNat) (gq (stM a m s i) i).at_.toNat))=none:=zBu hrc hx
        refine ze fun K hK=> ?_
        refine xl zO zN ZP [] rfl ?_
        all_goals simp only [push_cast,↓zK,↓zJ,↓reduceIte,zA,zB,zC,zD,zE,zF,zG,zH,zI,reduceCtorEq]
        all_goals repeat'(first|(apply zP<;>(intro hg;(try simp only [push_cast]at hg)))|apply And.intro|(intro hg;(try simp only [push_cast]at hg)))
        all_goals first|exact gA|exact⟨_,rfl⟩|(exact zR (by omega))|skip
        all_goals first|(refine hK _ _ ?_;clear hK K)|(simp only [push_cast];done)
        all_goals rw [hlk]
        all_goals simp only [Option.getD_none,Option.isSome_none]
        refine ze fun K8 hK8=> ?_
        refine ze fun K hK=> ?_
        refine zg ?_
        refine zL zO zN [] rfl ?_
        all_goals simp only [push_cast,↓zK,↓zJ,↓reduceIte,zA,zB,zC,zD,zE,zF,zG,zH,zI,reduceCtorEq]
        all_goals repeat'(first|(apply zP<;>(intro hg;(try simp only [push_cast]at hg)))|apply And.intro|(intro hg;(try simp only [push_cast]at hg)))
        all_goals first|exact gA|(exact zR (by omega))|skip
        all_goals first|(refine hK _ _ ?_;clear hK K)|(simp only [push_cast];done)
        refine xk rfl (fun hc=> ?_) (fun hc=> ?_)
        rotate_left
        ·exfalso;first|(cases hc;done)|(simp only [push_cast]at hc;done)|(simp only [push_cast]at hc;omega)|omega
        refine ze fun K hK=> ?_
        refine zg ?_
        refine zL zO zN [] rfl ?_
        all_goals simp only [push_cast,↓zK,↓zJ,↓reduceIte,zA,zB,zC,zD,zE,zF,zG,zH,zI,reduceCtorEq]
        all_goals repeat'(first|(apply zP<;>(intro hg;(try simp only [push_cast]at hg)))|apply And.intro|(intro hg;(try simp only [push_cast]at hg)))
        all_goals first|exact gA|(exact zR (by omega))|skip
        all_goals first|(refine hK _ _ ?_;clear hK K)|(simp only [push_cast];done)
        refine ze fun K hK=> ?_
        refine xl zO zN ZP [] rfl ?_
        all_goals simp only [push_cast,↓zK,↓zJ,↓reduceIte,zA,zB,zC,zD,zE,zF,zG,zH,zI,reduceCtorEq]
        all_goals repeat'(first|(apply zP<;>(intro hg;(try simp only [push_cast]at hg)))|apply And.intro|(intro hg;(try simp only [push_cast]at hg)))
        all_goals first|exact gA|exact⟨_,rfl⟩|(exact zR (by omega))|skip
        all_goals first|(refine hK _ _ ?_;clear hK K)|(simp only [push_cast];done)
        refine Xd false 4 zO zN ZP ?_ rfl (by decide) ?_
        ·kernel_rfl
        all_goals simp only [push_cast,↓zK,↓zJ,↓reduceIte,zA,zB,zC,zD,zE,zF,zG,zH,zI,reduceCtorEq]
        all_goals repeat'(first|(apply zP<;>(intro hg;(try simp only [push_cast]at hg)))|apply And.intro|(intro hg;(try simp only [push_cast]at hg)))
        all_goals first|exact gA|exact⟨_,rfl⟩|(exact zR (by omega))|skip
        (try simp only [yi,xe,reduceIte,zF]);refine hK8 _ _ ?_
        refine xJ 102 9 (Nat.le_of_ble_eq_true rfl) ?_
        simp only [push_cast,↓zK,↓zJ,↓reduceIte,zA,zB,zC,zD,zE,zF,zG,zH,zI,reduceCtorEq]
        refine zg ?_
        refine zL zO zN [] rfl ?_
        all_goals simp only [push_cast,↓zK,↓zJ,↓reduceIte,zA,zB,zC,zD,zE,zF,zG,zH,zI,reduceCtorEq]
        all_goals repeat'(first|(apply zP<;>(intro hg;(try simp only [push_cast]at hg)))|apply And.intro|(intro hg;(try simp only [push_cast]at hg)))
        all_goals first|exact gA|(exact zR (by omega))|skip
        (try simp only [yi,xe,reduceIte,zF]);refine hK7 _ _ ?_
        refine zg ?_
        refine zL zO zN [] rfl ?_
        all_goals simp only [push_cast,↓zK,↓zJ,↓reduceIte,zA,zB,zC,zD,zE,zF,zG,zH,zI,reduceCtorEq]
        all_goals repeat'(first|(apply zP<;>(intro hg;(try simp only [push_cast]at hg)))|apply And.intro|(intro hg;(try simp only [push_cast]at hg)))
        all_goals first|exact gA|(exact zR (by omega))|skip
        refine hL1 _ _ ⟨k+1,by omega,by omega,?_,?_⟩
        rotate_left
        ·
         rw [vA (by omega) hx,Wv,Nat.zero_add];rfl
        (try rw [List.take_of_length_le (l:=(zi (rcM m (gq (stM a m s i) i)) U9 (stM a m s i) k).2) (by omega)])
        rw [vA (by omega) hx]
        refine zd rfl ?_ ?_ ?_<;>simp only [zl,zk,push_cast,↓zK,↓zJ,↓reduceIte,zA,zB,zC,zD,zE,zF,zG,zH,zI,reduceCtorEq]
        all_goals first|rfl|(rw [List.length_append];rfl)|exact⟨rfl,rfl⟩|skip
       ·
        have hlk:lkM (mdF (zi (rcM m (gq (stM a m s i) i)) U9 (stM a m s i) k).1 0) ((gi U9 k),(gi (gl m.next (gi (gq (stM a m s i) i).record 0).toNat) (gq (stM a m s i) i).at_.toNat))=some (ixQ (yO (gi U9 k) (rcM m (gq (stM a m s i) i))) (zi (rcM m (gq (stM a m s i) i)) U9 (stM a m s i) k).1):=zAI hrc hx
        refine ze fun K hK=> ?_
        refine xl zO zN ZP [] rfl ?_
        all_goals simp only [push_cast,↓zK,↓zJ,↓reduceIte,zA,zB,zC,zD,zE,zF,zG,zH,zI,reduceCtorEq]
        all_goals repeat'(first|(apply zP<;>(intro hg;(try simp only [push_cast]at hg)))|apply And.intro|(intro hg;(try simp only [push_cast]at hg)))
        all_goals first|exact gA|exact⟨_,rfl⟩|(exact zR (by omega))|skip
        all_goals first|(refine hK _ _ ?_;clear hK K)|(simp only [push_cast];done)
        all_goals rw [hlk]
        all_goals simp only [Option.getD_some,Option.isSome_some]
        refine ze fun K8 hK8=> ?_
        refine ze fun K hK=> ?_
        refine zg ?_
        refine zL zO zN [] rfl ?_
        all_goals simp only [push_cast,↓zK,↓zJ,↓reduceIte,zA,zB,zC,zD,zE,zF,zG,zH,zI,reduceCtorEq]
        all_goals repeat'(first|(apply zP<;>(intro hg;(try simp only [push_cast]at hg)))|apply And.intro|(intro hg;(try simp only [push_cast]at hg)))
        all_goals first|exact gA|(exact zR (by omega))|skip
        all_goals first|(refine hK _ _ ?_;clear hK K)|(simp only [push_cast];done)
        refine xk rfl (fun hc=> ?_) (fun hc=> ?_)
        skip
        ·exfalso;first|(cases hc;done)|(simp only [push_cast]at hc;done)|(simp only [push_cast]at hc;omega)|omega
        refine qu ?_
        (try simp only [yi,xe,reduceIte,zF]);refine hK8 _ _ ?_
        refine xJ 102 9 (Nat.le_of_ble_eq_true rfl) ?_
        simp only [push_cast,↓zK,↓zJ,↓reduceIte,zA,zB,zC,zD,zE,zF,zG,zH,zI,reduceCtorEq]
        refine zg ?_
        refine zL zO zN [] rfl ?_
        all_goals simp only [push_cast,↓zK,↓zJ,↓reduceIte,zA,zB,zC,zD,zE,zF,zG,zH,zI,reduceCtorEq]
        all_goals repeat'(first|(apply zP<;>(intro hg;(try simp only [push_cast]at hg)))|apply And.intro|(intro hg;(try simp only [push_cast]at hg)))
        all_goals first|exact gA|(exact zR (by omega))|skip
        (try simp only [yi,xe,reduceIte,zF]);refine hK7 _ _ ?_
        refine zg ?_
        refine zL zO zN [] rfl ?_
        all_goals simp only [push_cast,↓zK,↓zJ,↓reduceIte,zA,zB,zC,zD,zE,zF,zG,zH,zI,reduceCtorEq]
        all_goals repeat'(first|(apply zP<;>(intro hg;(try simp only [push_cast]at hg)))|apply And.intro|(intro hg;(try simp only [push_cast]at hg)))
        all_goals first|exact gA|(exact zR (by omega))|skip
        refine hL1 _ _ ⟨k+1,by omega,by omega,?_,?_⟩
        rotate_left
        ·
         rw [vB (by omega) hx]
        (try rw [List.take_of_length_le (l:=(zi (rcM m (gq (stM a m s i) i)) U9 (stM a m s i) k).2) (by omega)])
        rw [vB (by omega) hx]
        refine zd rfl ?_ ?_ ?_<;>simp only [zl,zk,push_cast,↓zK,↓zJ,↓reduceIte,zA,zB,zC,zD,zE,zF,zG,zH,zI,reduceCtorEq]
        all_goals first|rfl|(rw [List.length_append];rfl)|exact⟨rfl,rfl⟩|skip
      ·
       refine Ze ?_
       have hkk:k=U9.length:=by omega
       subst hkk
       have hst:stM a m s (i+1)=(zi (rcM m (gq (stM a m s i) i)) U9 (stM a m s i) U9.length).1:=by have :=KW (a:=a) (m:=m) (s:=s) hi2;rw [hU]at this;exact this
       have hrw:rwM a m s i=(zi (rcM m (gq (stM a m s i) i)) U9 (stM a m s i) U9.length).2:=by unfold rwM;rw [hU]
       have htk:List.take U9.length (zi (rcM m (gq (stM a m s i) i)) U9 (stM a m s i) U9.length).2=(zi (rcM m (gq (stM a m s i) i)) U9 (stM a m s i) U9.length).2:=List.take_of_length_le (by omega)
       (try simp only [yi,xe,reduceIte,zF]);refine hK5 _ _ ?_
       refine zg ?_
       refine zp false zO zN ?_ rfl ?_
       ·kernel_rfl
       simp only [push_cast,↓zK,↓zJ,↓reduceIte,zA,zB,zC,zD,zE,zF,zG,zH,zI,reduceCtorEq]
       all_goals repeat'(first|(apply zP<;>(intro hg;(try simp only [push_cast]at hg)))|apply And.intro|(intro hg;(try simp only [push_cast]at hg)))
       all_goals first|exact gA|(exact zR (by omega))|skip
       (try simp only [yi,xe,reduceIte,zF]);refine hK3 _ _ ?_
       refine xJ 22 10 (Nat.le_of_ble_eq_true rfl) ?_
       simp only [push_cast,↓zK,↓zJ,↓reduceIte,zA,zB,zC,zD,zE,zF,zG,zH,zI,reduceCtorEq]
       refine zg ?_
       refine zL zO zN [] rfl ?_
       all_goals simp only [push_cast,↓zK,↓zJ,↓reduceIte,zA,zB,zC,zD,zE,zF,zG,zH,zI,reduceCtorEq]
       all_goals repeat'(first|(apply zP<;>(intro hg;(try simp only [push_cast]at hg)))|apply And.intro|(intro hg;(try simp only [push_cast]at hg)))
       all_goals first|exact gA|(exact zR (by omega))|skip
       refine hL0 _ _ ⟨i+1,(by rw [hst];omega),by omega,?_,?_⟩
       rotate_left
       ·
        rw [hst]
       (try rw [List.take_of_length_le (l:=rsM a m s i) (by omega)])
       (try rw [htk])
       rw [hst,KV,hrw]
       refine zd rfl ?_ ?_ ?_<;>simp only [zl,zk,push_cast,↓zK,↓zJ,↓reduceIte,zA,zB,zC,zD,zE,zF,zG,zH,zI,reduceCtorEq]
       all_goals first|rfl|exact⟨rfl,rfl⟩|skip
    ·
     refine qu ?_
     (try simp only [yi,xe,reduceIte,zF]);refine hK4 _ _ ?_
     obtain⟨U9,hU9⟩: ∃U:List Int,U= []:=⟨_,rfl⟩
     have hU:usM a m (gq (stM a m s i) i)=U9:=by rw [hU9];exact WY (by omega) (by unfold chM;omega)
     have hU8:U9.length=0:=by rw [hU9];rfl
     refine ze fun K hK=> ?_
     refine zg ?_
     refine zL zO zN [] rfl ?_
     all_goals simp only [push_cast,↓zK,↓zJ,↓reduceIte,zA,zB,zC,zD,zE,zF,zG,zH,zI,reduceCtorEq]
     all_goals repeat'(first|(apply zP<;>(intro hg;(try simp only [push_cast]at hg)))|apply And.intro|(intro hg;(try simp only [push_cast]at hg)))
     all_goals first|exact gA|(exact zR (by omega))|skip
     all_goals first|(refine hK _ _ ?_;clear hK K)|(simp only [push_cast];done)
     refine ze fun K5 hK5=> ?_
     refine ze fun K hK=> ?_
     refine zg ?_
     refine zL zO zN [] rfl ?_
     all_goals simp only [push_cast,↓zK,↓zJ,↓reduceIte,zA,zB,zC,zD,zE,zF,zG,zH,zI,reduceCtorEq]
     all_goals repeat'(first|(apply zP<;>(intro hg;(try simp only [push_cast]at hg)))|apply And.intro|(intro hg;(try simp only [push_cast]at hg)))
     all_goals first|exact gA|(exact zR (by omega))|skip
     all_goals first|(refine hK _ _ ?_;clear hK K)|(simp only [push_cast];done)
     refine qV ?_
     refine ww [9,14,16,18,19,20,21,32,37,39,40,42,44,45,46,47,75,76,77,78,79,80,81,82,83,84,85,86,87,88,89,90,91,92,93,94,95,96,97,98,99,100,101,102,103,104,105,106,107,108,109,110,111,112,113,114] [224] (fun(k:Nat)=> [(75, .int .i64 k),(9, .sl 144 [] 0 (zi (rcM m (gq (stM a m s i) i)) U9 (stM a m s i) k).1.length 102),(16, .sl 256 [] 0 k 2),(14, .sl 224 [] 0 0 2)]) (fun k=> []) (fun k=> [(144,⟨.ex,102,yd (zi (rcM m (gq (stM a m s i) i)) U9 (stM a m s i) k).1,none⟩),(256,⟨.ex,2,dI (zi (rcM m (gq (stM a m s i) i)) U9 (stM a m s i) k).2,none⟩),(224,⟨.ex,2,dI U9,none⟩)]) (fun k=>mdF (zi (rcM m (gq (stM a m s i) i)) U9 (stM a m s i) k).1 0) (fun k=>k≤U9.length) (fun k=>U9.length - k) 0 ?_ ?_ (by omega) ?_
     ·
      rw [Xx]
      rw [hU9]
      refine zd rfl ?_ ?_ ?_<;>simp only [zl,zk,push_cast,↓zK,↓zJ,↓reduceIte,zA,zB,zC,zD,zE,zF,zG,zH,zI,reduceCtorEq]
      all_goals first|rfl|exact⟨rfl,rfl⟩|exact⟨rfl,rfl,rfl⟩
     ·
      rfl
     ·rintro k hk KL1 hL1
      have hrl:=ZW (r:=(rcM m (gq (stM a m s i) i))) (us:=U9) (ps:=(stM a m s i)) (k:=k) hk
      have hfr:=Vx h (i:=i) (k:=k) hi2 (by rw [hU];exact hk)
      rw [hU]at hfr
      have hrr:=QV h (i:=i) (k:=k) hi2 (by rw [hU];exact hk)
      rw [hU]at hrr
      have hrc: ∀p∈(zi (rcM m (gq (stM a m s i) i)) U9 (stM a m s i) k).1,p.record= [gi p.record 0]:=fun p hp=>(hrr p hp).2.2.1
      simp only [push_cast,↓zK,↓zJ,↓reduceIte,zA,zB,zC,zD,zE,zF,zG,zH,zI,reduceCtorEq]
      refine ze fun K hK=> ?_
      refine zg ?_
      refine zL zO zN [] rfl ?_
      all_goals simp only [push_cast,↓zK,↓zJ,↓reduceIte,zA,zB,zC,zD,zE,zF,zG,zH,zI,reduceCtorEq]
      all_goals repeat'(first|(apply zP<;>(intro hg;(try simp only [push_cast]at hg)))|apply And.intro|(intro hg;(try simp only [push_cast]at hg)))
      all_goals first|exact gA|(exact zR (by omega))|skip
      all_goals first|(refine hK _ _ ?_;clear hK K)|(simp only [push_cast];done)
      refine ze fun K6 hK6=> ?_
      refine xk rfl (fun hc=> ?_) (fun hc=> ?_)
      skip
      ·exfalso;first|(cases hc;done)|(simp only [push_cast]at hc;done)|(simp only [push_cast]at hc;omega)|omega
      refine Ze ?_
      have hkk:k=U9.length:=by omega
      subst hkk
      have hst:stM a m s (i+1)=(zi (rcM m (gq (stM a m s i) i)) U9 (stM a m s i) U9.length).1:=by have :=KW (a:=a) (m:=m) (s:=s) hi2;rw [hU]at this;exact this
      have hrw:rwM a m s i=(zi (rcM m (gq (stM a m s i) i)) U9 (stM a m s i) U9.length).2:=by unfold rwM;rw [hU]
      have htk:List.take U9.length (zi (rcM m (gq (stM a m s i) i)) U9 (stM a m s i) U9.length).2=(zi (rcM m (gq (stM a m s i) i)) U9 (stM a m s i) U9.length).2:=List.take_of_length_le (by omega)
      (try simp only [yi,xe,reduceIte,zF]);refine hK5 _ _ ?_
      refine zg ?_
      refine zp false zO zN ?_ rfl ?_
      ·kernel_rfl
      simp only [push_cast,↓zK,↓zJ,↓reduceIte,zA,zB,zC,zD,zE,zF,zG,zH,zI,reduceCtorEq]
      all_goals repeat'(first|(apply zP<;>(intro hg;(try simp only [push_cast]at hg)))|apply And.intro|(intro hg;(try simp only [push_cast]at hg)))
      all_goals first|exact gA|(exact zR (by omega))|skip
      (try simp only [yi,xe,reduceIte,zF]);refine hK3 _ _ ?_
      refine xJ 22 10 (Nat.le_of_ble_eq_true rfl) ?_
      simp only [push_cast,↓zK,↓zJ,↓reduceIte,zA,zB,zC,zD,zE,zF,zG,zH,zI,reduceCtorEq]
      refine zg ?_
      refine zL zO zN [] rfl ?_
      all_goals simp only [push_cast,↓zK,↓zJ,↓reduceIte,zA,zB,zC,zD,zE,zF,zG,zH,zI,reduceCtorEq]
      all_goals repeat'(first|(apply zP<;>(intro hg;(try simp only [push_cast]at hg)))|apply And.intro|(intro hg;(try simp only [push_cast]at hg)))
      all_goals first|exact gA|(exact zR (by omega))|skip
      refine hL0 _ _ ⟨i+1,(by rw [hst];omega),by omega,?_,?_⟩
      rotate_left
      ·
       rw [hst]
      (try rw [List.take_of_length_le (l:=rsM a m s i) (by omega)])
      (try rw [htk])
      rw [hst,KV,hrw]
      refine zd rfl ?_ ?_ ?_<;>simp only [zl,zk,push_cast,↓zK,↓zJ,↓reduceIte,zA,zB,zC,zD,zE,zF,zG,zH,zI,reduceCtorEq]
      all_goals first|rfl|exact⟨rfl,rfl⟩|skip
   ·
    refine qu ?_
    (try simp only [yi,xe,reduceIte,zF]);refine hK4 _ _ ?_
    have hU:usM a m (gq (stM a m s i) i)=(gl a.next (gq (stM a m s i) i).at_.toNat):=Qa (by omega)
    have hU3:(gl a.next (gq (stM a m s i) i).at_.toNat).length≤16:=by rw [←hU];exact hU1
    refine ze fun K hK=> ?_
    refine zg ?_
    refine zL zO zN [] rfl ?_
    all_goals simp only [push_cast,↓zK,↓zJ,↓reduceIte,zA,zB,zC,zD,zE,zF,zG,zH,zI,reduceCtorEq]
    all_goals repeat'(first|(apply zP<;>(intro hg;(try simp only [push_cast]at hg)))|apply And.intro|(intro hg;(try simp only [push_cast]at hg)))
    all_goals first|exact gA|(exact zR (by omega))|skip
    all_goals first|(refine hK _ _ ?_;clear hK K)|(simp only [push_cast];done)
    refine ze fun K5 hK5=> ?_
    refine ze fun K hK=> ?_
    refine zg ?_
    refine zL zO zN [] rfl ?_
    all_goals simp only [push_cast,↓zK,↓zJ,↓reduceIte,zA,zB,zC,zD,zE,zF,zG,zH,zI,reduceCtorEq]
    all_goals repeat'(first|(apply zP<;>(intro hg;(try simp only [push_cast]at hg)))|apply And.intro|(intro hg;(try simp only [push_cast]at hg)))
    all_goals first|exact gA|(exact zR (by omega))|skip
    all_goals first|(refine hK _ _ ?_;clear hK K)|(simp only [push_cast];done)
    refine qV ?_
    refine ww [9,16,18,19,20,21,32,37,39,40,42,44,45,46,47,75,76,77,78,79,80,81,82,83,84,85,86,87,88,89,90,91,92,93,94,95,96,97,98,99,100,101,102,103,104,105,106,107,108,109,110,111,112,113,114] [] (fun(k:Nat)=> [(75, .int .i64 k),(9, .sl 144 [] 0 (zi (rcM m (gq (stM a m s i) i)) (gl a.next (gq (stM a m s i) i).at_.toNat) (stM a m s i) k).1.length 102),(16, .sl 256 [] 0 k 2)]) (fun k=> []) (fun k=> [(144,⟨.ex,102,yd (zi (rcM m (gq (stM a m s i) i)) (gl a.next (gq (stM a m s i) i).at_.toNat) (stM a m s i) k).1,none⟩),(256,⟨.ex,2,dI (zi (rcM m (gq (stM a m s i) i)) (gl a.next (gq (stM a m s i) i).at_.toNat) (stM a m s i) k).2,none⟩)]) (fun k=>mdF (zi (rcM m (gq (stM a m s i) i)) (gl a.next (gq (stM a m s i) i).at_.toNat) (stM a m s i) k).1 0) (fun k=>k≤(gl a.next (gq (stM a m s i) i).at_.toNat).length) (fun k=>(gl a.next (gq (stM a m s i) i).at_.toNat).length - k) 0 ?_ ?_ (by omega) ?_
    ·
     rw [Xx]
     refine zd rfl ?_ ?_ ?_<;>simp only [zl,zk,push_cast,↓zK,↓zJ,↓reduceIte,zA,zB,zC,zD,zE,zF,zG,zH,zI,reduceCtorEq]
     all_goals first|rfl|exact⟨rfl,rfl⟩|exact⟨rfl,rfl,rfl⟩
    ·
     rfl
    ·rintro k hk KL1 hL1
     have hrl:=ZW (r:=(rcM m (gq (stM a m s i) i))) (us:=(gl a.next (gq (stM a m s i) i).at_.toNat)) (ps:=(stM a m s i)) (k:=k) hk
     have hfr:=Vx h (i:=i) (k:=k) hi2 (by rw [hU];exact hk)
     rw [hU]at hfr
     have hrr:=QV h (i:=i) (k:=k) hi2 (by rw [hU];exact hk)
     rw [hU]at hrr
     have hrc: ∀p∈(zi (rcM m (gq (stM a m s i) i)) (gl a.next (gq (stM a m s i) i).at_.toNat) (stM a m s i) k).1,p.record= [gi p.record 0]:=fun p hp=>(hrr p hp).2.2.1
     simp only [push_cast,↓zK,↓zJ,↓reduceIte,zA,zB,zC,zD,zE,zF,zG,zH,zI,reduceCtorEq]
     refine ze fun K hK=> ?_
     refine zg ?_
     refine zL zO zN [] rfl ?_
     all_goals simp only [push_cast,↓zK,↓zJ,↓reduceIte,zA,zB,zC,zD,zE,zF,zG,zH,zI,reduceCtorEq]
     all_goals repeat'(first|(apply zP<;>(intro hg;(try simp only [push_cast]at hg)))|apply And.intro|(intro hg;(try simp only [push_cast]at hg)))
     all_goals first|exact gA|(exact zR (by omega))|skip
     all_goals first|(refine hK _ _ ?_;clear hK K)|(simp only [push_cast];done)
     refine ze fun K6 hK6=> ?_
     refine xk rfl (fun hc=> ?_) (fun hc=> ?_)<;>(try simp only [push_cast]at hc)
     ·
      refine qu ?_
      (try simp only [yi,xe,reduceIte,zF]);refine hK6 _ _ ?_
      refine ze fun K7 hK7=> ?_
      refine qV ?_
      refine ze fun K hK=> ?_
      refine zg ?_
      refine zL zO zN [] rfl ?_
      all_goals simp only [push_cast,↓zK,↓zJ,↓reduceIte,zA,zB,zC,zD,zE,zF,zG,zH,zI,reduceCtorEq]
      all_goals repeat'(first|(apply zP<;>(intro hg;(try simp only [push_cast]at hg)))|apply And.intro|(intro hg;(try simp only [push_cast]at hg)))
      all_goals first|exact gA|(exact zR (by omega))|skip
      all_goals first|(refine hK _ _ ?_;clear hK K)|(simp only [push_cast];done)
      refine ze fun K hK=> ?_
      refine xl zO zN ZP [] rfl ?_
      all_goals simp only [push_cast,↓zK,↓zJ,↓reduceIte,zA,zB,zC,zD,zE,zF,zG,zH,zI,reduceCtorEq]
      all_goals repeat'(first|(apply zP<;>(intro hg;(try simp only [push_cast]at hg)))|apply And.intro|(intro hg;(try simp only [push_cast]at hg)))
      all_goals first|exact gA|exact⟨_,rfl⟩|(exact zR (by omega))|skip
      all_goals first|(refine hK _ _ ?_;clear hK K)|(simp only [push_cast];done)
      by_cases hx:ixQ (yO (gi (gl a.next (gq (stM a m s i) i).at_.toNat) k) (rcM m (gq (stM a m s i) i))) (zi (rcM m (gq (stM a m s i) i)) (gl a.next (gq (stM a m s i) i).at_.toNat) (stM a m s i) k).1<0
      ·
       have hlk:lkM (mdF (zi (rcM m (gq (stM a m s i) i)) (gl a.next (gq (stM a m s i) i).at_.toNat) (stM a m s i) k).1 0) ((gi (gl a.next (gq (stM a m s i) i).at_.toNat) k),(gi (gl m.next (gi (gq (stM a m s i) i).record 0).toNat) (gq (stM a m s i) i).at_.toNat))=none:=zBu hrc hx
       refine ze fun K hK=> ?_
       refine xl zO zN ZP [] rfl ?_
       all_goals simp only [push_cast,↓zK,↓zJ,↓reduceIte,zA,zB,zC,zD,zE,zF,zG,zH,zI,reduceCtorEq]
       all_goals repeat'(first|(apply zP<;>(intro hg;(try simp only [push_cast]at hg)))|apply And.intro|(intro hg;(try simp only [push_cast]at hg)))
       all_goals first|exact gA|exact⟨_,rfl⟩|(exact zR (by omega))|skip
       all_goals first|(refine hK _ _ ?_;clear hK K)|(simp only [push_cast];done)
       all_goals rw [hlk]
       all_goals simp only [Option.getD_none,Option.isSome_none]
       refine ze fun K8 hK8=> ?_
       refine ze fun K hK=> ?_
       refine zg ?_
       refine zL zO zN [] rfl ?_
       all_goals simp only [push_cast,↓zK,↓zJ,↓reduceIte,zA,zB,zC,zD,zE,zF,zG,zH,zI,reduceCtorEq]
       all_goals repeat'(first|(apply zP<;>(intro hg;(try simp only [push_cast]at hg)))|apply And.intro|(intro hg;(try simp only [push_cast]at hg)))
       all_goals first|exact gA|(exact zR (by omega))|skip
       all_goals first|(refine hK _ _ ?_;clear hK K)|(simp only [push_cast];done)
       refine xk rfl (fun hc=> ?_) (fun hc=> ?_)
       rotate_left
       ·exfalso;first|(cases hc;done)|(simp only [push_cast]at hc;done)|(simp only [push_cast]at hc;omega)|omega
       refine ze fun K hK=> ?_
       refine zg ?_
       refine zL zO zN [] rfl ?_
       all_goals simp only [push_cast,↓zK,↓zJ,↓reduceIte,zA,zB,zC,zD,zE,zF,zG,zH,zI,reduceCtorEq]
       all_goals repeat'(first|(apply zP<;>(intro hg;(try simp only [push_cast]at hg)))|apply And.intro|(intro hg;(try simp only [push_cast]at hg)))
       all_goals first|exact gA|(exact zR (by omega))|skip
       all_goals first|(refine hK _ _ ?_;clear hK K)|(simp only [push_cast];done)
       refine ze fun K hK=> ?_
       refine xl zO zN ZP [] rfl ?_
       all_goals simp only [push_cast,↓zK,↓zJ,↓reduceIte,zA,zB,zC,zD,zE,zF,zG,zH,zI,reduceCtorEq]
       all_goals repeat'(first|(apply zP<;>(intro hg;(try simp only [push_cast]at hg)))|apply And.intro|(intro hg;(try simp only [push_cast]at hg)))
       all_goals first|exact gA|exact⟨_,rfl⟩|(exact zR (by omega))|skip
       all_goals first|(refine hK _ _ ?_;clear hK K)|(simp only [push_cast];done)
       refine Xd false 4 zO zN ZP ?_ rfl (by decide) ?_
       ·kernel_rfl
       all_goals simp only [push_cast,↓zK,↓zJ,↓reduceIte,zA,zB,zC,zD,zE,zF,zG,zH,zI,reduceCtorEq]
       all_goals repeat'(first|(apply zP<;>(intro hg;(try simp only [push_cast]at hg)))|apply And.intro|(intro hg;(try simp only [push_cast]at hg)))
       all_goals first|exact gA|exact⟨_,rfl⟩|(exact zR (by omega))|skip
       (try simp only [yi,xe,reduceIte,zF]);refine hK8 _ _ ?_
       refine xJ 102 9 (Nat.le_of_ble_eq_true rfl) ?_
       simp only [push_cast,↓zK,↓zJ,↓reduceIte,zA,zB,zC,zD,zE,zF,zG,zH,zI,reduceCtorEq]
       refine zg ?_
       refine zL zO zN [] rfl ?_
       all_goals simp only [push_cast,↓zK,↓zJ,↓reduceIte,zA,zB,zC,zD,zE,zF,zG,zH,zI,reduceCtorEq]
       all_goals repeat'(first|(apply zP<;>(intro hg;(try simp only [push_cast]at hg)))|apply And.intro|(intro hg;(try simp only [push_cast]at hg)))
       all_goals first|exact gA|(exact zR (by omega))|skip
       (try simp only [yi,xe,reduceIte,zF]);refine hK7 _ _ ?_
       refine zg ?_
       refine zL zO zN [] rfl ?_
       all_goals simp only [push_cast,↓zK,↓zJ,↓reduceIte,zA,zB,zC,zD,zE,zF,zG,zH,zI,reduceCtorEq]
       all_goals repeat'(first|(apply zP<;>(intro hg;(try simp only [push_cast]at hg)))|apply And.intro|(intro hg;(try simp only [push_cast]at hg)))
       all_goals first|exact gA|(exact zR (by omega))|skip
       refine hL1 _ _ ⟨k+1,by omega,by omega,?_,?_⟩
       rotate_left
       ·
        rw [vA (by omega) hx,Wv,Nat.zero_add];rfl
       (try rw [List.take_of_length_le (l:=(zi (rcM m (gq (stM a m s i) i)) (gl a.next (gq (stM a m s i) i).at_.toNat) (stM a m s i) k).2) (by omega)])
       rw [vA (by omega) hx]
       refine zd rfl ?_ ?_ ?_<;>simp only [zl,zk,push_cast,↓zK,↓zJ,↓reduceIte,zA,zB,zC,zD,zE,zF,zG,zH,zI,reduceCtorEq]
       all_goals first|rfl|(rw [List.length_append];rfl)|exact⟨rfl,rfl⟩|skip
      ·
       have hlk:lkM (mdF (zi (rcM m (gq (stM a m s i) i)) (gl a.next (gq (stM a m s i) i).at_.toNat) (stM a m s i) k).1 0) ((gi (gl a.next (gq (stM a m s i) i).at_.toNat) k),(gi (gl m.next (gi (gq (stM a m s i) i).record 0).toNat) (gq (stM a m s i) i).at_.toNat))=some (ixQ (yO (gi (gl a.next (gq (stM a m s i) i).at_.toNat) k) (rcM m (gq (stM a m s i) i))) (zi (rcM m (gq (stM a m s i) i)) (gl a.next (gq (stM a m s i) i).at_.toNat) (stM a m s i) k).1):=zAI hrc hx
       refine ze fun K hK=> ?_
       refine xl zO zN ZP [] rfl ?_
       all_goals simp only [push_cast,↓zK,↓zJ,↓reduceIte,zA,zB,zC,zD,zE,zF,zG,zH,zI,reduceCtorEq]
       all_goals repeat'(first|(apply zP<;>(intro hg;(try simp only [push_cast]at hg)))|apply And.intro|(intro hg;(try simp only [push_cast]at hg)))
       all_goals first|exact gA|exact⟨_,rfl⟩|(exact zR (by omega))|skip
       all_goals first|(refine hK _ _ ?_;clear hK K)|(simp only [push_cast];done)
       all_goals rw [hlk]
       all_goals simp only [Option.getD_some,Option.isSome_some]
       refine ze fun K8 hK8=> ?_
       refine ze fun K hK=> ?_
       refine zg ?_
       refine zL zO zN [] rfl ?_
       all_goals simp only [push_cast,↓zK,↓zJ,↓reduceIte,zA,zB,zC,zD,zE,zF,zG,zH,zI,reduceCtorEq]
       all_goals repeat'(first|(apply zP<;>(intro hg;(try simp only [push_cast]at hg)))|apply And.intro|(intro hg;(try simp only [push_cast]at hg)))
       all_goals first|exact gA|(exact zR (by omega))|skip
       all_goals first|(refine hK _ _ ?_;clear hK K)|(simp only [push_cast];done)
       refine xk rfl (fun hc=> ?_) (fun hc=> ?_)
       skip
       ·exfalso;first|(cases hc;done)|(simp only [push_cast]at hc;done)|(simp only [push_cast]at hc;omega)|omega
       refine qu ?_
       (try simp only [yi,xe,reduceIte,zF]);refine hK8 _ _ ?_
       refine xJ 102 9 (Nat.le_of_ble_eq_true rfl) ?_
       simp only [push_cast,↓zK,↓zJ,↓reduceIte,zA,zB,zC,zD,zE,zF,zG,zH,zI,reduceCtorEq]
       refine zg ?_
       refine zL zO zN [] rfl ?_
       all_goals simp only [push_cast,↓zK,↓zJ,↓reduceIte,zA,zB,zC,zD,zE,zF,zG,zH,zI,reduceCtorEq]
       all_goals repeat'(first|(apply zP<;>(intro hg;(try simp only [push_cast]at hg)))|apply And.intro|(intro hg;(try simp only [push_cast]at hg)))
       all_goals first|exact gA|(exact zR (by omega))|skip
       (try simp only [yi,xe,reduceIte,zF]);refine hK7 _ _ ?_
       refine zg ?_
       refine zL zO zN [] rfl ?_
       all_goals simp only [push_cast,↓zK,↓zJ,↓reduceIte,zA,zB,zC,zD,zE,zF,zG,zH,zI,reduceCtorEq]
       all_goals repeat'(first|(apply zP<;>(intro hg;(try simp only [push_cast]at hg)))|apply And.intro|(intro hg;(try simp only [push_cast]at hg)))
       all_goals first|exact gA|(exact zR (by omega))|skip
       refine hL1 _ _ ⟨k+1,by omega,by omega,?_,?_⟩
       rotate_left
       ·
        rw [vB (by omega) hx]
       (try rw [List.take_of_length_le (l:=(zi (rcM m (gq (stM a m s i) i)) (gl a.next (gq (stM a m s i) i).at_.toNat) (stM a m s i) k).2) (by omega)])
       rw [vB (by omega) hx]
       refine zd rfl ?_ ?_ ?_<;>simp only [zl,zk,push_cast,↓zK,↓zJ,↓reduceIte,zA,zB,zC,zD,zE,zF,zG,zH,zI,reduceCtorEq]
       all_goals first|rfl|(rw [List.length_append];rfl)|exact⟨rfl,rfl⟩|skip
     ·
      refine Ze ?_
      have hkk:k=(gl a.next (gq (stM a m s i) i).at_.toNat).length:=by omega
      subst hkk
      have hst:stM a m s (i+1)=(zi (rcM m (gq (stM a m s i) i)) (gl a.next (gq (stM a m s i) i).at_.toNat) (stM a m s i) (gl a.next (gq (stM a m s i) i).at_.toNat).length).1:=by have :=KW (a:=a) (m:=m) (s:=s) hi2;rw [hU]at this;exact this
      have hrw:rwM a m s i=(zi (rcM m (gq (stM a m s i) i)) (gl a.next (gq (stM a m s i) i).at_.toNat) (stM a m s i) (gl a.next (gq (stM a m s i) i).at_.toNat).length).2:=by unfold rwM;rw [hU]
      have htk:List.take (gl a.next (gq (stM a m s i) i).at_.toNat).length (zi (rcM m (gq (stM a m s i) i)) (gl a.next (gq (stM a m s i) i).at_.toNat) (stM a m s i) (gl a.next (gq (stM a m s i) i).at_.toNat).length).2=(zi (rcM m (gq (stM a m s i) i)) (gl a.next (gq (stM a m s i) i).at_.toNat) (stM a m s i) (gl a.next (gq (stM a m s i) i).at_.toNat).length).2:=List.take_of_length_le (by omega)
      (try simp only [yi,xe,reduceIte,zF]);refine hK5 _ _ ?_
      refine zg ?_
      refine zp false zO zN ?_ rfl ?_
      ·kernel_rfl
      simp only [push_cast,↓zK,↓zJ,↓reduceIte,zA,zB,zC,zD,zE,zF,zG,zH,zI,reduceCtorEq]
      all_goals repeat'(first|(apply zP<;>(intro hg;(try simp only [push_cast]at hg)))|apply And.intro|(intro hg;(try simp only [push_cast]at hg)))
      all_goals first|exact gA|(exact zR (by omega))|skip
      (try simp only [yi,xe,reduceIte,zF]);refine hK3 _ _ ?_
      refine xJ 22 10 (Nat.le_of_ble_eq_true rfl) ?_
      simp only [push_cast,↓zK,↓zJ,↓reduceIte,zA,zB,zC,zD,zE,zF,zG,zH,zI,reduceCtorEq]
      refine zg ?_
      refine zL zO zN [] rfl ?_
      all_goals simp only [push_cast,↓zK,↓zJ,↓reduceIte,zA,zB,zC,zD,zE,zF,zG,zH,zI,reduceCtorEq]
      all_goals repeat'(first|(apply zP<;>(intro hg;(try simp only [push_cast]at hg)))|apply And.intro|(intro hg;(try simp only [push_cast]at hg)))
      all_goals first|exact gA|(exact zR (by omega))|skip
      refine hL0 _ _ ⟨i+1,(by rw [hst];omega),by omega,?_,?_⟩
      rotate_left
      ·
       rw [hst]
      (try rw [List.take_of_length_le (l:=rsM a m s i) (by omega)])
      (try rw [htk])
      rw [hst,KV,hrw]
      refine zd rfl ?_ ?_ ?_<;>simp only [zl,zk,push_cast,↓zK,↓zJ,↓reduceIte,zA,zB,zC,zD,zE,zF,zG,zH,zI,reduceCtorEq]
      all_goals first|rfl|exact⟨rfl,rfl⟩|skip
  ·
   refine Ze ?_
   (try simp only [yi,xe,reduceIte,zF]);refine hK1 _ _ ?_
   refine ze fun K hK=> ?_
   refine zg ?_
   refine zL zO zN [] rfl ?_
   all_goals simp only [push_cast,↓zK,↓zJ,↓reduceIte,zA,zB,zC,zD,zE,zF,zG,zH,zI,reduceCtorEq]
   all_goals repeat'(first|(apply zP<;>(intro hg;(try simp only [push_cast]at hg)))|apply And.intro|(intro hg;(try simp only [push_cast]at hg)))
   all_goals first|exact gA|(exact zR (by omega))|skip
   all_goals first|(refine hK _ _ ?_;clear hK K)|(simp only [push_cast];done)
   refine zA0 ?_
   (try simp only [yi,xe])
   refine⟨Or.inl rfl,?_⟩
   simp only [zh,yY,xR,push_cast,↓zK,↓zJ,↓reduceIte,zA,zB,zC,zD,zE,zF,zG,zH,zI,reduceCtorEq]
   have hE:=zBq h (by omega) (show ¬i<(stM a m s i).length by omega)
   rw [hE,show(stM a m s i).length=i by omega,hrs]
   all_goals first|rfl|exact⟨⟨rfl,rfl⟩,rfl,rfl⟩|skip
end Go.Proofs.Ythepmdkpbjfdcaa
