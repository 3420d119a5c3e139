/- Parity games, plain: strategies that win regions, attractors, the recursive solution. -/
import Derived.Test.YthepmdkpbjfdcaaGreatGDzfw
namespace Go.Proofs.YthepmdkpbjfdcaaGreat
set_option linter.unusedVariables false
set_option linter.unusedSimpArgs false
structure PG where
 own:Nat→Int
 pr:Nat→Nat
 E:Nat→Nat→Prop
inductive Wk (R:Nat→Nat→Prop)(pr:Nat→Nat):Nat→Nat→Nat→Prop
 |one {v u:Nat}:R v u→Wk R pr v u (pr v)
 |cons {v x u t:Nat}:R v x→Wk R pr x u t→Wk R pr v u (max (pr v) t)
theorem Wk.mono {R R':Nat→Nat→Prop}{pr:Nat→Nat}(h: ∀v u,R v u→R' v u){v u t:Nat}(w:Wk R pr v u t):Wk R' pr v u t:=by
 induction w with
 |one h1=>exact .one (h _ _ h1)
 |cons h1 _ ih=>exact .cons (h _ _ h1) ih
theorem Wk.app {R:Nat→Nat→Prop}{pr:Nat→Nat}{v x u s t:Nat}(a:Wk R pr v x s)(b:Wk R pr x u t):Wk R pr v u (max s t):=by
 induction a with
 |one h1=>exact .cons h1 b
 |cons h1 _ ih=>rw [Nat.max_assoc];exact .cons h1 (ih b)
theorem Wk.le {R:Nat→Nat→Prop}{pr:Nat→Nat}{top:Nat}(h: ∀v u,R v u→pr v≤top){v u t:Nat}(w:Wk R pr v u t):t≤top:=by
 induction w with
 |one h1=>exact h _ _ h1
 |cons h1 _ ih=>exact Nat.max_le.2 ⟨h _ _ h1,ih⟩
def SR (g:PG)(who:Int)(U:Nat→Prop)(s:Nat→Nat)(v u:Nat):Prop:=U v∧U u∧g.E v u∧(g.own v=who→u=s v)
structure xv (g:PG)(who:Int)(D U:Nat→Prop)(s:Nat→Nat):Prop where
 sub: ∀v,U v→D v
 own: ∀v,U v→g.own v=who→g.E v (s v)∧U (s v)
 opp: ∀v u,U v→¬g.own v=who→g.E v u→D u→U u
 good: ∀v t,Wk (SR g who U s) g.pr v v t→(t:Int)%2=who
def qh (g:PG)(who:Int)(D goal:Nat→Prop):Nat→Nat→Prop
 |0,v=>D v∧goal v
 |k+1,v=>qh g who D goal k v∨(D v∧((g.own v=who∧∃u,g.E v u∧qh g who D goal k u)∨(¬g.own v=who∧(∃u,g.E v u∧D u)∧∀u,g.E v u→D u→qh g who D goal k u)))
def Att (g:PG)(who:Int)(D goal:Nat→Prop)(v:Nat):Prop:= ∃k,qh g who D goal k v
section
variable {g:PG} {who:Int} {D goal:Nat→Prop}
theorem qh.inD {v:Nat}: ∀{k:Nat},qh g who D goal k v→D v
 |0,h=>h.1
 |k+1,h=>by
  rcases h with h|h
  ·exact qh.inD h
  ·exact h.1
theorem qh.up {v:Nat}{j:Nat}(h:qh g who D goal j v): ∀k,j≤k→qh g who D goal k v
 |0,hk=>by rw [show j=0 by omega]at h;exact h
 |k+1,hk=>by
  by_cases e:j=k+1
  ·rw [←e];exact h
  ·exact .inl (qh.up h k (by omega))
theorem um {P:Nat→Prop}: ∀n,P n→∃k,P k∧∀j,j<k→¬P j:=by
 intro n
 induction n using Nat.strongRecOn with
 |ind n ih=>
  intro h
  by_cases h2: ∃j,j<n∧P j
  ·obtain⟨j,hj,hp⟩:=h2
   exact ih j hj hp
  ·exact⟨n,h,fun j hj hp=>h2 ⟨j,hj,hp⟩⟩
open Classical in
noncomputable def rk (g:PG)(who:Int)(D goal:Nat→Prop)(v:Nat):Nat:=if h: ∃k,qh g who D goal k v∧∀j,j<k→¬qh g who D goal j v then h.choose else 0
theorem zCq {v:Nat}(h:Att g who D goal v):qh g who D goal (rk g who D goal v) v∧∀j,j<rk g who D goal v→¬qh g who D goal j v:=by
 obtain⟨n,hn⟩:=h
 have h2:=um (P:=fun k=>qh g who D goal k v) n hn
 unfold rk
 rw [dif_pos h2]
 exact h2.choose_spec
theorem zG5 {v k:Nat}(h:qh g who D goal k v):rk g who D goal v≤k:=by
 have :=(zCq ⟨k,h⟩).2 k
 rcases Nat.lt_or_ge k (rk g who D goal v)with h1|h1
 ·exact absurd h (this h1)
 ·exact h1
theorem Att.cases {v:Nat}(h:Att g who D goal v):(D v∧goal v)∨(D v∧g.own v=who∧∃u,g.E v u∧Att g who D goal u∧rk g who D goal u<rk g who D goal v)∨(D v∧¬g.own v=who∧∀u,g.E v u→D u→Att g who D goal u∧rk g who D goal u<rk g who D goal v):=by
 obtain⟨h1,h2⟩:=zCq h
 generalize hr:rk g who D goal v=r at h1 h2
 cases r with
 |zero=>exact .inl h1
 |succ k=>
  rcases h1 with h1|⟨hD,h1⟩
  ·exact absurd h1 (h2 k (by omega))
  ·rcases h1 with⟨ho,u,he,hu⟩|⟨ho,-,ha⟩
   ·exact .inr (.inl ⟨hD,ho,u,he,⟨k,hu⟩,Nat.lt_succ_of_le (zG5 hu)⟩)
   ·exact .inr (.inr ⟨hD,ho,fun u he hu=>⟨⟨k,ha u he hu⟩,Nat.lt_succ_of_le (zG5 (ha u he hu))⟩⟩)
theorem Att.inD {v:Nat}(h:Att g who D goal v):D v:=by obtain⟨k,hk⟩:=h;exact hk.inD
theorem Att.base {v:Nat}(h1:D v)(h2:goal v):Att g who D goal v:=⟨0,h1,h2⟩
theorem Att.own {v u:Nat}(h1:D v)(h2:g.own v=who)(h3:g.E v u)(h4:Att g who D goal u):Att g who D goal v:=by
 obtain⟨k,hk⟩:=h4
 exact⟨k+1, .inr ⟨h1, .inl ⟨h2,u,h3,hk⟩⟩⟩
theorem Att.opp {n:Nat}(hn: ∀v u,g.E v u→u<n){v:Nat}(h1:D v)(h2: ¬g.own v=who)(h3: ∃u,g.E v u∧D u)(h4: ∀u,g.E v u→D u→Att g who D goal u):Att g who D goal v:=by
 have key: ∀m,∃k,∀u,u<m→g.E v u→D u→qh g who D goal k u:=by
  intro m
  induction m with
  |zero=>exact⟨0,fun u hu=>by omega⟩
  |succ m ih=>
   obtain⟨k,hk⟩:=ih
   by_cases hm:g.E v m∧D m
   ·obtain⟨j,hj⟩:=h4 m hm.1 hm.2
    refine⟨max k j,fun u hu he hd=> ?_⟩
    by_cases e:u=m
    ·rw [e];exact hj.up _ (Nat.le_max_right ..)
    ·exact(hk u (by omega) he hd).up _ (Nat.le_max_left ..)
   ·refine⟨k,fun u hu he hd=> ?_⟩
    by_cases e:u=m
    ·rw [e]at he hd;exact absurd ⟨he,hd⟩ hm
    ·exact hk u (by omega) he hd
 obtain⟨k,hk⟩:=key n
 exact⟨k+1, .inr ⟨h1, .inr ⟨h2,h3,fun u he hd=>hk u (hn v u he) he hd⟩⟩⟩
theorem Att.out_own {v u:Nat}(h1:D v)(h: ¬Att g who D goal v)(h2:g.own v=who)(h3:g.E v u): ¬Att g who D goal u:=fun h4=>h (.own h1 h2 h3 h4)
theorem Att.out_opp {n:Nat}(hn: ∀v u,g.E v u→u<n){v:Nat}(h1:D v)(h: ¬Att g who D goal v)(h2: ¬g.own v=who)(h3: ∃u,g.E v u∧D u): ∃u,g.E v u∧D u∧¬Att g who D goal u:=by
 by_cases h4: ∃u,g.E v u∧D u∧¬Att g who D goal u
 ·exact h4
 ·exact absurd (Att.opp hn h1 h2 h3 fun u he hd=>Classical.byContradiction fun h5=>h4 ⟨u,he,hd,h5⟩) h
end
def va (g:PG)(D:Nat→Prop):Prop:= ∀v,D v→∃u,g.E v u∧D u
theorem Xo {g:PG}{who:Int}{D goal:Nat→Prop}{n:Nat}(hn: ∀v u,g.E v u→u<n)(h:va g D):va g (fun v=>D v∧¬Att g who D goal v):=fun v hv=>by
 obtain⟨u,he,hd⟩:=h v hv.1
 by_cases ho:g.own v=who
 ·exact⟨u,he,hd,Att.out_own hv.1 hv.2 ho he⟩
 ·obtain⟨x,a,b,c⟩:=Att.out_opp hn hv.1 hv.2 ho ⟨u,he,hd⟩
  exact⟨x,a,b,c⟩
open Classical in
noncomputable def WL (g:PG)(who:Int)(D goal:Nat→Prop)(v:Nat):Nat:=if h: ∃u,g.E v u∧Att g who D goal u∧rk g who D goal u<rk g who D goal v then h.choose else 0
theorem Xf {g:PG}{who:Int}{D goal:Nat→Prop}{v:Nat}(h:Att g who D goal v)(hg: ¬goal v)(ho:g.own v=who):g.E v (WL g who D goal v)∧Att g who D goal (WL g who D goal v)∧rk g who D goal (WL g who D goal v)<rk g who D goal v:=by
 have h2: ∃u,g.E v u∧Att g who D goal u∧rk g who D goal u<rk g who D goal v:=by
  rcases h.cases with⟨-,h1⟩|⟨-,-,h1⟩|⟨-,h1,-⟩
  ·exact absurd h1 hg
  ·exact h1
  ·exact absurd ho h1
 unfold WL
 rw [dif_pos h2]
 exact h2.choose_spec
section
variable {g:PG} {who:Int} {D:Nat→Prop} {top n:Nat}
open Classical in
theorem zC2 (hn: ∀v u,g.E v u→u<n)(hl:va g D)(htop: ∀v,D v→g.pr v≤top)(hpar:(top:Int)%2=who){s:Nat→Nat}
  (hw:xv g who (fun v=>D v∧¬Att g who D (fun v=>g.pr v=top) v) (fun v=>D v∧¬Att g who D (fun v=>g.pr v=top) v) s): ∃s',xv g who D D s':=by
 let A:=Att g who D (fun v=>g.pr v=top)
 let r:=rk g who D (fun v=>g.pr v=top)
 have hsome: ∀v,∃u,D v→g.E v u∧D u:=fun v=>by
  by_cases h:D v
  ·obtain⟨u,hu⟩:=hl v h;exact⟨u,fun _=>hu⟩
  ·exact⟨0,fun h2=>absurd h2 h⟩
 let any:Nat→Nat:=fun v=>(hsome v).choose
 have hany: ∀v,D v→g.E v (any v)∧D (any v):=fun v=>(hsome v).choose_spec
 let s':Nat→Nat:=fun v=>if A v then(if g.pr v=top then any v else WL g who D (fun v=>g.pr v=top) v)else s v
 have e1: ∀v,A v→g.pr v=top→s' v=any v:=fun v h1 h2=>by show(if _ then _ else _)=_;rw [if_pos h1,if_pos h2]
 have e2: ∀v,A v→¬g.pr v=top→s' v=WL g who D (fun v=>g.pr v=top) v:=fun v h1 h2=>by show(if _ then _ else _)=_;rw [if_pos h1,if_neg h2]
 have e3: ∀v,¬A v→s' v=s v:=fun v h1=>by show(if _ then _ else _)=_;rw [if_neg h1]
 refine⟨s',fun v h=>h,fun v hv ho=> ?_,fun v u _ _ _ hu=>hu,fun v t w=> ?_⟩
 ·by_cases hA:A v
  ·by_cases hp:g.pr v=top
   ·rw [e1 v hA hp];exact hany v hv
   ·rw [e2 v hA hp]
    have :=Xf hA hp ho
    exact⟨this.1,Att.inD this.2.1⟩
  ·rw [e3 v hA]
   have :=hw.own v ⟨hv,hA⟩ ho
   exact⟨this.1,this.2.1⟩
 ·have hle:=w.le fun v u h=>htop v h.1
  have claim: ∀{v u t:Nat},Wk (SR g who D s') g.pr v u t→t<top→(A v→A u∧r u<r v)∧(¬A v→A u∨Wk (SR g who (fun v=>D v∧¬A v) s) g.pr v u t):=by
   intro v u t w
   have stepA: ∀v u,SR g who D s' v u→g.pr v<top→A v→A u∧r u<r v:=fun v u h hp hA=>by
    rcases hA.cases with⟨-,h1⟩|⟨-,ho,-⟩|⟨-,ho,ha⟩
    ·omega
    ·have h2:=Xf hA (by omega) ho
     rw [h.2.2.2 ho,e2 v hA (by omega)]
     exact h2.2
    ·exact ha u h.2.2.1 h.2.1
   have zDk: ∀v u,SR g who D s' v u→¬A v→¬A u→SR g who (fun v=>D v∧¬A v) s v u:=fun v u h h1 h2=>⟨⟨h.1,h1⟩,⟨h.2.1,h2⟩,h.2.2.1,fun ho=>by rw [h.2.2.2 ho,e3 v h1]⟩
   induction w with
   | @one v u h=>
    intro ht
    refine⟨stepA v u h ht,fun hA=> ?_⟩
    by_cases hu:A u
    ·exact .inl hu
    ·exact .inr (.one (zDk v u h hA hu))
   | @cons v x u t h w ih=>
    intro ht
    obtain⟨i1,i2⟩:=ih (by omega)
    refine⟨fun hA=> ?_,fun hA=> ?_⟩
    ·obtain⟨a,b⟩:=stepA v x h (by omega) hA
     obtain⟨c,d⟩:=i1 a
     exact⟨c,Nat.lt_trans d b⟩
    ·by_cases hx:A x
     ·exact .inl (i1 hx).1
     ·rcases i2 hx with h5|h5
      ·exact .inl h5
      ·exact .inr (.cons (zDk v x h hA hx) h5)
  by_cases ht:t=top
  ·rw [ht];exact hpar
  ·obtain⟨i1,i2⟩:=claim w (by omega)
   by_cases hA:A v
   ·have :=(i1 hA).2
    omega
   ·rcases i2 hA with h5|h5
    ·exact absurd h5 hA
    ·exact hw.good v t h5
theorem kx {opp:Int}(ho2: ∀v,g.own v=who∨g.own v=opp)(hne: ¬who=opp){goal L M:Nat→Prop}{s m:Nat→Nat}
  (hL:xv g opp (fun v=>D v∧¬Att g who D goal v) L s)
  (hM:xv g opp (fun v=>D v∧¬Att g opp D L v) M m): ∃s',xv g opp D (fun v=>M v∨Att g opp D L v) s':=by
 classical
 let B:=Att g opp D L
 let r:=rk g opp D L
 have hLD: ∀v,L v→D v:=fun v h=>(hL.sub v h).1
 have hLB: ∀v,L v→B v:=fun v h=>Att.base (hLD v h) h
 let s':Nat→Nat:=fun v=>if L v then s v else if B v then WL g opp D L v else m v
 have e1: ∀v,L v→s' v=s v:=fun v h=>by show(if _ then _ else _)=_;rw [if_pos h]
 have e2: ∀v,¬L v→B v→s' v=WL g opp D L v:=fun v h h2=>by show(if _ then _ else _)=_;rw [if_neg h,if_pos h2]
 have e3: ∀v,¬B v→s' v=m v:=fun v h=>by show(if _ then _ else _)=_;rw [if_neg (fun h2=>h (hLB v h2)),if_neg h]
 have hMB: ∀v,M v→¬B v:=fun v h=>(hM.sub v h).2
 -- from L nobody leaves L
 have stepL: ∀v u,L v→D u→g.E v u→(g.own v=opp→u=s' v)→L u:=fun v u h1 h2 h3 h4=>by
  rcases ho2 v with e|e
  ·have hv:=hL.sub v h1
   exact hL.opp v u h1 (fun e5=>hne (e.symm.trans e5)) h3 ⟨h2,Att.out_own hv.1 hv.2 e h3⟩
  ·rw [h4 e,e1 v h1];exact(hL.own v h1 e).2
 refine⟨s',fun v h=> ?_,fun v h ho=> ?_,fun v u h ho he hu=> ?_,fun v t w=> ?_⟩
 ·rcases h with h|h
  ·exact(hM.sub v h).1
  ·exact Att.inD h
 ·by_cases h1:L v
  ·rw [e1 v h1]
   have :=hL.own v h1 ho
   exact⟨this.1, .inr (hLB _ this.2)⟩
  ·by_cases h2:B v
   ·rw [e2 v h1 h2]
    have :=Xf h2 h1 ho
    exact⟨this.1, .inr this.2.1⟩
   ·rw [e3 v h2]
    rcases h with h|h
    ·have :=hM.own v h ho
     exact⟨this.1, .inl this.2⟩
    ·exact absurd h h2
 ·by_cases h3:B u
  ·exact .inr h3
  ·by_cases h1:L v
   ·exact .inr (hLB _ (stepL v u h1 hu he fun e=>absurd e ho))
   ·rcases h with h|h
    ·exact .inl (hM.opp v u h ho he ⟨hu,h3⟩)
    ·rcases h.cases with⟨-,h4⟩|⟨-,h4,-⟩|⟨-,-,h4⟩
     ·exact absurd h4 h1
     ·exact absurd h4 ho
     ·exact .inr (h4 u he hu).1
 ·have hD: ∀v,(M v∨B v)→D v:=fun v h=>by
   rcases h with h|h
   ·exact(hM.sub v h).1
   ·exact Att.inD h
  have claim: ∀{v u t:Nat},Wk (SR g opp (fun v=>M v∨B v) s') g.pr v u t→(L v→L u∧Wk (SR g opp L s) g.pr v u t)∧(¬L v→B v→L u∨(B u∧r u<r v))∧(¬B v→B u∨Wk (SR g opp M m) g.pr v u t):=by
   intro v u t w
   have q1: ∀v u,SR g opp (fun v=>M v∨B v) s' v u→L v→L u∧SR g opp L s v u:=fun v u h h1=>by
    have h2:=stepL v u h1 (hD u h.2.1) h.2.2.1 h.2.2.2
    exact⟨h2,h1,h2,h.2.2.1,fun e=>by rw [h.2.2.2 e,e1 v h1]⟩
   have q2: ∀v u,SR g opp (fun v=>M v∨B v) s' v u→¬L v→B v→B u∧r u<r v:=fun v u h h1 h2=>by
    rcases h2.cases with⟨-,h4⟩|⟨-,h4,-⟩|⟨-,-,h4⟩
    ·exact absurd h4 h1
    ·have :=Xf h2 h1 h4
     rw [h.2.2.2 h4,e2 v h1 h2]
     exact this.2
    ·exact h4 u h.2.2.1 (hD u h.2.1)
   have q3: ∀v u,SR g opp (fun v=>M v∨B v) s' v u→¬B v→¬B u→SR g opp M m v u:=fun v u h h1 h2=>by
    have hm: ∀x,(M x∨B x)→¬B x→M x:=fun x h5 h6=>h5.resolve_right h6
    exact⟨hm v h.1 h1,hm u h.2.1 h2,h.2.2.1,fun e=>by rw [h.2.2.2 e,e3 v h1]⟩
   induction w with
   | @one v u h=>
    refine⟨fun h1=> ?_,fun h1 h2=> .inr (q2 v u h h1 h2),fun h1=> ?_⟩
    ·obtain⟨a,b⟩:=q1 v u h h1
     exact⟨a, .one b⟩
    ·by_cases h2:B u
     ·exact .inl h2
     ·exact .inr (.one (q3 v u h h1 h2))
   | @cons v x u t h w ih=>
    obtain⟨i1,i2,i3⟩:=ih
    refine⟨fun h1=> ?_,fun h1 h2=> ?_,fun h1=> ?_⟩
    ·obtain⟨a,b⟩:=q1 v x h h1
     obtain⟨c,d⟩:=i1 a
     exact⟨c, .cons b d⟩
    ·obtain⟨a,b⟩:=q2 v x h h1 h2
     by_cases hx:L x
     ·exact .inl (i1 hx).1
     ·rcases i2 hx a with h5|h5
      ·exact .inl h5
      ·exact .inr ⟨h5.1,Nat.lt_trans h5.2 b⟩
    ·by_cases h2:B x
     ·by_cases hx:L x
      ·exact .inl (hLB _ (i1 hx).1)
      ·rcases i2 hx h2 with h5|h5
       ·exact .inl (hLB _ h5)
       ·exact .inl h5.1
     ·rcases i3 h2 with h5|h5
      ·exact .inl h5
      ·exact .inr (.cons (q3 v x h h1 h2) h5)
  obtain⟨i1,i2,i3⟩:=claim w
  by_cases h1:L v
  ·exact hL.good v t (i1 h1).2
  ·by_cases h2:B v
   ·rcases i2 h1 h2 with h5|h5
    ·exact absurd h5 h1
    ·omega
   ·rcases i3 h2 with h5|h5
    ·exact absurd h5 h2
    ·exact hM.good v t h5
theorem ky {opp:Int}(ho2: ∀v,g.own v=who∨g.own v=opp){L M:Nat→Prop}{m:Nat→Nat}(hM:xv g who (fun v=>D v∧¬Att g opp D L v) M m):xv g who D M m:=
 ⟨fun v h=>(hM.sub v h).1,hM.own,fun v u h ho he hu=>hM.opp v u h ho he ⟨hu,Att.out_own (hM.sub v h).1 (hM.sub v h).2 ((ho2 v).resolve_left ho) he⟩,hM.good⟩
end
theorem yN {g:PG}{who:Int}{D U D' U':Nat→Prop}{s:Nat→Nat}(h:xv g who D U s)(hD: ∀v,D v↔D' v)(hU: ∀v,U v↔U' v):xv g who D' U' s:=by
 have e1:D=D':=funext fun v=>propext (hD v)
 have e2:U=U':=funext fun v=>propext (hU v)
 rw [←e1,←e2];exact h
theorem WC {g:PG}{D U V:Nat→Prop}{s t:Nat→Nat}{n:Nat}(hn: ∀v,D v→v<n)(ho: ∀v,g.own v=0∨g.own v=1)(h0:xv g 0 D U s)(h1:xv g 1 D V t)(v:Nat)(hU:U v)(hV:V v):False:=by
 let f:Nat→Nat:=fun x=>if g.own x=0 then s x else t x
 have step: ∀x,U x∧V x→(U (f x)∧V (f x))∧SR g 0 U s x (f x)∧SR g 1 V t x (f x):=fun x ⟨hu,hv⟩=>by
  rcases ho x with e|e
  ·have hf:f x=s x:=if_pos e
   have a:=h0.own x hu e
   have b:=h1.opp x (s x) hv (by omega) a.1 (h0.sub _ a.2)
   rw [hf]
   exact⟨⟨a.2,b⟩,⟨hu,a.2,a.1,fun _=>rfl⟩,hv,b,a.1,fun e2=>by omega⟩
  ·have hf:f x=t x:=if_neg (by omega)
   have a:=h1.own x hv e
   have b:=h0.opp x (t x) hu (by omega) a.1 (h1.sub _ a.2)
   rw [hf]
   exact⟨⟨b,a.2⟩,⟨hu,b,a.1,fun e2=>by omega⟩,hv,a.2,a.1,fun _=>rfl⟩
 let it:Nat→Nat:=fun k=>Nat.rec v (fun _ x=>f x) k
 have hit: ∀k,U (it k)∧V (it k):=fun k=>by
  induction k with
  |zero=>exact⟨hU,hV⟩
  |succ k ih=>exact(step _ ih).1
 have hlt: ∀k,it k<n:=fun k=>hn _ (h0.sub _ (hit k).1)
 have walk: ∀i d,∃p,Wk (SR g 0 U s) g.pr (it i) (it (i+d+1)) p∧Wk (SR g 1 V t) g.pr (it i) (it (i+d+1)) p:=by
  intro i d
  induction d with
  |zero=>exact⟨_, .one (step _ (hit i)).2.1, .one (step _ (hit i)).2.2⟩
  |succ d ih=>
   obtain⟨p,a,b⟩:=ih
   exact⟨_,a.app (.one (step _ (hit (i+d+1))).2.1),b.app (.one (step _ (hit (i+d+1))).2.2)⟩
 have rep: ∃i d,it (i+d+1)=it i:=by
  refine Classical.byContradiction fun hno=> ?_
  have hnd:((List.range (n+1)).map it).Nodup:=by
   rw [List.nodup_iff_pairwise_ne,List.pairwise_map]
   refine List.Pairwise.imp_of_mem ?_ (List.pairwise_lt_range)
   intro a b ha hb hab e
   exact hno ⟨a,b - a - 1,by rw [show a+(b - a - 1)+1=b by omega];exact e.symm⟩
  have :=List.Nodup.length_le_of_subset (l₂:=List.range n) hnd (fun x hx=>by
   obtain⟨k,-,rfl⟩:=List.mem_map.1 hx
   exact List.mem_range.2 (hlt k))
  simp at this
  omega
 obtain⟨i,d,e⟩:=rep
 obtain⟨p,a,b⟩:=walk i d
 rw [e]at a b
 have :=h0.good _ _ a
 have :=h1.good _ _ b
 omega
open Go.RowKit
structure Pa where
 a:Ar
 prio:List Int
 deriving DecidableEq
def dPa (x:Pa):List D:= [DI x.a.owner,DII x.a.next,DI x.prio]
def Pa.tot (x:Pa):Nat:=x.a.owner.length+vj x.a.next+x.prio.length
structure Pa.Ln (B:Nat)(x:Pa):Prop where
 a:x.a.Ln B
 prio:LnI B x.prio
theorem Pa.ln_of {B:Nat}{x:Pa}(h:x.tot≤B):x.Ln B:=by
 unfold Pa.tot at h
 exact⟨Ar.ln_of (by unfold Ar.tot;omega),YL (by omega)⟩
def Pa.cnt (x:Pa):Nat:=x.a.owner.length+Yc x.a.next+x.prio.length
theorem Pa.ln_mono {B C:Nat}(hB:B≤C){x:Pa}(h:x.Ln B):x.Ln C:=⟨Ar.ln_mono hB h.a,LnI.mono hB h.prio⟩
open Nat renaming reduceMod → zA, reduceMul → zB, reduceDiv → zC, reduceAdd → zD, reduceSub → zE, reduceEqDiff → zF, reduceBEq → zG, reduceLT → zH, reduceLeDiff → zI
theorem zIN (xs:List Bool)(n:Nat):(dB xs).take n=dB (xs.take n):=by simp [dB]
attribute [push_cast] zIN
structure L7 where
 owner:List Int
 prio:List Int
 next:List (List Int)
 prev:List (List Int)
 pick:List Int
def dL7 (x:L7):List D:= [DI x.owner,DI x.prio,DII x.next,DII x.prev,DI x.pick]
structure L7.Ok (x:L7)(n:Nat):Prop where
 hn:n≤256
 ho:x.owner.length=n
 hp:x.prio.length=n
 hx:x.next.length=n
 hv:x.prev.length=n
 hk:x.pick.length=n
 deg: ∀v,v<n→(gl x.next v).length≤256
 to: ∀v,v<n→∀j,j<(gl x.next v).length→0≤gi (gl x.next v) j∧gi (gl x.next v) j<n
 pr: ∀v,v<n→0≤gi x.prio v∧gi x.prio v≤40
 ow: ∀v,v<n→gi x.owner v=0∨gi x.owner v=1
 nd: ∀v,v<n→∀i j,i<j→j<(gl x.next v).length→gi (gl x.next v) i≠gi (gl x.next v) j
 dpv: ∀u,u<n→(gl x.prev u).length≤256
 pin: ∀u,u<n→∀m,m<(gl x.prev u).length→(0≤gi (gl x.prev u) m∧gi (gl x.prev u) m<n)∧∃j,j<(gl x.next (gi (gl x.prev u) m).toNat).length∧gi (gl x.next (gi (gl x.prev u) m).toNat) j=u
 pal: ∀v,v<n→∀j,j<(gl x.next v).length→∃m,m<(gl x.prev (gi (gl x.next v) j).toNat).length∧gi (gl x.prev (gi (gl x.next v) j).toNat) m=v
 pnd: ∀u,u<n→∀i j,i<j→j<(gl x.prev u).length→gi (gl x.prev u) i≠gi (gl x.prev u) j
def edB (x:L7)(v u:Int):Bool:=decide (gi x.pick v.toNat<0∨gi x.pick v.toNat=u)
def vM (x:L7)(inn:List Bool)(v:Nat):Nat→Int
 |0=>0
 |k+1=>if gb inn (gi (gl x.next v) k).toNat&&edB x v (gi (gl x.next v) k)then vM x inn v k+1 else vM x inn v k
theorem JK (x:L7)(inn:List Bool)(v:Nat): ∀k,0≤vM x inn v k∧vM x inn v k≤k
 |0=>⟨Int.le_refl _,Int.le_refl _⟩
 |k+1=>by
  have :=JK x inn v k
  unfold vM
  split<;>omega
theorem KU {x:L7}{inn:List Bool}{v k:Nat}(h1:gb inn (gi (gl x.next v) k).toNat=true)(h2:edB x v (gi (gl x.next v) k)=true):vM x inn v (k+1)=vM x inn v k+1:=by
 show(if _ then _ else _)=_;rw [h1,h2];rfl
theorem KT {x:L7}{inn:List Bool}{v k:Nat}(h1:gb inn (gi (gl x.next v) k).toNat=false):vM x inn v (k+1)=vM x inn v k:=by
 show(if _ then _ else _)=_;rw [h1];rfl
theorem zAW {x:L7}{inn:List Bool}{v k:Nat}(h2:edB x v (gi (gl x.next v) k)=false):vM x inn v (k+1)=vM x inn v k:=by
 show(if _ then _ else _)=_;rw [h2,Bool.and_false];rfl
def ve (x:L7)(inn:List Bool)(v:Nat):Int:=vM x inn v (gl x.next v).length
def mkB (n:Nat)(f:Nat→Bool)(k:Nat):List Bool:=(List.range k).map f++List.replicate (n - k) false
theorem wa {n:Nat}{f:Nat→Bool}{k:Nat}(h:k≤n):(mkB n f k).length=n:=by unfold mkB;simp;omega
theorem Xp (n:Nat)(f:Nat→Bool):mkB n f 0=List.replicate n false:=by simp [mkB]
theorem UZ (n:Nat)(f:Nat→Bool):mkB n f n=(List.range n).map f:=by simp [mkB]
theorem qO {n:Nat}{f:Nat→Bool}{k:Nat}(h:k<n):(mkB n f k).set k (f k)=mkB n f (k+1):=by
 unfold mkB
 rw [List.set_append_right _ _ (by simp),List.length_map,List.length_range,Nat.sub_self,show n - k=(n - (k+1))+1 from by omega,List.replicate_succ,List.set_cons_zero,List.range_succ,List.map_append,List.append_assoc]
 rfl
theorem jd {n:Nat}{f:Nat→Bool}{v:Nat}(h:v<n):gb ((List.range n).map f) v=f v:=by
 unfold gb
 rw [List.getD_eq_getElem?_getD,List.getElem?_map,List.getElem?_range h]
 rfl
def vD (inn out:List Bool)(v:Nat):Bool:=gb inn v&& !gb out v
def yJ (inn out:List Bool):List Bool:=(List.range inn.length).map (vD inn out)
def yK (x:L7)(inn:List Bool):Nat→Int
 |0=> -1
 |k+1=>if gb inn k then max (yK x inn k) (gi x.prio k)else yK x inn k
theorem Je {x:L7}{n:Nat}(h:x.Ok n)(inn:List Bool): ∀k,k≤n→ -1≤yK x inn k∧yK x inn k≤40
 |0,_=>⟨Int.le_refl _,(show(-1:Int)≤40 by decide)⟩
 |k+1,hk=>by
  have :=Je h inn k (by omega)
  have :=h.pr k (by omega)
  unfold yK
  split<;>omega
theorem zBW {x:L7}{inn:List Bool}{k:Nat}(h:gb inn k=true):yK x inn (k+1)=if gi x.prio k>yK x inn k then gi x.prio k else yK x inn k:=by
 show(if _ then _ else _)=_
 rw [if_pos h]
 split<;>omega
theorem zCy {x:L7}{inn:List Bool}{k:Nat}(h:gb inn k=false):yK x inn (k+1)=yK x inn k:=by
 show(if _ then _ else _)=_
 rw [h];rfl
set_option maxRecDepth 20000 in
set_option maxHeartbeats 4000000 in
theorem uj (x:L7)(n:Nat)(hx:x.Ok n)(v u:Int)(hv:0≤v∧v<n):Fn Tryz.prog tyT 178 [.agg (dL7 x), .c (.int .i64 v), .c (.int .i64 u)] [.c (.bool (edB x v u))]:=by
 have hn1:=hx.hn
 have hn2:=hx.ho
 have hn3:=hx.hp
 have hn4:=hx.hx
 have hn5:=hx.hv
 have hn6:=hx.hk
 unfold dL7
 refine zr (fn:=Tryz.f178) (ts:= [6]) Tryz.func178 (by kernel_rfl) rfl rfl (by rw [Tryz.ntmps178];exact Nat.le_of_ble_eq_true rfl) rfl (by simp only [szA,List.mem_cons,List.not_mem_nil,or_false,forall_eq_or_imp,forall_eq,VT.cells,szL];try decide) ?_
 rw [Tryz.ntmps178]
 push_cast [↓zK,↓zJ]
 refine zL fun K hK=> ?_
 refine zM zO zN [] rfl ?_
 push_cast [↓zK,↓zJ]
 repeat' apply And.intro
 all_goals try exact gB
 all_goals(refine hK _ ?_;clear hK K)
 refine zL fun K hK=> ?_
 refine zj false zO zN ?_ rfl ?_
 ·kernel_rfl
 all_goals push_cast [↓zK,↓zJ]
 all_goals repeat'(first|(apply zP<;>(intro hg;(try simp only [push_cast]at hg)))|apply And.intro|(intro hg;(try simp only [push_cast]at hg)))
 all_goals try exact gA
 all_goals(refine hK _ ?_;clear hK K)
 all_goals(
   refine zW ?_
   refine⟨Or.inl rfl,?_⟩
   push_cast [za,↓zK,↓zJ]
   all_goals first|(symm;unfold edB;rw [decide_eq_true_eq];omega)|(symm;unfold edB;rw [decide_eq_false_iff_not];omega)|(unfold edB;rw [Bool.eq_iff_iff];simp;omega))
set_option maxRecDepth 20000 in
set_option maxHeartbeats 4000000 in
theorem zBr (x:L7)(n:Nat)(hx:x.Ok n)(inn:List Bool)(hi:inn.length=n)(v:Nat)(hv:v<n):Fn Tryz.prog tyT 177 [.agg (dL7 x), .c (.lst 4 (dB inn)), .c (.int .i64 v)] [.c (.int .i64 (ve x inn v))]:=by
 have hn1:=hx.hn
 have hn2:=hx.ho
 have hn3:=hx.hp
 have hn4:=hx.hx
 have hn5:=hx.hv
 have hn6:=hx.hk
 have hdeg:=hx.deg v hv
 have hto:=hx.to v hv
 have hE:=fun u=>uj x n hx (v:Int) u (by omega)
 unfold dL7 at hE⊢
 refine zr (fn:=Tryz.f177) (ts:= [6]) Tryz.func177 (by kernel_rfl) rfl rfl (by rw [Tryz.ntmps177];exact Nat.le_of_ble_eq_true rfl) rfl (by simp only [szA,List.mem_cons,List.not_mem_nil,or_false,forall_eq_or_imp,forall_eq,VT.cells,szL];try decide) ?_
 rw [Tryz.ntmps177]
 push_cast [↓zK,↓zJ]
 refine zL fun K hK=> ?_
 refine zM zO zN [] rfl ?_
 all_goals push_cast [↓zK,↓zJ]
 all_goals repeat'(first|(apply zP<;>(intro hg;(try simp only [push_cast]at hg)))|apply And.intro|(intro hg;(try simp only [push_cast]at hg)))
 all_goals first|exact gA|(exact zS (by omega))|skip
 all_goals(refine hK _ ?_;clear hK K)
 refine zL fun K hK=> ?_
 refine zM zO zN [] rfl ?_
 all_goals push_cast [↓zK,↓zJ]
 all_goals repeat'(first|(apply zP<;>(intro hg;(try simp only [push_cast]at hg)))|apply And.intro|(intro hg;(try simp only [push_cast]at hg)))
 all_goals first|exact gA|(exact zS (by omega))|skip
 all_goals(refine hK _ ?_;clear hK K)
 refine zL fun K1 hK1=> ?_
 refine zL fun K hK=> ?_
 refine zM zO zN [] rfl ?_
 all_goals push_cast [↓zK,↓zJ]
 all_goals repeat'(first|(apply zP<;>(intro hg;(try simp only [push_cast]at hg)))|apply And.intro|(intro hg;(try simp only [push_cast]at hg)))
 all_goals first|exact gA|(exact zS (by omega))|skip
 all_goals(refine hK _ ?_;clear hK K)
 refine zV ?_
 refine zh [7,8,9,10,11,12,13,14,15,16,17,18,19,20,21,22,23,24,25,26,27,28,29,30,31,32,33,34,35,36,37,38,39] [] (fun(k:Nat)=> [(8, .int .i64 k),(7, .int .i64 (vM x inn v k))]) (fun k=> []) (fun k=> []) (fun k=>k≤(gl x.next v).length) (fun k=>(gl x.next v).length - k) 0 ?_ (by omega) ?_
 ·
  rw [show vM x inn v 0=0 from rfl]
  refine zX rfl ?_ ?_ ?_<;>push_cast [zg,zf,↓zK,↓zJ]
 ·rintro k hk KL0 hL0
  push_cast [↓zK,↓zJ]
  refine zL fun K2 hK2=> ?_
  refine zL fun K hK=> ?_
  refine zM zO zN [] rfl ?_
  all_goals push_cast [↓zK,↓zJ]
  all_goals repeat'(first|(apply zP<;>(intro hg;(try simp only [push_cast]at hg)))|apply And.intro|(intro hg;(try simp only [push_cast]at hg)))
  all_goals first|exact gA|(exact zS (by omega))|skip
  all_goals(refine hK _ ?_;clear hK K)
  refine zT rfl (fun hc=> ?_) (fun hc=> ?_)<;>(try simp only [push_cast]at hc)
  ·
   refine zU ?_
   refine hK2 _ ?_
   refine zL fun K3 hK3=> ?_
   refine zV ?_
   have hto1:=hto k (by omega)
   have hdk:=JK x inn v k
   refine zL fun K hK=> ?_
   refine zM zO zN [] rfl ?_
   all_goals push_cast [↓zK,↓zJ]
   all_goals repeat'(first|(apply zP<;>(intro hg;(try simp only [push_cast]at hg)))|apply And.intro|(intro hg;(try simp only [push_cast]at hg)))
   all_goals first|exact gA|(exact zS (by omega))|skip
   all_goals(refine hK _ ?_;clear hK K)
   refine zL fun K hK=> ?_
   refine zj false zO zN ?_ rfl ?_
   ·kernel_rfl
   all_goals refine yF 9 fun K9 hK9=> ?_
   all_goals push_cast [↓zK,↓zJ]
   all_goals repeat'(first|(apply zP<;>(intro hg;(try simp only [push_cast]at hg)))|(refine⟨_,hE (gi (gl x.next v) k),?_⟩;push_cast [↓zK,↓zJ])|apply And.intro|(intro hg;(try simp only [push_cast]at hg)))
   all_goals first|exact gA|(exact zS (by omega))|skip
   all_goals(refine hK9 _ ?_;clear hK9 K9)
   all_goals push_cast [↓zK,↓zJ]
   all_goals repeat'(first|(apply zP<;>(intro hg;(try simp only [push_cast]at hg)))|(refine⟨_,hE (gi (gl x.next v) k),?_⟩;push_cast [↓zK,↓zJ])|apply And.intro|(intro hg;(try simp only [push_cast]at hg)))
   all_goals first|exact gA|(exact zS (by omega))|skip
   all_goals(refine hK _ ?_;clear hK K)
   all_goals refine zT rfl (fun hc=> ?_) (fun hc=> ?_)
   all_goals(first|(cases hc;done)|skip)
   all_goals(try simp only [push_cast]at hc)
   all_goals first
    |(
      refine zU ?_
      refine hK3 _ ?_
      refine zM zO zN [] rfl ?_
      all_goals push_cast [↓zK,↓zJ]
      all_goals repeat'(first|(apply zP<;>(intro hg;(try simp only [push_cast]at hg)))|apply And.intro|(intro hg;(try simp only [push_cast]at hg)))
      all_goals first|exact gA|(exact zS (by omega))|skip
      refine hL0 _ ⟨k+1,by omega,by omega,?_⟩
      first|rw [KU (by with_reducible assumption) (by with_reducible assumption)]|rw [KT (by with_reducible assumption)]|rw [zAW (by with_reducible assumption)]
      refine zX rfl ?_ ?_ ?_<;>push_cast [zg,zf,↓zK,↓zJ]
      done)
    |(
      refine zM zO zN [] rfl ?_
      all_goals push_cast [↓zK,↓zJ]
      all_goals repeat'(first|(apply zP<;>(intro hg;(try simp only [push_cast]at hg)))|apply And.intro|(intro hg;(try simp only [push_cast]at hg)))
      all_goals first|exact gA|(exact zS (by omega))|skip
      refine hK3 _ ?_
      refine zM zO zN [] rfl ?_
      all_goals push_cast [↓zK,↓zJ]
      all_goals repeat'(first|(apply zP<;>(intro hg;(try simp only [push_cast]at hg)))|apply And.intro|(intro hg;(try simp only [push_cast]at hg)))
      all_goals first|exact gA|(exact zS (by omega))|skip
      refine hL0 _ ⟨k+1,by omega,by omega,?_⟩
      first|rw [KU (by with_reducible assumption) (by with_reducible assumption)]|rw [KT (by with_reducible assumption)]|rw [zAW (by with_reducible assumption)]
      refine zX rfl ?_ ?_ ?_<;>push_cast [zg,zf,↓zK,↓zJ]
      done)
  ·
   refine zi ?_
   have hkk:k=(gl x.next v).length:=by omega
   subst hkk
   refine hK1 _ ?_
   refine zL fun K hK=> ?_
   refine zM zO zN [] rfl ?_
   all_goals push_cast [↓zK,↓zJ]
   all_goals repeat'(first|(apply zP<;>(intro hg;(try simp only [push_cast]at hg)))|apply And.intro|(intro hg;(try simp only [push_cast]at hg)))
   all_goals first|exact gA|(exact zS (by omega))|skip
   all_goals(refine hK _ ?_;clear hK K)
   refine zW ?_
   refine⟨Or.inl rfl,?_⟩
   push_cast [za,↓zK,↓zJ]
   all_goals first|rfl|skip
set_option maxRecDepth 20000 in
set_option maxHeartbeats 4000000 in
theorem uk (inn out:List Bool)(hn:inn.length≤256)(ho:out.length=inn.length):Fn Tryz.prog tyT 154 [.c (.lst 4 (dB inn)), .c (.lst 4 (dB out))] [.c (.lst 4 (dB (yJ inn out)))]:=by
 refine zr (fn:=Tryz.f154) (ts:= [4]) Tryz.func154 (by kernel_rfl) rfl rfl (by rw [Tryz.ntmps154];exact Nat.le_of_ble_eq_true rfl) rfl (by simp only [szA,List.mem_cons,List.not_mem_nil,or_false,forall_eq_or_imp,forall_eq,VT.cells,szL];try decide) ?_
 rw [Tryz.ntmps154]
 push_cast
 refine zL fun K hK=> ?_
 refine zM zO zN [] rfl ?_
 push_cast
 repeat' apply And.intro
 all_goals try exact gB
 refine hK _ ?_;clear hK K
 refine zL fun K hK=> ?_
 refine zM zO zN [] rfl ?_
 push_cast
 repeat' apply And.intro
 all_goals try exact gB
 refine hK _ ?_;clear hK K
 refine zL fun K1 hK1=> ?_
 refine zL fun K hK=> ?_
 refine zM zO zN [] rfl ?_
 push_cast
 repeat' apply And.intro
 all_goals try exact gB
 refine hK _ ?_;clear hK K
 refine zV ?_
 refine zh [6,10,11,12,13,14,15,16,17,18,19,20,21,22,23,24,25,26,27,28,29] [80] (fun(k:Nat)=> [(6, .int .i64 k),(5, .sl 80 [] 0 inn.length 4)]) (fun k=> []) (fun k=> [(80,⟨.ex,4,dB (mkB inn.length (vD inn out) k),none⟩)]) (fun k=>k≤inn.length) (fun k=>inn.length - k) 0 ?_ (by omega) ?_
 ·
  rw [Xp]
  refine zX rfl ?_ ?_ ?_<;>push_cast [zg,zf]
 ·rintro k hk KL0 hL0
  have hml:=wa (f:=vD inn out) hk
  push_cast
  refine zL fun K2 hK2=> ?_
  refine zL fun K hK=> ?_
  refine zM zO zN [] rfl ?_
  push_cast
  repeat' apply And.intro
  all_goals try exact gB
  refine hK _ ?_;clear hK K
  refine zT rfl (fun hc=> ?_) (fun hc=> ?_)<;>(try simp only [push_cast]at hc)
  ·
   refine zU ?_
   refine hK2 _ ?_
   refine zL fun K3 hK3=> ?_
   refine zV ?_
   refine zj false zO zN ?_ rfl ?_
   ·kernel_rfl
   all_goals push_cast
   all_goals repeat'(first|(apply zP<;>(intro hg;push_cast at hg))|apply And.intro|(intro hg;push_cast at hg))
   all_goals try exact gA
   all_goals(
     refine hK3 _ ?_
     refine zM zO zN [] rfl ?_
     push_cast
     repeat' apply And.intro
     all_goals try exact gB
     refine hL0 _ ⟨k+1,by omega,by omega,?_⟩
     first|rw [show(mkB inn.length (vD inn out) k).set k (!gb out k)=mkB inn.length (vD inn out) (k+1)from by rw [←qO (by omega)];unfold vD;rw [show gb inn k=true from by with_reducible assumption];rfl]|rw [show(mkB inn.length (vD inn out) k).set k false=mkB inn.length (vD inn out) (k+1)from by rw [←qO (by omega)];unfold vD;rw [show gb inn k=false from by with_reducible assumption];rfl]
     refine zX rfl ?_ ?_ ?_<;>push_cast [zg,zf])
  ·
   refine zi ?_
   have hkk:k=inn.length:=by omega
   subst hkk
   refine hK1 _ ?_
   refine zL fun K hK=> ?_
   refine zM zO zN [] rfl ?_
   push_cast
   repeat' apply And.intro
   all_goals try exact gB
   refine hK _ ?_;clear hK K
   refine zW ?_
   refine⟨Or.inl rfl,?_⟩
   push_cast [za]
   try rw [UZ]
   unfold yJ
   all_goals first|rfl|exact⟨rfl,by simp⟩|exact⟨by simp,rfl⟩|(simp;done)
set_option maxRecDepth 20000 in
set_option maxHeartbeats 4000000 in
theorem zEj (x y:Int):Fn Tryz.prog tyT 176 [.c (.int .i64 x), .c (.int .i64 y)] [.c (.int .i64 (if y>x then y else x))]:=by
 refine zr (fn:=Tryz.f176) (ts:= [4]) Tryz.func176 (by kernel_rfl) rfl rfl (by rw [Tryz.ntmps176];exact Nat.le_of_ble_eq_true rfl) rfl (by simp only [szA,List.mem_cons,List.not_mem_nil,or_false,forall_eq_or_imp,forall_eq,VT.cells,szL];try decide) ?_
 rw [Tryz.ntmps176]
 push_cast
 refine zL fun K hK=> ?_
 refine zM zO zN [] rfl ?_
 push_cast
 repeat' apply And.intro
 all_goals try exact gB
 refine hK _ ?_;clear hK K
 refine zL fun K1 hK1=> ?_
 refine zL fun K hK=> ?_
 refine zM zO zN [] rfl ?_
 push_cast
 repeat' apply And.intro
 all_goals try exact gB
 refine hK _ ?_;clear hK K
 refine zT rfl (fun hc=> ?_) (fun hc=> ?_)<;>(try simp only [push_cast]at hc)
 ·
  refine zL fun K hK=> ?_
  refine zM zO zN [] rfl ?_
  push_cast
  repeat' apply And.intro
  all_goals try exact gB
  refine hK _ ?_;clear hK K
  refine zW ?_
  refine⟨Or.inl rfl,?_⟩
  push_cast [za]
  rw [if_neg (by omega)]
 ·
  refine zU ?_
  refine hK1 _ ?_
  refine zL fun K hK=> ?_
  refine zM zO zN [] rfl ?_
  push_cast
  repeat' apply And.intro
  all_goals try exact gB
  refine hK _ ?_;clear hK K
  refine zW ?_
  refine⟨Or.inl rfl,?_⟩
  push_cast [za]
  split<;>omega
set_option maxRecDepth 20000 in
set_option maxHeartbeats 4000000 in
theorem zF7 (x:L7)(n:Nat)(hx:x.Ok n)(inn:List Bool)(hi:inn.length=n):Fn Tryz.prog tyT 153 [.agg (dL7 x), .c (.lst 4 (dB inn))] [.c (.int .i64 (yK x inn n))]:=by
 have hn1:=hx.hn
 have hn2:=hx.ho
 have hn3:=hx.hp
 have hn4:=hx.hx
 have hn5:=hx.hv
 have hn6:=hx.hk
 have hM:=zEj
 unfold dL7
 refine zr (fn:=Tryz.f153) (ts:= [4]) Tryz.func153 (by kernel_rfl) rfl rfl (by rw [Tryz.ntmps153];exact Nat.le_of_ble_eq_true rfl) rfl (by simp only [szA,List.mem_cons,List.not_mem_nil,or_false,forall_eq_or_imp,forall_eq,VT.cells,szL];try decide) ?_
 rw [Tryz.ntmps153]
 push_cast
 refine zL fun K hK=> ?_
 refine zM zO zN [] rfl ?_
 push_cast
 repeat' apply And.intro
 all_goals try exact gB
 refine hK _ ?_;clear hK K
 refine zL fun K hK=> ?_
 refine zM zO zN [] rfl ?_
 push_cast
 repeat' apply And.intro
 all_goals try exact gB
 refine hK _ ?_;clear hK K
 refine zL fun K1 hK1=> ?_
 refine zL fun K hK=> ?_
 refine zM zO zN [] rfl ?_
 push_cast
 repeat' apply And.intro
 all_goals try exact gB
 refine hK _ ?_;clear hK K
 refine zV ?_
 refine zh [5,6,7,8,9,10,11,12,13,14,15,16,17,18,19,20,21,22,23] [] (fun(k:Nat)=> [(6, .int .i64 k),(5, .int .i64 (yK x inn k))]) (fun k=> []) (fun k=> []) (fun k=>k≤n) (fun k=>n - k) 0 ?_ (by omega) ?_
 ·
  rw [show yK x inn 0= -1 from rfl]
  refine zX rfl ?_ ?_ ?_<;>push_cast [zg,zf]
 ·rintro k hk KL0 hL0
  push_cast
  refine zL fun K2 hK2=> ?_
  refine zL fun K hK=> ?_
  refine zM zO zN [] rfl ?_
  push_cast
  repeat' apply And.intro
  all_goals try exact gB
  refine hK _ ?_;clear hK K
  refine zT rfl (fun hc=> ?_) (fun hc=> ?_)<;>(try simp only [push_cast]at hc)
  ·
   refine zU ?_
   refine hK2 _ ?_
   refine zL fun K3 hK3=> ?_
   refine zV ?_
   refine zL fun K hK=> ?_
   refine zM zO zN [] rfl ?_
   push_cast
   repeat' apply And.intro
   all_goals try exact gB
   refine hK _ ?_;clear hK K
   refine zT rfl (fun hc=> ?_) (fun hc=> ?_)<;>(try simp only [push_cast]at hc)
   ·
    refine zM zO zN [] rfl ?_
    all_goals refine zl 7 fun K9 hK9=> ?_
    all_goals push_cast
    all_goals repeat'(first|(apply zP<;>(intro hg;push_cast at hg))|(refine⟨_,hM _ _,?_⟩;push_cast)|apply And.intro|(intro hg;push_cast at hg))
    all_goals try exact gA
    refine hK9 _ ?_;clear hK9 K9
    all_goals push_cast
    all_goals repeat'(first|(apply zP<;>(intro hg;push_cast at hg))|(refine⟨_,hM _ _,?_⟩;push_cast)|apply And.intro|(intro hg;push_cast at hg))
    all_goals try exact gA
    refine hK3 _ ?_
    refine zM zO zN [] rfl ?_
    push_cast
    repeat' apply And.intro
    all_goals try exact gB
    refine hL0 _ ⟨k+1,by omega,by omega,?_⟩
    first|rw [zBW (by with_reducible assumption)]|rw [zCy (by with_reducible assumption)]
    refine zX rfl ?_ ?_ ?_<;>push_cast [zg,zf]
   ·
    refine zU ?_
    refine hK3 _ ?_
    refine zM zO zN [] rfl ?_
    push_cast
    repeat' apply And.intro
    all_goals try exact gB
    refine hL0 _ ⟨k+1,by omega,by omega,?_⟩
    first|rw [zBW (by with_reducible assumption)]|rw [zCy (by with_reducible assumption)]
    refine zX rfl ?_ ?_ ?_<;>push_cast [zg,zf]
  ·
   refine zi ?_
   have hkk:k=n:=by omega
   subst hkk
   refine hK1 _ ?_
   refine zL fun K hK=> ?_
   refine zM zO zN [] rfl ?_
   push_cast
   repeat' apply And.intro
   all_goals try exact gB
   refine hK _ ?_;clear hK K
   refine zW ?_
   refine⟨Or.inl rfl,?_⟩
   push_cast [za]
   all_goals first|rfl|skip
set_option maxRecDepth 20000 in
set_option maxHeartbeats 4000000 in
theorem zF5 (n:Nat)(hn:n≤256):Fn Tryz.prog tyT 108 [.c (.int .i64 n)] [.c (.lst 4 (dB (List.replicate n true)))]:=by
 refine zr (fn:=Tryz.f108) (ts:= [2]) Tryz.func108 (by kernel_rfl) rfl rfl (by rw [Tryz.ntmps108];exact Nat.le_of_ble_eq_true rfl) rfl (by simp only [szA,List.mem_cons,List.not_mem_nil,or_false,forall_eq_or_imp,forall_eq,VT.cells,szL];try decide) ?_
 rw [Tryz.ntmps108]
 push_cast
 refine zL fun K hK=> ?_
 refine zM zO zN [] rfl ?_
 push_cast
 repeat' apply And.intro
 all_goals try exact gB
 refine hK _ ?_;clear hK K
 refine zL fun K hK=> ?_
 refine zM zO zN [] rfl ?_
 push_cast
 repeat' apply And.intro
 all_goals try exact gB
 refine hK _ ?_;clear hK K
 refine zL fun K1 hK1=> ?_
 refine zL fun K hK=> ?_
 refine zM zO zN [] rfl ?_
 push_cast
 repeat' apply And.intro
 all_goals try exact gB
 refine hK _ ?_;clear hK K
 refine zV ?_
 refine zh [4,7,8,9,10,11,12,13,14] [48] (fun(k:Nat)=> [(4, .int .i64 k),(3, .sl 48 [] 0 n 4)]) (fun k=> []) (fun k=> [(48,⟨.ex,4,dB (mkB n (fun _=>true) k),none⟩)]) (fun k=>k≤n) (fun k=>n - k) 0 ?_ (by omega) ?_
 ·
  rw [Xp]
  refine zX rfl ?_ ?_ ?_<;>push_cast [zg,zf]
 ·rintro k hk KL0 hL0
  have hml:=wa (f:=fun _=>true) hk
  push_cast
  refine zL fun K2 hK2=> ?_
  refine zL fun K hK=> ?_
  refine zM zO zN [] rfl ?_
  push_cast
  repeat' apply And.intro
  all_goals try exact gB
  refine hK _ ?_;clear hK K
  refine zT rfl (fun hc=> ?_) (fun hc=> ?_)<;>(try simp only [push_cast]at hc)
  ·
   refine zU ?_
   refine hK2 _ ?_
   refine zL fun K3 hK3=> ?_
   refine zV ?_
   refine zM zO zN [] rfl ?_
   push_cast
   repeat' apply And.intro
   all_goals try exact gB
   refine hK3 _ ?_
   refine zM zO zN [] rfl ?_
   push_cast
   repeat' apply And.intro
   all_goals try exact gB
   refine hL0 _ ⟨k+1,by omega,by omega,?_⟩
   rw [show(mkB n (fun _=>true) k).set k true=mkB n (fun _=>true) (k+1)from qO (by omega)]
   refine zX rfl ?_ ?_ ?_<;>push_cast [zg,zf]
  ·
   refine zi ?_
   have hkk:k=n:=by omega
   subst hkk
   refine hK1 _ ?_
   refine zL fun K hK=> ?_
   refine zM zO zN [] rfl ?_
   push_cast
   repeat' apply And.intro
   all_goals try exact gB
   refine hK _ ?_;clear hK K
   refine zW ?_
   refine⟨Or.inl rfl,?_⟩
   push_cast [za]
   rw [UZ,show(List.range k).map (fun _=>true)=List.replicate k true from by rw [List.map_const',List.length_range]]
   all_goals first|rfl|exact⟨rfl,by simp⟩|(simp;done)
def pgL (x:L7):PG:=⟨fun v=>if v<x.owner.length then gi x.owner v else 0,fun v=>(gi x.prio v).toNat,fun v u=>v<x.owner.length∧∃j,j<(gl x.next v).length∧(gi (gl x.next v) j).toNat=u∧edB x v (gi (gl x.next v) j)=true⟩
def inD (n:Nat)(inn:List Bool)(v:Nat):Prop:=v<n∧gb inn v=true
section
variable {x:L7} {n:Nat}
theorem Qr (hx:x.Ok n){v:Nat}(hv:v<n):(pgL x).own v=gi x.owner v:=if_pos (by rw [hx.ho];exact hv)
theorem Vl (hx:x.Ok n)(v:Nat):(pgL x).own v=0∨(pgL x).own v=1:=by
 by_cases h:v<n
 ·rw [Qr hx h];exact hx.ow v h
 ·exact .inl (if_neg (by rw [hx.ho];exact h))
theorem pgL_E (hx:x.Ok n){v:Nat}(hv:v<n){u:Int}(hu:0≤u):(pgL x).E v u.toNat↔(∃j,j<(gl x.next v).length∧gi (gl x.next v) j=u)∧edB x v u=true:=by
 constructor
 ·rintro⟨-,j,hj,e,h⟩
  have :=(hx.to v hv j hj).1
  have e2:gi (gl x.next v) j=u:=by omega
  rw [e2]at h
  exact⟨⟨j,hj,e2⟩,h⟩
 ·rintro⟨⟨j,hj,e⟩,h⟩
  exact⟨by rw [hx.ho];exact hv,j,hj,by rw [e],by rw [e];exact h⟩
theorem JZ (hx:x.Ok n)(v u:Nat)(h:(pgL x).E v u):u<n:=by
 obtain⟨h1,j,hj,e,-⟩:=h
 have :=hx.to v (by rw [←hx.ho];exact h1) j hj
 omega
def qI (x:L7)(inn:List Bool)(v:Nat)(p:Int→Bool):Nat→Int
 |0=>0
 |k+1=>if gb inn (gi (gl x.next v) k).toNat&&edB x v (gi (gl x.next v) k)&& !p (gi (gl x.next v) k)then qI x inn v p k+1 else qI x inn v p k
theorem WU (x:L7)(inn:List Bool)(v:Nat){p:Int→Bool}: ∀k,(∀j,j<k→p (gi (gl x.next v) j)=false)→qI x inn v p k=vM x inn v k
 |0,_=>rfl
 |k+1,h=>by
  unfold qI vM
  rw [WU x inn v k fun j hj=>h j (by omega),h k (by omega),Bool.not_false,Bool.and_true]
theorem ZM (x:L7)(inn:List Bool)(v:Nat){p q:Int→Bool}: ∀k,(∀j,j<k→gb inn (gi (gl x.next v) j).toNat=true→edB x v (gi (gl x.next v) j)=true→p (gi (gl x.next v) j)=q (gi (gl x.next v) j))→qI x inn v p k=qI x inn v q k
 |0,_=>rfl
 |k+1,h=>by
  unfold qI
  rw [ZM x inn v k fun j hj=>h j (by omega)]
  by_cases h1:gb inn (gi (gl x.next v) k).toNat=true
  ·by_cases h2:edB x v (gi (gl x.next v) k)=true
   ·rw [h k (by omega) h1 h2]
   ·have h3:edB x v (gi (gl x.next v) k)=false:=by simpa using h2
    rw [h3,Bool.and_false,Bool.false_and,Bool.false_and]
  ·have h3:gb inn (gi (gl x.next v) k).toNat=false:=by simpa using h1
   rw [h3,Bool.false_and,Bool.false_and,Bool.false_and]
theorem zAX (x:L7)(inn:List Bool)(v:Nat){p q:Int→Bool}{u:Int}(hp:p u=false)(hq:q u=true)(hu:gb inn u.toNat=true)(he:edB x v u=true): ∀k,(∀j,j<k→gi (gl x.next v) j≠u→p (gi (gl x.next v) j)=q (gi (gl x.next v) j))→
  (∀i j,i<j→j<k→gi (gl x.next v) i≠gi (gl x.next v) j)→(∃j,j<k∧gi (gl x.next v) j=u)→qI x inn v q k=qI x inn v p k - 1
 |0,_,_,h=>by obtain⟨j,hj,-⟩:=h;omega
 |k+1,h,hd,hex=>by
  obtain⟨j,hj,e⟩:=hex
  by_cases hk:gi (gl x.next v) k=u
  ·have h1:qI x inn v q k=qI x inn v p k:=(ZM x inn v k fun j' hj' _ _=>h j' (by omega) (fun e'=>hd j' k hj' (by omega) (e'.trans hk.symm))).symm
   unfold qI
   rw [hk,hp,hq,hu,he,h1]
   simp
  ·have hjk:j≠k:=fun e2=>hk (by rw [←e2];exact e)
   have ih:=zAX x inn v hp hq hu he k (fun j' hj'=>h j' (by omega)) (fun a b h1 h2=>hd a b h1 (by omega)) ⟨j,by omega,e⟩
   unfold qI
   rw [h k (by omega) hk,ih]
   split<;>omega
theorem JL (x:L7)(inn:List Bool)(v:Nat)(p:Int→Bool): ∀k,0≤qI x inn v p k∧qI x inn v p k≤k
 |0=>⟨Int.le_refl _,Int.le_refl _⟩
 |k+1=>by
  have :=JL x inn v p k
  unfold qI
  split<;>omega
theorem uS (x:L7)(inn:List Bool)(v:Nat)(p:Int→Bool): ∀k,qI x inn v p k=0→∀j,j<k→gb inn (gi (gl x.next v) j).toNat=true→edB x v (gi (gl x.next v) j)=true→p (gi (gl x.next v) j)=true
 |0,_,j,hj,_,_=>by omega
 |k+1,h,j,hj,h1,h2=>by
  have hn:=JL x inn v p k
  unfold qI at h
  split at h
  ·omega
  ·rename_i hc
   by_cases e:j=k
   ·rw [e]at h1 h2⊢
    rw [h1,h2]at hc
    simpa using hc
   ·exact uS x inn v p k h j (by omega) h1 h2
structure AtI (x:L7)(n:Nat)(inn:List Bool)(who:Int)(goal out:List Bool)(left queue:List Int)(P:Nat→Int→Bool):Prop where
 lo:out.length=n
 ll:left.length=n
 qrg: ∀i,i<queue.length→0≤gi queue i∧gi queue i<n
 qnd: ∀i j,i<j→j<queue.length→gi queue i≠gi queue j
 qout: ∀v,v<n→(gb out v=true↔∃i,i<queue.length∧gi queue i=v)
 sound: ∀v,v<n→gb out v=true→Att (pgL x) who (inD n inn) (fun v=>gb goal v=true) v
 base: ∀v,v<n→gb inn v=true→gb goal v=true→gb out v=true
 own: ∀v,v<n→gb inn v=true→gb out v=false→gi x.owner v=who→∀j,j<(gl x.next v).length→edB x v (gi (gl x.next v) j)=true→gb inn (gi (gl x.next v) j).toNat=true→P v (gi (gl x.next v) j)=false
 opp: ∀v,v<n→gb inn v=true→gb out v=false→¬gi x.owner v=who→(∃j,j<(gl x.next v).length∧edB x v (gi (gl x.next v) j)=true∧gb inn (gi (gl x.next v) j).toNat=true∧P v (gi (gl x.next v) j)=true)→gi left v≠0
 cnt: ∀v,v<n→gb inn v=true→gb out v=false→gi left v=qI x inn v (P v) (gl x.next v).length
 psub: ∀v,v<n→∀j,j<(gl x.next v).length→P v (gi (gl x.next v) j)=true→gb out (gi (gl x.next v) j).toNat=true
variable {inn goal out:List Bool} {who:Int} {left queue:List Int} {P Q:Nat→Int→Bool}
theorem AtI.cong (h:AtI x n inn who goal out left queue P)(hPQ: ∀v,v<n→∀j,j<(gl x.next v).length→P v (gi (gl x.next v) j)=Q v (gi (gl x.next v) j)):AtI x n inn who goal out left queue Q:=
 ⟨h.lo,h.ll,h.qrg,h.qnd,h.qout,h.sound,h.base,fun v hv h1 h2 h3 j hj h4 h5=>by rw [←hPQ v hv j hj];exact h.own v hv h1 h2 h3 j hj h4 h5,
  fun v hv h1 h2 h3 ⟨j,hj,h4,h5,h6⟩=>h.opp v hv h1 h2 h3 ⟨j,hj,h4,h5,by rw [hPQ v hv j hj];exact h6⟩,
  fun v hv h1 h2=>by rw [h.cnt v hv h1 h2];exact ZM x inn v _ fun j hj _ _=>hPQ v hv j hj,
  fun v hv j hj h1=>h.psub v hv j hj (by rw [hPQ v hv j hj];exact h1)⟩
theorem AtI.skip (h:AtI x n inn who goal out left queue P){v0:Nat}(hv0:v0<n){u0:Int}(hu0:gb out u0.toNat=true)(hs:gb inn v0=false∨gb out v0=true∨edB x v0 u0=false)
  (hQ: ∀v u,Q v u=(P v u||(decide (v=v0)&&decide (u=u0)))):AtI x n inn who goal out left queue Q:=by
 have key: ∀v,v<n→gb inn v=true→gb out v=false→∀j,j<(gl x.next v).length→edB x v (gi (gl x.next v) j)=true→Q v (gi (gl x.next v) j)=P v (gi (gl x.next v) j):=fun v hv h1 h2 j hj h3=>by
  rw [hQ]
  by_cases e:v=v0∧gi (gl x.next v) j=u0
  ·exfalso
   obtain⟨rfl,e2⟩:=e
   rw [e2]at h3
   rcases hs with h|h|h
   ·rw [h]at h1;cases h1
   ·rw [h]at h2;cases h2
   ·rw [h]at h3;cases h3
  ·have :(decide (v=v0)&&decide (gi (gl x.next v) j=u0))=false:=by
    rw [Bool.and_eq_false_iff,decide_eq_false_iff_not,decide_eq_false_iff_not]
    omega
   rw [this,Bool.or_false]
 refine⟨h.lo,h.ll,h.qrg,h.qnd,h.qout,h.sound,h.base,fun v hv h1 h2 h3 j hj h4 h5=>by rw [key v hv h1 h2 j hj h4];exact h.own v hv h1 h2 h3 j hj h4 h5,
  fun v hv h1 h2 h3 ⟨j,hj,h4,h5,h6⟩=>h.opp v hv h1 h2 h3 ⟨j,hj,h4,h5,by rw [←key v hv h1 h2 j hj h4];exact h6⟩,
  fun v hv h1 h2=>by rw [h.cnt v hv h1 h2];exact ZM x inn v _ fun j hj _ h4=>(key v hv h1 h2 j hj h4).symm,
  fun v hv j hj h1=> ?_⟩
 rw [hQ,Bool.or_eq_true,Bool.and_eq_true,decide_eq_true_eq,decide_eq_true_eq]at h1
 rcases h1 with h1|⟨-,h1⟩
 ·exact h.psub v hv j hj h1
 ·rw [h1];exact hu0
theorem qN {c:List Int}{v u:Nat}{y:Int}(hv:v<c.length):gi (c.set v y) u=if u=v then y else gi c u:=by
 unfold gi
 rw [List.getD_eq_getElem?_getD,List.getElem?_set]
 split
 ·rename_i h;subst h;simp [hv]
 ·rename_i h;rw [if_neg (by omega),List.getD_eq_getElem?_getD]
theorem ZN {c:List Bool}{v u:Nat}{y:Bool}(hv:v<c.length):gb (c.set v y) u=if u=v then y else gb c u:=by
 unfold gb
 rw [List.getD_eq_getElem?_getD,List.getElem?_set]
 split
 ·rename_i h;subst h;simp [hv]
 ·rename_i h;rw [if_neg (by omega),List.getD_eq_getElem?_getD]
theorem AtI.step (hx:x.Ok n)(h:AtI x n inn who goal out left queue P){v0:Nat}(hv0:v0<n){u0:Int}(hu:0≤u0∧u0<n)(hu0:gb out u0.toNat=true)(hui:gb inn u0.toNat=true)(h1:gb inn v0=true)(h2:gb out v0=false)(h3:edB x v0 u0=true)
  (hj: ∃j,j<(gl x.next v0).length∧gi (gl x.next v0) j=u0) (hP:P v0 u0=false) (hQ: ∀v u,Q v u=(P v u||(decide (v=v0)&&decide (u=u0)))):
  (¬(gi x.owner v0=who∨gi left v0 - 1=0)→AtI x n inn who goal out (left.set v0 (gi left v0 - 1)) queue Q)∧
  ((gi x.owner v0=who∨gi left v0 - 1=0)→AtI x n inn who goal (out.set v0 true) (left.set v0 (gi left v0 - 1)) (queue++ [(v0:Int)]) Q):=by
 have hother: ∀v,v≠v0→∀u,Q v u=P v u:=fun v hv u=>by rw [hQ,decide_eq_false hv,Bool.false_and,Bool.or_false]
 have hQ1:Q v0 u0=true:=by rw [hQ];simp
 have hQ2: ∀u,u≠u0→Q v0 u=P v0 u:=fun u hu=>by rw [hQ,decide_eq_false hu,Bool.and_false,Bool.or_false]
 have hcount:qI x inn v0 (Q v0) (gl x.next v0).length=gi left v0 - 1:=by
  rw [h.cnt v0 hv0 h1 h2]
  exact zAX x inn v0 hP hQ1 hui h3 _ (fun j hj hne=>(hQ2 _ hne).symm) (fun i j a b=>hx.nd v0 hv0 i j a b) hj
 have hps: ∀v,v<n→∀j,j<(gl x.next v).length→Q v (gi (gl x.next v) j)=true→gb out (gi (gl x.next v) j).toNat=true:=fun v hv j hj h5=>by
  rw [hQ,Bool.or_eq_true,Bool.and_eq_true,decide_eq_true_eq,decide_eq_true_eq]at h5
  rcases h5 with h5|⟨-,h5⟩
  ·exact h.psub v hv j hj h5
  ·rw [h5];exact hu0
 have hll:v0<left.length:=by rw [h.ll];exact hv0
 have hlo:v0<out.length:=by rw [h.lo];exact hv0
 constructor
 ·intro hno
  refine⟨h.lo,by rw [List.length_set];exact h.ll,h.qrg,h.qnd,h.qout,h.sound,h.base,fun v hv a b c j hj' d e=> ?_,fun v hv a b c hex=> ?_,fun v hv a b=> ?_,hps⟩
  ·by_cases ev:v=v0
   ·exfalso;rw [ev]at c;exact hno (.inl c)
   ·rw [hother v ev];exact h.own v hv a b c j hj' d e
  ·rw [qN hll]
   split
   ·exact fun e=>hno (.inr e)
   ·rename_i ev
    obtain⟨j,hj',d,e,f⟩:=hex
    exact h.opp v hv a b c ⟨j,hj',d,e,by rw [←hother v ev];exact f⟩
  ·rw [qN hll]
   split
   ·rename_i ev;rw [ev];exact hcount.symm
   ·rename_i ev
    rw [h.cnt v hv a b]
    exact ZM x inn v _ fun j _ _ _=>(hother v ev _).symm
 ·intro hyes
  have hnew: ∀i,i<queue.length→gi queue i≠(v0:Int):=fun i hi e=>by
   have :=(h.qout v0 hv0).2 ⟨i,hi,e⟩
   rw [this]at h2;cases h2
  have hql:(queue++ [(v0:Int)]).length=queue.length+1:=by simp
  have hqs: ∀j,j<queue.length+1→gi (queue++ [(v0:Int)]) j=if j=queue.length then(v0:Int)else gi queue j:=fun j hj=>by
   split
   ·rename_i e;rw [e];unfold gi;rw [List.getD_eq_getElem?_getD,List.getElem?_append_right (Nat.le_refl _)];simp
   ·unfold gi;rw [List.getD_eq_getElem?_getD,List.getElem?_append_left (by omega),List.getD_eq_getElem?_getD]
  have hup: ∀v,gb out v=true→gb (out.set v0 true) v=true:=fun v hv=>by
   rw [ZN hlo]
   split
   ·rfl
   ·exact hv
  have hdown: ∀v,gb (out.set v0 true) v=false→v≠v0∧gb out v=false:=fun v hv=>by
   rw [ZN hlo]at hv
   split at hv
   ·cases hv
   ·rename_i e;exact⟨e,hv⟩
  refine⟨by rw [List.length_set];exact h.lo,by rw [List.length_set];exact h.ll,fun i hi=> ?_,fun i j hij hj'=> ?_,fun v hv=> ?_,fun v hv hb=> ?_,fun v hv a b=>hup v (h.base v hv a b),fun v hv a b c j hj' d e=> ?_,fun v hv a b c hex=> ?_,fun v hv a b=> ?_,fun v hv j hj' h5=>hup _ (hps v hv j hj' h5)⟩
  ·rw [hql]at hi
   rw [hqs i hi]
   split
   ·omega
   ·exact h.qrg i (by omega)
  ·rw [hql]at hj'
   rw [hqs i (by omega),hqs j hj',if_neg (by omega)]
   split
   ·exact hnew i (by omega)
   ·exact h.qnd i j hij (by omega)
  ·rw [ZN hlo,hql]
   constructor
   ·intro hb
    split at hb
    ·rename_i e;exact⟨queue.length,by omega,by rw [hqs _ (by omega),if_pos rfl,e]⟩
    ·obtain⟨i,hi,e⟩:=(h.qout v hv).1 hb
     exact⟨i,by omega,by rw [hqs i (by omega),if_neg (by omega)];exact e⟩
   ·rintro⟨i,hi,e⟩
    rw [hqs i hi]at e
    split at e
    ·rw [if_pos (by omega)]
    ·split
     ·rfl
     ·exact(h.qout v hv).2 ⟨i,by omega,e⟩
  ·rw [ZN hlo]at hb
   split at hb
   ·rename_i e
    subst e
    have hE:(pgL x).E v u0.toNat:=(pgL_E hx hv hu.1).2 ⟨hj,h3⟩
    have hAu:=h.sound u0.toNat (by omega) hu0
    by_cases ho:gi x.owner v=who
    ·exact Att.own ⟨hv,h1⟩ (by rw [Qr hx hv];exact ho) hE hAu
    ·have hz:qI x inn v (Q v) (gl x.next v).length=0:=by rw [hcount];exact hyes.resolve_left ho
     refine Att.opp (fun a b=>JZ hx a b) ⟨hv,h1⟩ (by rw [Qr hx hv];exact ho) ⟨_,hE,by omega,hui⟩ fun u he hd=> ?_
     obtain⟨-,j,hj',e1,e2⟩:=he
     have hq:=uS x inn v (Q v) _ hz j hj' (by rw [e1];exact hd.2) e2
     have :=hps v hv j hj' hq
     rw [e1]at this
     exact h.sound u hd.1 this
   ·exact h.sound v hv hb
  ·obtain⟨b1,b2⟩:=hdown v b
   rw [hother v b1];exact h.own v hv a b2 c j hj' d e
  ·obtain⟨b1,b2⟩:=hdown v b
   rw [qN hll,if_neg b1]
   obtain⟨j,hj',d,e,f⟩:=hex
   exact h.opp v hv a b2 c ⟨j,hj',d,e,by rw [←hother v b1];exact f⟩
  ·obtain⟨b1,b2⟩:=hdown v b
   rw [qN hll,if_neg b1,h.cnt v hv a b2]
   exact ZM x inn v _ fun j _ _ _=>(hother v b1 _).symm
theorem AtI.done (hx:x.Ok n)(h:AtI x n inn who goal out left queue P)(hP: ∀v,v<n→∀j,j<(gl x.next v).length→gb out (gi (gl x.next v) j).toNat=true→P v (gi (gl x.next v) j)=true){v:Nat}(hv:v<n):gb out v=true↔Att (pgL x) who (inD n inn) (fun v=>gb goal v=true) v:=by
 refine⟨h.sound v hv,fun⟨k,hk⟩=> ?_⟩
 have key: ∀k v,v<n→qh (pgL x) who (inD n inn) (fun v=>gb goal v=true) k v→gb out v=true:=by
  intro k
  induction k with
  |zero=>exact fun v hv hk=>h.base v hv hk.1.2 hk.2
  |succ k ih=>
   intro v hv hk
   rcases hk with hk|⟨hD,hk⟩
   ·exact ih v hv hk
   ·cases hb:gb out v
    ·exfalso
     rcases hk with⟨ho,u,he,hu⟩|⟨ho,⟨u,he,hud⟩,ha⟩
     ·have hun:=JZ hx v u he
      have hub:=ih u hun hu
      have huD:=hu.inD
      obtain⟨-,j,hj,e1,e2⟩:=he
      rw [Qr hx hv]at ho
      have h6:=h.own v hv hD.2 hb ho j hj e2 (by rw [e1];exact huD.2)
      have h7:=hP v hv j hj (by rw [e1];exact hub)
      rw [h6]at h7;cases h7
     ·rw [Qr hx hv]at ho
      have hz:qI x inn v (P v) (gl x.next v).length=0:=by
       have hall: ∀j,j<(gl x.next v).length→gb inn (gi (gl x.next v) j).toNat=true→edB x v (gi (gl x.next v) j)=true→P v (gi (gl x.next v) j)=true:=fun j hj a b=>by
        have hto:=hx.to v hv j hj
        have hE:(pgL x).E v (gi (gl x.next v) j).toNat:=⟨by rw [hx.ho];exact hv,j,hj,rfl,b⟩
        exact hP v hv j hj (ih _ (by omega) (ha _ hE ⟨by omega,a⟩))
       have : ∀m,m≤(gl x.next v).length→qI x inn v (P v) m=0:=by
        intro m
        induction m with
        |zero=>intro _;rfl
        |succ m ihm=>
         intro hm
         unfold qI
         rw [ihm (by omega),if_neg]
         intro hc
         simp only [Bool.and_eq_true,Bool.not_eq_true']at hc
         have :=hall m (by omega) hc.1.1 hc.1.2
         rw [this]at hc
         cases hc.2
       exact this _ (Nat.le_refl _)
      have hc:=h.cnt v hv hD.2 hb
      rw [hz]at hc
      obtain⟨-,j,hj,e1,e2⟩:=he
      have hE:(pgL x).E v u:=⟨by rw [hx.ho];exact hv,j,hj,e1,e2⟩
      have hub:=ih u hud.1 (ha u hE hud)
      exact h.opp v hv hD.2 hb ho ⟨j,hj,e2,by rw [e1];exact hud.2,hP v hv j hj (by rw [e1];exact hub)⟩ hc
    ·rfl
 exact key k v hv hk
open Classical in
noncomputable def yX (x:L7)(n:Nat)(inn:List Bool)(who:Int)(goal:List Bool):List Bool:=(List.range n).map fun v=>decide (Att (pgL x) who (inD n inn) (fun v=>gb goal v=true) v)
theorem wC (x:L7)(n:Nat)(inn:List Bool)(who:Int)(goal:List Bool):(yX x n inn who goal).length=n:=by simp [yX]
open Classical in
theorem Yx {v:Nat}(hv:v<n):gb (yX x n inn who goal) v=true↔Att (pgL x) who (inD n inn) (fun v=>gb goal v=true) v:=by
 unfold yX
 rw [jd hv]
 exact decide_eq_true_iff
theorem wY {a b:List Bool}(hl:a.length=b.length)(h: ∀v,v<a.length→gb a v=gb b v):a=b:=by
 refine List.ext_getElem? fun i=> ?_
 by_cases hi:i<a.length
 ·rw [zGt hi,zGt (by omega),h i hi]
 ·rw [List.getElem?_eq_none (by omega),List.getElem?_eq_none (by omega)]
theorem AtI.result (hx:x.Ok n)(h:AtI x n inn who goal out left queue P)(hP: ∀v,v<n→∀j,j<(gl x.next v).length→gb out (gi (gl x.next v) j).toNat=true→P v (gi (gl x.next v) j)=true):out=yX x n inn who goal:=by
 refine wY (by rw [wC];exact h.lo) fun v hv=> ?_
 rw [h.lo]at hv
 rw [Bool.eq_iff_iff,h.done hx hP hv,Yx hv]
structure At0 (x:L7)(n:Nat)(inn goal:List Bool)(k:Nat)(out:List Bool)(left queue:List Int):Prop where
 lo:out.length=n
 ll:left.length=n
 lq:queue.length≤k
 qrg: ∀i,i<queue.length→0≤gi queue i∧gi queue i<k
 qnd: ∀i j,i<j→j<queue.length→gi queue i≠gi queue j
 qout: ∀v,v<n→(gb out v=true↔∃i,i<queue.length∧gi queue i=v)
 outs: ∀v,v<n→gb out v=(decide (v<k)&&(gb inn v&&gb goal v))
 lef: ∀v,v<k→gb inn v=true→gi left v=ve x inn v
theorem At0.start (n:Nat)(inn goal:List Bool):At0 x n inn goal 0 (List.replicate n false) (List.replicate n 0) []:=by
 have h0: ∀v,gb (List.replicate n false) v=false:=fun v=>by
  unfold gb
  rw [List.getD_eq_getElem?_getD,List.getElem?_replicate]
  split<;>rfl
 refine⟨by simp,by simp,by simp,fun i hi=>(by simp at hi),fun i j _ hj=>(by simp at hj),fun v _=> ?_,fun v _=>(by rw [h0];rfl),fun v hv=>(by omega)⟩
 rw [h0]
 exact⟨fun h=>(by cases h),fun⟨i,hi,_⟩=>(by simp at hi)⟩
theorem At0.inv (hx:x.Ok n)(h:At0 x n inn goal n out left queue):AtI x n inn who goal out left queue (fun _ _=>false):=by
 refine⟨h.lo,h.ll,h.qrg,h.qnd,h.qout,fun v hv hb=> ?_,fun v hv a b=> ?_,fun v hv _ _ _ j _ _ _=>rfl,fun v hv _ _ _ ⟨j,_,_,_,hf⟩=>(by cases hf),fun v hv a b=> ?_,fun v hv j hj hf=>(by cases hf)⟩
 ·rw [h.outs v hv,Bool.and_eq_true,Bool.and_eq_true]at hb
  exact Att.base ⟨hv,hb.2.1⟩ hb.2.2
 ·rw [h.outs v hv,decide_eq_true hv,a,b];rfl
 ·rw [h.lef v hv a]
  exact(WU x inn v _ fun _ _=>rfl).symm
end
end Go.Proofs.YthepmdkpbjfdcaaGreat
