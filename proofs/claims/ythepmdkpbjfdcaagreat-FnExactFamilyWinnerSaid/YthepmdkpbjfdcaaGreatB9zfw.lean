/- The program's recursive solver: what it computes, plain. -/
import Derived.Test.YthepmdkpbjfdcaaGreatB8zfw
import Derived.Test.YthepmdkpbjfdcaaGreatGDzfw
import Derived.Test.YthepmdkpbjfdcaaGreatB6zfw
import Derived.Test.YthepmdkpbjfdcaaGreatGEzfw
namespace Go.Proofs.YthepmdkpbjfdcaaGreat
open Go.RowKit
set_option linter.unusedVariables false
set_option linter.unusedSimpArgs false
noncomputable def wiB (x:L7)(n:Nat)(M:List Bool)(who:Int)(v:Nat):Bool:=gb M v&&(gb (yU x n (n+1) M) v==(who==0))
noncomputable def wiM (x:L7)(n:Nat)(M:List Bool)(who:Int):List Bool:=yY n (wiB x n M who)
theorem Qx (x:L7)(n:Nat)(M:List Bool)(who:Int):(wiM x n M who).length=n:=qj _ _
structure WnI (x:L7)(n:Nat)(M:List Bool)(who:Int)(now:List Bool):Prop where
 len:now.length=n
 sub: ∀v,inD n now v→inD n M v
 live:va (pgL x) (inD n now)
 whoW: ∀U m,xv (pgL x) who (inD n now) U m→xv (pgL x) who (inD n M) U m
 oppW: ∀U m,xv (pgL x) (1 - who) (inD n now) U m→∃s,xv (pgL x) (1 - who) (inD n M) (fun v=>U v∨(inD n M v∧¬inD n now v)) s
section
variable {x:L7} {n:Nat}
theorem WnI.start {M:List Bool}{who:Int}(hM:M.length=n)(hl:va (pgL x) (inD n M)):WnI x n M who M:=
 ⟨hM,fun v h=>h,hl,fun U m h=>h,fun U m h=>⟨m,yN h (fun v=>Iff.rfl) fun v=>⟨fun h=> .inl h,fun h=>h.resolve_right fun h2=>h2.2 h2.1⟩⟩⟩
theorem kw (hx:x.Ok n){M:List Bool}(hM:M.length=n)(hl:va (pgL x) (inD n M)){who:Int}(hw:who=0∨who=1):
  (∃s,xv (pgL x) who (inD n M) (fun v=>inD n M v∧gb (yU x n (n+1) M) v=(who==0)) s)∧∃s,xv (pgL x) (1 - who) (inD n M) (fun v=>inD n M v∧gb (yU x n (n+1) M) v= !(who==0)) s:=by
 obtain⟨h0,h1⟩:=kv hx (n+1) M hM (Nat.lt_succ_of_le (VM _ _)) hl
 rcases hw with rfl|rfl
 ·exact⟨h0,h1⟩
 ·exact⟨h1,h0⟩
theorem zC0 (hx:x.Ok n){M:List Bool}(hM:M.length=n)(hl:va (pgL x) (inD n M)){who:Int}(hw:who=0∨who=1){U:Nat→Prop}{s t:Nat→Nat}
  (h1:xv (pgL x) who (inD n M) U s) (h2:xv (pgL x) (1 - who) (inD n M) (fun v=>inD n M v∧¬U v) t) {v:Nat} (hv:inD n M v):wiB x n M who v=true↔U v:=by
 obtain⟨⟨a,ha⟩,⟨b,hb⟩⟩:=kw hx hM hl hw
 have key: ∀{A B:Nat→Prop} {c d:Nat→Nat},xv (pgL x) who (inD n M) A c→xv (pgL x) (1 - who) (inD n M) B d→A v→B v→False:=fun{A B c d} p q e f=>by
  rcases hw with rfl|rfl
  ·exact WC (fun v h=>h.1) (Vl hx) p q v e f
  ·exact WC (fun v h=>h.1) (Vl hx) q p v f e
 unfold wiB
 rw [hv.2,Bool.true_and,beq_iff_eq]
 constructor
 ·intro h
  exact Classical.byContradiction fun hn=>key ha h2 ⟨hv,h⟩ ⟨hv,hn⟩
 ·intro h
  cases hc:gb (yU x n (n+1) M) v==(who==0)
  ·exfalso
   refine key h1 hb h ⟨hv,?_⟩
   have h9: ¬gb (yU x n (n+1) M) v=(who==0):=fun e=>by rw [beq_iff_eq.2 e]at hc;cases hc
   cases hq:gb (yU x n (n+1) M) v<;>cases hq2:(who==0)<;>first|rfl|(exfalso;rw [hq,hq2]at h9;exact h9 rfl)
  ·exact beq_iff_eq.1 hc
theorem zG8 (hx:x.Ok n){M:List Bool}(hM:M.length=n)(hl:va (pgL x) (inD n M)){who:Int}(hw:who=0∨who=1){now:List Bool}(hn:now.length=n)(hsub: ∀v,inD n now v→inD n M v){s t:Nat→Nat}
  (h1:xv (pgL x) who (inD n M) (inD n now) s) (h2:xv (pgL x) (1 - who) (inD n M) (fun v=>inD n M v∧¬inD n now v) t):now=wiM x n M who:=by
 refine wY (by rw [Qx];exact hn) fun v hv=> ?_
 rw [hn]at hv
 unfold wiM
 rw [yS hv,Bool.eq_iff_iff]
 constructor
 ·intro h
  exact(zC0 hx hM hl hw h1 h2 (hsub v ⟨hv,h⟩)).2 ⟨hv,h⟩
 ·intro h
  have h5:=h
  unfold wiB at h5
  rw [Bool.and_eq_true]at h5
  exact((zC0 hx hM hl hw h1 h2 ⟨hv,h5.1⟩).1 h).2
theorem WnI.rest {M:List Bool}{who:Int}{now goal:List Bool}(hx:x.Ok n)(h:WnI x n M who now):(yJ now (yX x n now who goal)).length=n∧va (pgL x) (inD n (yJ now (yX x n now who goal))):=by
 refine⟨by rw [xf];exact h.len,?_⟩
 have :=Xo (who:=who) (goal:=fun v=>gb goal v=true) (JZ hx) h.live
 rw [show inD n (yJ now (yX x n now who goal))=_ from funext fun v=>propext (Qu h.len v)]
 exact this
theorem WnI.all {M:List Bool}{who:Int}{now goal lost:List Bool}{top:Int}(hx:x.Ok n)(hM:M.length=n)(hl:va (pgL x) (inD n M))(h:WnI x n M who now)(ht:0≤top)(hwho:top%2=who)(htop: ∀v,inD n M v→gi x.prio v≤top)
  (hgoal:goal=yY n (xF x now top)) {rest:List Bool} (hrest:rest=yJ now (yX x n now who goal)) (hlost: ∀v,v<n→gb lost v=yP rest (yU x n (n+1) rest) who v) (hno: ∀v,v<n→gb lost v=false):now=wiM x n M who:=by
 have hw:who=0∨who=1:=by omega
 obtain⟨hrl,hrv⟩:=h.rest (goal:=goal) hx
 rw [←hrest]at hrl hrv
 obtain⟨⟨s,hs⟩,-⟩:=kw hx hrl hrv hw
 have hD: ∀v,inD n rest v↔inD n now v∧¬Att (pgL x) who (inD n now) (fun v=>(pgL x).pr v=top.toNat) v:=fun v=>by
  rw [hrest,Qu h.len v]
  have :Att (pgL x) who (inD n now) (fun v=>gb goal v=true) v↔Att (pgL x) who (inD n now) (fun v=>(pgL x).pr v=top.toNat) v:=XO (fun u hu=>by
   rw [hgoal,yS hu.1]
   unfold xF
   rw [hu.2,Bool.true_and,beq_iff_eq]
   have :=hx.pr u hu.1
   show _↔(gi x.prio u).toNat=top.toNat
   omega) v
  rw [this]
 have hall: ∀v,inD n rest v→gb (yU x n (n+1) rest) v=(who==0):=fun v hv=>by
  have h1:=hno v hv.1
  rw [hlost v hv.1]at h1
  unfold yP at h1
  rw [hv.2,Bool.true_and]at h1
  cases hq:gb (yU x n (n+1) rest) v<;>cases hq2:(who==0)<;>first|rfl|(exfalso;rw [hq,hq2]at h1;cases h1)
 obtain⟨s',hs'⟩:=zC2 (g:=pgL x) (who:=who) (D:=inD n now) (top:=top.toNat) (JZ hx) h.live (fun v hv=>by
  have :=htop v (h.sub v hv)
  show(gi x.prio v).toNat≤top.toNat
  omega) (by omega) (s:=s) (yN hs hD fun v=>⟨fun h5=>(hD v).1 h5.1,fun h5=>⟨(hD v).2 h5,hall v ((hD v).2 h5)⟩⟩)
 obtain⟨t0,ht0⟩:=wM (pgL x) (1 - who) (inD n now) (fun _=>False) (fun v h=>h)
 obtain⟨t,ht1⟩:=h.oppW _ _ ht0
 exact zG8 hx hM hl hw h.len h.sub (h.whoW _ _ hs') (yN ht1 (fun v=>Iff.rfl) fun v=>⟨fun h5=>h5.resolve_left id,fun h5=> .inr h5⟩)
theorem WnI.none {M:List Bool}{who:Int}{now:List Bool}(hx:x.Ok n)(hM:M.length=n)(hl:va (pgL x) (inD n M))(hw:who=0∨who=1)(h:WnI x n M who now)(hno: ∀v,v<n→gb now v=false):now=wiM x n M who:=by
 have hn: ∀v,¬inD n now v:=fun v hv=>by rw [inD,hno v hv.1]at hv;cases hv.2
 obtain⟨t0,ht0⟩:=wM (pgL x) (1 - who) (inD n now) (fun _=>False) (fun v h=>h)
 obtain⟨t,ht1⟩:=h.oppW _ _ ht0
 obtain⟨s,hs⟩:=wM (pgL x) who (inD n M) (inD n now) hn
 exact zG8 hx hM hl hw h.len h.sub hs (yN ht1 (fun v=>Iff.rfl) fun v=>⟨fun h5=>h5.resolve_left id,fun h5=> .inr h5⟩)
theorem WnI.next {M:List Bool}{who:Int}{now goal lost:List Bool}(hx:x.Ok n)(hw:who=0∨who=1)(h:WnI x n M who now){rest:List Bool}(hrest:rest=yJ now (yX x n now who goal))(hlost: ∀v,v<n→gb lost v=yP rest (yU x n (n+1) rest) who v):WnI x n M who (yJ now (yX x n now (1 - who) lost)):=by
 obtain⟨hrl,hrv⟩:=h.rest (goal:=goal) hx
 rw [←hrest]at hrl hrv
 obtain⟨-,⟨s,hs⟩⟩:=kw hx hrl hrv hw
 have ho2: ∀v,(pgL x).own v=who∨(pgL x).own v=1 - who:=fun v=>by have :=Vl hx v;omega
 have hL: ∀v,inD n rest v∧gb (yU x n (n+1) rest) v=(!(who==0))↔v<n∧gb lost v=true:=fun v=>by
  constructor
  ·rintro⟨⟨a,b⟩,c⟩
   refine⟨a,?_⟩
   rw [hlost v a]
   unfold yP
   rw [b,c]
   cases(who==0)<;>rfl
  ·rintro⟨a,b⟩
   rw [hlost v a]at b
   unfold yP at b
   rw [Bool.and_eq_true]at b
   refine⟨⟨a,b.1⟩,?_⟩
   have :=b.2
   cases hq:gb (yU x n (n+1) rest) v<;>cases hq2:(who==0)<;>first|rfl|(rw [hq,hq2]at this;cases this)
 have hcg: ∀v,Att (pgL x) (1 - who) (inD n now) (fun v=>gb lost v=true) v↔Att (pgL x) (1 - who) (inD n now) (fun v=>v<n∧gb lost v=true) v:=XO fun v hv=>⟨fun e=>⟨hv.1,e⟩,fun e=>e.2⟩
 have hD: ∀v,inD n (yJ now (yX x n now (1 - who) lost)) v↔inD n now v∧¬Att (pgL x) (1 - who) (inD n now) (fun v=>v<n∧gb lost v=true) v:=fun v=>by rw [Qu h.len v,hcg v]
 refine⟨by rw [xf];exact h.len,fun v hv=>h.sub v ((hD v).1 hv).1,?_,fun U m hU=> ?_,fun U m hU=> ?_⟩
 ·have :=Xo (who:=1 - who) (goal:=fun v=>v<n∧gb lost v=true) (JZ hx) h.live
  rw [show inD n (yJ now (yX x n now (1 - who) lost))=_ from funext fun v=>propext (hD v)]
  exact this
 ·exact h.whoW U m (ky ho2 (yN hU hD fun v=>Iff.rfl))
 ·obtain⟨s',hs'⟩:=kx (g:=pgL x) (who:=who) (opp:=1 - who) (D:=inD n now) (goal:=fun v=>gb goal v=true) ho2 (by omega) (L:=fun v=>v<n∧gb lost v=true) (M:=U) (s:=s) (m:=m) (yN hs (fun v=>by rw [hrest];exact Qu h.len v) hL) (yN hU hD fun v=>Iff.rfl)
  obtain⟨t,ht⟩:=h.oppW _ _ hs'
  refine⟨t,yN ht (fun v=>Iff.rfl) fun v=> ?_⟩
  constructor
  ·rintro((h5|h5)|⟨h5,h6⟩)
   ·exact .inl h5
   ·exact .inr ⟨h.sub v h5.inD,fun h7=>((hD v).1 h7).2 h5⟩
   ·exact .inr ⟨h5,fun h7=>h6 ((hD v).1 h7).1⟩
  ·rintro(h5|⟨h5,h6⟩)
   ·exact .inl (.inl h5)
   ·by_cases h7:inD n now v
    ·exact .inl (.inr (Classical.byContradiction fun h8=>h6 ((hD v).2 ⟨h7,h8⟩)))
    ·exact .inr ⟨h5,h7⟩
theorem zEp {rest:List Bool}{who:Int}{v:Nat}(hl:rest.length=n)(hv:v<n):gb (yJ rest (wiM x n rest who)) v=yP rest (yU x n (n+1) rest) who v:=by
 rw [qS (by omega)]
 unfold wiM yP
 rw [yS hv]
 unfold wiB
 cases gb rest v<;>cases gb (yU x n (n+1) rest) v<;>cases(who==0)<;>rfl
theorem zDZ {rest:List Bool}{who:Int}{v:Nat}(hw:who=0∨who=1)(hv:v<n):gb (wiM x n rest (1 - who)) v=yP rest (yU x n (n+1) rest) who v:=by
 unfold wiM yP
 rw [yS hv]
 unfold wiB
 rcases hw with rfl|rfl<;>cases gb rest v<;>cases gb (yU x n (n+1) rest) v<;>rfl
theorem WnI.lt {M:List Bool}{who:Int}{now lost goal rest:List Bool}(h:WnI x n M who now)(hrest:rest=yJ now (yX x n now who goal))(hlost: ∀v,v<n→gb lost v=yP rest (yU x n (n+1) rest) who v)(hsome: ∃v,v<n∧gb lost v=true):yk (yJ now (yX x n now (1 - who) lost)) n<yk now n:=by
 obtain⟨v,hv,h1⟩:=hsome
 refine XH h.len hv ?_ h1
 rw [hlost v hv]at h1
 unfold yP at h1
 rw [Bool.and_eq_true,hrest,qS (by rw [h.len];exact hv),Bool.and_eq_true]at h1
 exact h1.1.1
end
def yd (l:List Bool):Nat→List Int
 |0=> []
 |k+1=>if gb l k then yd l k++ [(k:Int)]else yd l k
theorem VU {l:List Bool}{k:Nat}(h:gb l k=true):yd l (k+1)=yd l k++ [(k:Int)]:=by
 show(if _ then _ else _)=_;rw [if_pos h]
theorem Qi {l:List Bool}{k:Nat}(h:gb l k=false):yd l (k+1)=yd l k:=by
 show(if _ then _ else _)=_;rw [if_neg (by rw [h];exact Bool.false_ne_true)]
theorem wI {l:List Bool}{y:Int}: ∀{k:Nat},y∈yd l k↔∃v:Nat,v<k∧gb l v=true∧y=v
 |0=>⟨fun h=>(by cases h),fun⟨v,h,_⟩=>absurd h (Nat.not_lt_zero _)⟩
 |k+1=>by
  cases hk:gb l k
  ·rw [Qi hk,wI]
   constructor
   ·rintro⟨v,a,b,c⟩;exact⟨v,by omega,b,c⟩
   ·rintro⟨v,a,b,c⟩
    by_cases e:v=k
    ·rw [e,hk]at b;cases b
    ·exact⟨v,by omega,b,c⟩
  ·rw [VU hk,List.mem_append,wI]
   constructor
   ·rintro(⟨v,a,b,c⟩|h)
    ·exact⟨v,by omega,b,c⟩
    ·exact⟨k,by omega,hk,by simpa using h⟩
   ·rintro⟨v,a,b,c⟩
    by_cases e:v=k
    ·right;rw [c,e];simp
    ·exact .inl ⟨v,by omega,b,c⟩
theorem wH (l:List Bool): ∀k,(yd l k).length≤k
 |0=>Nat.le_refl _
 |k+1=>by
  have :=wH l k
  cases hk:gb l k
  ·rw [Qi hk];omega
  ·rw [VU hk,List.length_append];simp;omega
theorem kU (l:List Bool): ∀k,(yd l k).Pairwise (· < ·)
 |0=>List.Pairwise.nil
 |k+1=>by
  cases hk:gb l k
  ·rw [Qi hk];exact kU l k
  ·rw [VU hk,List.pairwise_append]
   refine⟨kU l k,List.pairwise_singleton _ _,fun a ha b hb=> ?_⟩
   obtain⟨v,h1,-,h3⟩:=wI.1 ha
   rw [List.mem_singleton.1 hb,h3];omega
theorem Yz {l:List Bool}{k i:Nat}(h:i<(yd l k).length):0≤gi (yd l k) i∧gi (yd l k) i<k∧gb l (gi (yd l k) i).toNat=true:=by
 obtain⟨v,a,b,c⟩:=wI.1 (Qg h)
 rw [c]
 exact⟨by omega,by omega,by rw [Int.toNat_natCast];exact b⟩
section
variable {x:L7} {n:Nat} {inn goal out:List Bool} {who:Int} {lc Lf Q:List Int} {P P':Nat→Int→Bool}
theorem zAY {v:Nat}{p:Int→Bool}: ∀{k:Nat},(∃j,j<k∧gb inn (gi (gl x.next v) j).toNat=true∧edB x v (gi (gl x.next v) j)=true∧p (gi (gl x.next v) j)=false)→1≤qI x inn v p k
 |0,⟨j,h,_⟩=>absurd h (Nat.not_lt_zero _)
 |k+1,⟨j,hj,h1,h2,h3⟩=>by
  have hn:=JL x inn v p k
  unfold qI
  by_cases e:j=k
  ·subst e
   rw [h1,h2,h3]
   simp
   omega
  ·have :=zAY ⟨j,by omega,h1,h2,h3⟩ (k:=k)
   split<;>omega
theorem kM (hx:x.Ok n){v:Nat}(hv:v<n):0≤ve x inn v∧ve x inn v≤256:=by
 have :=JK x inn v (gl x.next v).length
 have :=hx.deg v hv
 unfold ve
 omega
structure PuI (x:L7)(n:Nat)(inn:List Bool)(who:Int)(goal out:List Bool)(lc Lf Q:List Int)(P:Nat→Int→Bool):Prop where
 at_:AtI x n inn who goal out Lf Q P
 len:lc.length=n
 rg: ∀v,v<n→0≤gi lc v∧gi lc v≤256
 lcv: ∀v,v<n→gb inn v=true→gb out v=false→¬gi x.owner v=who→(gi lc v=0∧gi Lf v=ve x inn v)∨(¬gi lc v=0∧gi Lf v=gi lc v)
theorem PuI.start (hx:x.Ok n)(hg:goal.length=n)(hsub: ∀v,v<n→gb goal v=true→gb inn v=true):
  PuI x n inn who goal goal (List.replicate n 0) ((List.range n).map fun v=>ve x inn v) (yd goal n) (fun _ _=>false):=by
 have hgiL: ∀v,v<n→gi ((List.range n).map fun v=>ve x inn v) v=ve x inn v:=fun v hv=>by
  unfold gi
  rw [List.getD_eq_getElem?_getD,List.getElem?_map,List.getElem?_range hv]
  rfl
 refine⟨⟨hg,by simp,fun i hi=> ?_,fun i j hij hj=> ?_,fun v hv=> ?_,fun v hv hb=> .base ⟨hv,hsub v hv hb⟩ hb,fun v hv _ hb=>hb,fun v hv _ _ _ j _ _ _=>rfl,fun v hv _ _ _ ⟨j,_,_,_,hf⟩=>(by cases hf),fun v hv a b=> ?_,fun v hv j hj hf=>(by cases hf)⟩,by simp,fun v hv=> ?_,fun v hv a b c=> ?_⟩
 ·have :=Yz hi;omega
 ·have h1:=List.pairwise_iff_getElem.1 (kU goal n) i j (by omega) hj hij
  unfold gi
  rw [List.getD_eq_getElem?_getD,List.getD_eq_getElem?_getD,List.getElem?_eq_getElem (by omega),List.getElem?_eq_getElem hj]
  simp only [Option.getD_some]
  omega
 ·constructor
  ·intro hb
   obtain⟨i,hi⟩:=List.getElem?_of_mem (wI.2 ⟨v,hv,hb,rfl⟩:(v:Int)∈yd goal n)
   have hl:=(List.getElem?_eq_some_iff.1 hi).1
   refine⟨i,hl,?_⟩
   have :=vC hl
   rw [hi]at this
   exact(Option.some.inj this).symm
  ·rintro⟨i,hi,e⟩
   have :=(Yz hi).2.2
   rw [e,Int.toNat_natCast]at this
   exact this
 ·rw [hgiL v hv]
  exact(WU x inn v _ fun _ _=>rfl).symm
 ·have :gi (List.replicate n 0) v=0:=jT hv
  omega
 ·exact .inl ⟨jT hv,hgiL v hv⟩
theorem PuI.cong (h:PuI x n inn who goal out lc Lf Q P)(h2:AtI x n inn who goal out Lf Q P'):PuI x n inn who goal out lc Lf Q P':=⟨h2,h.len,h.rg,h.lcv⟩
theorem PuI.skip (h:PuI x n inn who goal out lc Lf Q P){v0:Nat}(hv0:v0<n){u0:Int}(hu0:gb out u0.toNat=true)(hs:gb inn v0=false∨gb out v0=true∨edB x v0 u0=false)
  (hQ: ∀v u,P' v u=(P v u||(decide (v=v0)&&decide (u=u0)))):PuI x n inn who goal out lc Lf Q P':=h.cong (h.at_.skip hv0 hu0 hs hQ)
def vL (x:L7)(inn:List Bool)(lc:List Int)(v:Nat):Int:=if gi lc v=0 then ve x inn v else gi lc v
theorem PuI.step (hx:x.Ok n)(h:PuI x n inn who goal out lc Lf Q P){v0:Nat}(hv0:v0<n){u0:Int}(hu:0≤u0∧u0<n)(hu0:gb out u0.toNat=true)(hui:gb inn u0.toNat=true)(h1:gb inn v0=true)(h2:gb out v0=false)(h3:edB x v0 u0=true)
  (hj: ∃j,j<(gl x.next v0).length∧gi (gl x.next v0) j=u0) (hP:P v0 u0=false) (hQ: ∀v u,P' v u=(P v u||(decide (v=v0)&&decide (u=u0)))):
  (gi x.owner v0=who→PuI x n inn who goal (out.set v0 true) lc (Lf.set v0 (gi Lf v0 - 1)) (Q++ [(v0:Int)]) P')∧
  (¬gi x.owner v0=who→(1≤vL x inn lc v0∧vL x inn lc v0≤256)∧
   (0<vL x inn lc v0 - 1→PuI x n inn who goal out (lc.set v0 (vL x inn lc v0 - 1)) (Lf.set v0 (gi Lf v0 - 1)) Q P')∧
   (¬0<vL x inn lc v0 - 1→PuI x n inn who goal (out.set v0 true) (lc.set v0 (vL x inn lc v0 - 1)) (Lf.set v0 (gi Lf v0 - 1)) (Q++ [(v0:Int)]) P')):=by
 have hst:=AtI.step hx h.at_ hv0 hu hu0 hui h1 h2 h3 hj hP hQ
 have hlo:v0<out.length:=by rw [h.at_.lo];exact hv0
 have hll:v0<Lf.length:=by rw [h.at_.ll];exact hv0
 have hlc:v0<lc.length:=by rw [h.len];exact hv0
 have hdown: ∀v,gb (out.set v0 true) v=false→v≠v0∧gb out v=false:=fun v hv=>by
  rw [ZN hlo]at hv
  split at hv
  ·cases hv
  ·rename_i e;exact⟨e,hv⟩
 refine⟨fun ho=>⟨hst.2 (.inl ho),h.len,h.rg,fun v hv a b c=> ?_⟩,fun ho=> ?_⟩
 ·obtain⟨b1,b2⟩:=hdown v b
  rw [qN hll,if_neg b1]
  exact h.lcv v hv a b2 c
 ·have hm:gi Lf v0=vL x inn lc v0:=by
   unfold vL
   rcases h.lcv v0 hv0 h1 h2 ho with⟨a,b⟩|⟨a,b⟩
   ·rw [if_pos a];exact b
   ·rw [if_neg a];exact b
  have hpos:1≤gi Lf v0:=by
   rw [h.at_.cnt v0 hv0 h1 h2]
   obtain⟨j,a,b⟩:=hj
   exact zAY ⟨j,a,by rw [b];exact hui,by rw [b];exact h3,by rw [b];exact hP⟩
  have hle:vL x inn lc v0≤256:=by
   unfold vL
   split
   ·exact(kM hx hv0).2
   ·exact(h.rg v0 hv0).2
  rw [hm]at hpos hst⊢
  have hrg: ∀v,v<n→0≤gi (lc.set v0 (vL x inn lc v0 - 1)) v∧gi (lc.set v0 (vL x inn lc v0 - 1)) v≤256:=fun v hv=>by
   rw [qN hlc]
   split
   ·omega
   ·exact h.rg v hv
  refine⟨⟨hpos,hle⟩,fun hp=>⟨hst.1 (fun e=> ?_),by rw [List.length_set];exact h.len,hrg,fun v hv a b c=> ?_⟩,fun hp=>⟨hst.2 (.inr (by omega)),by rw [List.length_set];exact h.len,hrg,fun v hv a b c=> ?_⟩⟩
  ·rcases e with e|e
   ·exact ho e
   ·omega
  ·rw [qN hll,qN hlc]
   by_cases ev:v=v0
   ·rw [if_pos ev,if_pos ev]
    exact .inr ⟨by omega,rfl⟩
   ·rw [if_neg ev,if_neg ev]
    exact h.lcv v hv a b c
  ·obtain⟨b1,b2⟩:=hdown v b
   rw [qN hll,qN hlc,if_neg b1,if_neg b1]
   exact h.lcv v hv a b2 c
end
structure QdI (Q:List Int)(i:Nat)(qd:List Int)(o:Nat):Prop where
 drop:qd.drop o=Q.drop i
 lo:o≤i
 li:i≤Q.length
 oq:o≤qd.length
theorem QdI.start (Q:List Int):QdI Q 0 Q 0:=⟨rfl,by omega,by omega,by omega⟩
theorem QdI.len {Q qd:List Int}{i o:Nat}(h:QdI Q i qd o):o+(Q.length - i)=qd.length:=by
 have h1:=congrArg List.length h.drop
 rw [List.length_drop,List.length_drop]at h1
 have :=h.oq;have :=h.li
 omega
theorem QdI.head {Q qd:List Int}{i o:Nat}(h:QdI Q i qd o)(hi:i<Q.length):gi qd o=gi Q i:=by
 have h1:=congrArg (fun l=>l[0]?) h.drop
 simp only [List.getElem?_drop,Nat.add_zero]at h1
 unfold gi
 rw [List.getD_eq_getElem?_getD,List.getD_eq_getElem?_getD,h1]
theorem QdI.pop {Q qd:List Int}{i o:Nat}(h:QdI Q i qd o)(hi:i<Q.length):QdI Q (i+1) qd (o+1):=by
 have hl:=h.len
 refine⟨?_,by have :=h.lo;omega,by omega,by omega⟩
 have h1:=congrArg (List.drop 1) h.drop
 rwa [List.drop_drop,List.drop_drop]at h1
theorem QdI.push {Q qd ps:List Int}{i o:Nat}(h:QdI Q i qd o)(v:Int)(hp:ps= []∨ps=qd.take o):QdI (Q++ [v]) i (ps++(qd.drop o++ [v])) ps.length:=by
 have hle:ps.length≤o:=by
  rcases hp with rfl|rfl
  ·simp
  ·rw [List.length_take];omega
 refine⟨?_,by have :=h.lo;omega,by rw [List.length_append];have :=h.li;omega,by rw [List.length_append];omega⟩
 rw [List.drop_append_of_le_length (Nat.le_refl _),List.drop_length,List.nil_append,h.drop,List.drop_append_of_le_length h.li]
open Go Go.RowKit
def St.settleBA (al:List Nat)(ks:List CK)(b:Nat)(st:St):St:=
 match lk st.b b with
 |none=>st
 |some cells=>
  match lk (qR al ks st (zY b 0) [] cells).1.b b with
  |none=>st
  |some cells'=>if cells'.length=(qR al ks st (zY b 0) [] cells).2.length then(qR al ks st (zY b 0) [] cells).1.setB b (qR al ks st (zY b 0) [] cells).2 else st
theorem WM {P:Program}{τ:Ty}(al:List Nat)(ks:List CK)(b:Nat){c:Code}{Q:Exit→St→Prop}{st:St}(h:awp P τ c Q (st.settleBA al ks b)):awp P τ c Q st:=by
 unfold St.settleBA at h
 split at h
 ·exact h
 ·rename_i cells hl
  split at h
  ·exact h
  ·rename_i cells' hl'
   split at h
   ·rename_i hlen
    intro lo w0 a w hr
    obtain⟨ow,hd,bk,hrr⟩:=hr
    obtain⟨cs,ty,g1,g2,g3⟩:=hrr.box b cells hl
    obtain⟨ow1,hd1,r1,r2⟩:=Ym al ks st ow hd (zY b 0) [] cells [] cs hrr (by simp [zZ]) g3
    obtain⟨cs0,ty0,k1,k2,k3⟩:=r1.box b cells' hl'
    rw [List.nil_append]at r2
    have e0:cs0=cs:=by
     rw [g1]at k1
     simp only [Option.some.injEq,Obj.cells.injEq]at k1
     have :=k1.1
     simpa using this.symm
    subst e0
    have hrel:=Xc r1 hl' k1 (i:=0) (by omega) k3 r2
    rw [JT rfl,JT hlen.symm,setRow_self w _ _ _ _ k1]at hrel
    exact h lo w0 a w ⟨ow1,hd1,bk,hrel⟩
   ·exact h
attribute [push_cast] St.settleBA
open Nat renaming reduceMod → zA, reduceMul → zB, reduceDiv → zC, reduceAdd → zD, reduceSub → zE, reduceEqDiff → zF, reduceBEq → zG, reduceLT → zH, reduceLeDiff → zI
def mkS (n:Nat)(xs:List Int)(k:Nat):List Bool:=(List.range n).map fun(v:Nat)=>yD (xs.take k) (v:Int)
theorem vq (n:Nat)(xs:List Int)(k:Nat):(mkS n xs k).length=n:=by simp [mkS]
theorem zA6 {n:Nat}{xs:List Int}{k v:Nat}(h:v<n):gb (mkS n xs k) v=yD (xs.take k) (v:Int):=jd h
theorem mkS_0 (n:Nat)(xs:List Int):mkS n xs 0=List.replicate n false:=by
 refine List.ext_getElem (by simp [mkS]) fun j h1 h2=> ?_
 simp [mkS,yD,qJ]
theorem zH0 {n:Nat}{xs:List Int}{k:Nat}(hk:k<xs.length)(h:0≤gi xs k∧gi xs k<n):(mkS n xs k).set (gi xs k).toNat true=mkS n xs (k+1):=by
 refine wY (by rw [List.length_set,vq,vq]) fun v hv=> ?_
 rw [List.length_set,vq]at hv
 rw [ZN (by rw [vq];omega),zA6 (k:=k+1) hv,ZP hk]
 split
 ·rename_i e
  rw [decide_eq_true (by omega),Bool.or_true]
 ·rename_i e
  rw [zA6 hv,decide_eq_false (by omega),Bool.or_false]
theorem zGZ {P:List (List Int)}{u m:Nat}{r:List Int}(hu:u<P.length)(hm:r.length≤m):List.take u ((dII P).set u D.hole)++ [D.lst 2 (dI (List.take m r))]++List.drop (u+1) ((dII P).set u D.hole)=dII (P.set u r):=by
 have e:dII (P.set u r)=(dII P).set u (D.lst 2 (dI r)):=by unfold dII;rw [List.map_set]
 have hl:u<(dII P).length:=by rw [Qk];exact hu
 rw [e,List.take_of_length_le hm,List.take_set,List.set_eq_of_length_le (by simp;omega),List.drop_set_of_lt (by omega),List.set_eq_take_append_cons_drop,if_pos hl]
 simp
def ZE (k:Nat):List Int:=(List.range k).map fun(v:Nat)=>(v:Int)
theorem XS (k:Nat):(ZE k).length=k:=by simp [ZE]
theorem zJP (k:Nat):ZE (k+1)=ZE k++ [(k:Int)]:=by unfold ZE;rw [List.range_succ,List.map_append];rfl
set_option maxRecDepth 20000 in
set_option maxHeartbeats 4000000 in
theorem YT (l:List Bool)(hl:l.length≤1048576):Fn Tryz.prog tyT 162 [.c (.lst 4 (dB l))] [.c (DI (yd l l.length))]:=by
 refine zr (fn:=Tryz.f162) (ts:= [2]) Tryz.func162 (by kernel_rfl) rfl rfl (by rw [Tryz.ntmps162];exact Nat.le_of_ble_eq_true rfl) rfl (by simp only [szA,List.mem_cons,List.not_mem_nil,or_false,forall_eq_or_imp,forall_eq,VT.cells,szL];try decide) ?_
 rw [Tryz.ntmps162]
 push_cast
 refine zL fun K hK=> ?_
 refine zM zO zN [] rfl ?_
 push_cast
 repeat' apply And.intro
 all_goals try exact gB
 refine hK _ ?_;clear hK K
 refine zL fun K hK=> ?_
 refine zM zO zN [] rfl ?_
 push_cast
 repeat' apply And.intro
 all_goals try exact gB
 refine hK _ ?_;clear hK K
 refine zL fun K1 hK1=> ?_
 refine zL fun K hK=> ?_
 refine zM zO zN [] rfl ?_
 push_cast
 repeat' apply And.intro
 all_goals try exact gB
 refine hK _ ?_;clear hK K
 refine zV ?_
 refine zh [3,4,5,9,10,11,12,13,14,15,16,17,18,19] [48] (fun(k:Nat)=> [(9, .int .i64 k),(3, .sl 48 [] 0 (yd l k).length 2)]) (fun k=> []) (fun k=> [(48,⟨.ex,2,dI (yd l k),none⟩)]) (fun k=>k≤l.length) (fun k=>l.length - k) 0 ?_ (by omega) ?_
 ·
  rw [show yd l 0= []from rfl,show dI ([]:List Int)= []from rfl]
  refine zX rfl ?_ ?_ ?_<;>push_cast [zg,zf]
 ·rintro k hk KL0 hL0
  have hil:=wH l k
  push_cast
  refine zL fun K hK=> ?_
  refine zM zO zN [] rfl ?_
  push_cast
  repeat' apply And.intro
  all_goals try exact gB
  refine hK _ ?_;clear hK K
  refine zL fun K2 hK2=> ?_
  refine zT rfl (fun hc=> ?_) (fun hc=> ?_)<;>(try simp only [push_cast]at hc)
  ·
   refine zU ?_
   refine hK2 _ ?_
   refine zL fun K3 hK3=> ?_
   refine zV ?_
   refine zL fun K hK=> ?_
   refine zM zO zN [] rfl ?_
   push_cast
   repeat' apply And.intro
   all_goals try exact gB
   refine hK _ ?_;clear hK K
   refine zL fun K hK=> ?_
   refine zM zO zN [] rfl ?_
   push_cast
   repeat' apply And.intro
   all_goals try exact gB
   refine hK _ ?_;clear hK K
   all_goals refine zT rfl (fun hc=> ?_) (fun hc=> ?_)
   all_goals(first|(cases hc;done)|skip)
   all_goals(try simp only [push_cast]at hc)
   all_goals first
    |(
      refine zU ?_
      refine hK3 _ ?_
      refine zM zO zN [] rfl ?_
      push_cast
      repeat' apply And.intro
      all_goals try exact gB
      refine hL0 _ ⟨k+1,by omega,by omega,?_⟩
      rw [Qi (by with_reducible assumption)]
      refine zX rfl ?_ ?_ ?_<;>push_cast [zg,zf]
      done)
    |(
      refine zM zO zN [] rfl ?_
      push_cast
      repeat' apply And.intro
      all_goals try exact gB
      refine hK3 _ ?_
      refine zM zO zN [] rfl ?_
      push_cast
      repeat' apply And.intro
      all_goals try exact gB
      refine hL0 _ ⟨k+1,by omega,by omega,?_⟩
      (try rw [List.take_of_length_le (l:=yd l k) (by omega)])
      rw [VU (by with_reducible assumption)]
      simp only [List.length_append,List.length_cons,List.length_nil,Nat.zero_add]
      refine zX rfl ?_ ?_ ?_<;>push_cast [zg,zf]
      done)
  ·
   refine zi ?_
   have hkk:k=l.length:=by omega
   subst hkk
   refine hK1 _ ?_
   refine zL fun K hK=> ?_
   refine zM zO zN [] rfl ?_
   push_cast
   repeat' apply And.intro
   all_goals try exact gB
   refine hK _ ?_;clear hK K
   refine zW ?_
   refine⟨Or.inl rfl,?_⟩
   push_cast [za]
   all_goals first|rfl|exact⟨rfl,rfl⟩|(simp;done)
set_option maxRecDepth 20000 in
set_option maxHeartbeats 4000000 in
theorem zEr (a:Ar)(ha:a.Ln 1048576)(xs:List Int)(hx:xs.length≤1048576)(hr: ∀j,j<xs.length→0≤gi xs j∧gi xs j<a.owner.length):Fn Tryz.prog tyT 160 [.agg (dAr a), .c (DI xs)] [.c (.lst 4 (dB (mkS a.owner.length xs xs.length)))]:=by
 have h0:=ha.owner
 unfold LnI at h0
 unfold dAr
 refine zr (fn:=Tryz.f160) (ts:= [4]) Tryz.func160 (by kernel_rfl) rfl rfl (by rw [Tryz.ntmps160];exact Nat.le_of_ble_eq_true rfl) rfl (by simp only [szA,List.mem_cons,List.not_mem_nil,or_false,forall_eq_or_imp,forall_eq,VT.cells,szL];try decide) ?_
 rw [Tryz.ntmps160]
 push_cast
 refine zL fun K hK=> ?_
 refine zM zO zN [] rfl ?_
 push_cast
 repeat' apply And.intro
 all_goals try exact gB
 refine hK _ ?_;clear hK K
 refine zL fun K hK=> ?_
 refine zM zO zN [] rfl ?_
 push_cast
 repeat' apply And.intro
 all_goals try exact gB
 refine hK _ ?_;clear hK K
 refine zL fun K1 hK1=> ?_
 refine zL fun K hK=> ?_
 refine zM zO zN [] rfl ?_
 push_cast
 repeat' apply And.intro
 all_goals try exact gB
 refine hK _ ?_;clear hK K
 refine zV ?_
 refine zh [7,14,15,16,17,18,19,20,21] [80] (fun(k:Nat)=> [(14, .int .i64 k),(5, .sl 80 [] 0 a.owner.length 4)]) (fun k=> []) (fun k=> [(80,⟨.ex,4,dB (mkS a.owner.length xs k),none⟩)]) (fun k=>k≤xs.length) (fun k=>xs.length - k) 0 ?_ (by omega) ?_
 ·
  rw [mkS_0]
  refine zX rfl ?_ ?_ ?_<;>push_cast [zg,zf]
 ·rintro k hk KL0 hL0
  have hml:=vq a.owner.length xs k
  push_cast
  refine zL fun K hK=> ?_
  refine zM zO zN [] rfl ?_
  push_cast
  repeat' apply And.intro
  all_goals try exact gB
  refine hK _ ?_;clear hK K
  refine zL fun K2 hK2=> ?_
  refine zT rfl (fun hc=> ?_) (fun hc=> ?_)<;>(try simp only [push_cast]at hc)
  ·
   refine zU ?_
   refine hK2 _ ?_
   refine zL fun K3 hK3=> ?_
   refine zV ?_
   have hrk:=hr k (by omega)
   have hst:=zH0 (n:=a.owner.length) (xs:=xs) (k:=k) (by omega) hrk
   refine zL fun K hK=> ?_
   refine zM zO zN [] rfl ?_
   push_cast
   repeat' apply And.intro
   all_goals try exact gB
   refine hK _ ?_;clear hK K
   refine zM zO zN [] rfl ?_
   push_cast
   repeat' apply And.intro
   all_goals try exact gB
   refine hK3 _ ?_
   refine zM zO zN [] rfl ?_
   push_cast
   repeat' apply And.intro
   all_goals try exact gB
   refine hL0 _ ⟨k+1,by omega,by omega,?_⟩
   (try rw [hst])
   refine zX rfl ?_ ?_ ?_<;>push_cast [zg,zf]
   all_goals first|rfl|(rw [hst];done)|skip
  ·
   refine zi ?_
   have hkk:k=xs.length:=by omega
   subst hkk
   refine hK1 _ ?_
   refine zL fun K hK=> ?_
   refine zM zO zN [] rfl ?_
   push_cast
   repeat' apply And.intro
   all_goals try exact gB
   refine hK _ ?_;clear hK K
   refine zW ?_
   refine⟨Or.inl rfl,?_⟩
   push_cast [za]
   all_goals first|rfl|exact⟨rfl,(vq _ _ _).symm⟩|(simp [vq];done)
set_option maxRecDepth 20000 in
set_option maxHeartbeats 4000000 in
theorem wg (a b:List Bool)(ha:a.length≤1048576)(hb:b.length=a.length):Fn Tryz.prog tyT 163 [.c (.lst 4 (dB a)), .c (.lst 4 (dB b))] [.c (.lst 4 (dB (yJ a b)))]:=by
 refine zr (fn:=Tryz.f163) (ts:= [4]) Tryz.func163 (by kernel_rfl) rfl rfl (by rw [Tryz.ntmps163];exact Nat.le_of_ble_eq_true rfl) rfl (by simp only [szA,List.mem_cons,List.not_mem_nil,or_false,forall_eq_or_imp,forall_eq,VT.cells,szL];try decide) ?_
 rw [Tryz.ntmps163]
 push_cast
 refine zL fun K hK=> ?_
 refine zM zO zN [] rfl ?_
 push_cast
 repeat' apply And.intro
 all_goals try exact gB
 refine hK _ ?_;clear hK K
 refine zL fun K hK=> ?_
 refine zM zO zN [] rfl ?_
 push_cast
 repeat' apply And.intro
 all_goals try exact gB
 refine hK _ ?_;clear hK K
 refine zL fun K1 hK1=> ?_
 refine zL fun K hK=> ?_
 refine zM zO zN [] rfl ?_
 push_cast
 repeat' apply And.intro
 all_goals try exact gB
 refine hK _ ?_;clear hK K
 refine zV ?_
 refine zh [6,12,13,14,15,16,17,18,19,20,21,22,23,24,25,26,27,28,29] [80] (fun(k:Nat)=> [(12, .int .i64 k),(5, .sl 80 [] 0 a.length 4)]) (fun k=> []) (fun k=> [(80,⟨.ex,4,dB (mkB a.length (vD a b) k),none⟩)]) (fun k=>k≤a.length) (fun k=>a.length - k) 0 ?_ (by omega) ?_
 ·
  rw [Xp]
  refine zX rfl ?_ ?_ ?_<;>push_cast [zg,zf]
 ·rintro k hk KL0 hL0
  have hml:=wa (f:=vD a b) hk
  push_cast
  refine zL fun K hK=> ?_
  refine zM zO zN [] rfl ?_
  push_cast
  repeat' apply And.intro
  all_goals try exact gB
  refine hK _ ?_;clear hK K
  refine zL fun K2 hK2=> ?_
  refine zT rfl (fun hc=> ?_) (fun hc=> ?_)<;>(try simp only [push_cast]at hc)
  ·
   refine zU ?_
   refine hK2 _ ?_
   refine zL fun K3 hK3=> ?_
   refine zV ?_
   refine zL fun K hK=> ?_
   refine zM zO zN [] rfl ?_
   push_cast
   repeat' apply And.intro
   all_goals try exact gB
   refine hK _ ?_;clear hK K
   refine zj false zO zN ?_ rfl ?_
   ·kernel_rfl
   all_goals push_cast
   all_goals repeat'(first|(apply zP<;>(intro hg;push_cast at hg))|apply And.intro|(intro hg;push_cast at hg))
   all_goals try exact gA
   all_goals(
     refine hK3 _ ?_
     refine zM zO zN [] rfl ?_
     push_cast
     repeat' apply And.intro
     all_goals try exact gB
     refine hL0 _ ⟨k+1,by omega,by omega,?_⟩
     first|rw [show(mkB a.length (vD a b) k).set k (!gb b k)=mkB a.length (vD a b) (k+1)from by rw [←qO (by omega)];unfold vD;rw [show gb a k=true from by with_reducible assumption];rfl]|rw [show(mkB a.length (vD a b) k).set k false=mkB a.length (vD a b) (k+1)from by rw [←qO (by omega)];unfold vD;rw [show gb a k=false from by with_reducible assumption];rfl]
     refine zX rfl ?_ ?_ ?_<;>push_cast [zg,zf])
  ·
   refine zi ?_
   have hkk:k=a.length:=by omega
   subst hkk
   refine hK1 _ ?_
   refine zL fun K hK=> ?_
   refine zM zO zN [] rfl ?_
   push_cast
   repeat' apply And.intro
   all_goals try exact gB
   refine hK _ ?_;clear hK K
   refine zW ?_
   refine⟨Or.inl rfl,?_⟩
   push_cast [za]
   try rw [UZ]
   unfold yJ
   all_goals first|rfl|exact⟨rfl,by simp⟩|exact⟨by simp,rfl⟩|(simp;done)
set_option maxRecDepth 20000 in
set_option maxHeartbeats 4000000 in
theorem zFS (n:Nat)(hn:n≤256):Fn Tryz.prog tyT 164 [.c (.int .i64 n)] [.c (DI (ZE n))]:=by
 refine zr (fn:=Tryz.f164) (ts:= [2]) Tryz.func164 (by kernel_rfl) rfl rfl (by rw [Tryz.ntmps164];exact Nat.le_of_ble_eq_true rfl) rfl (by simp only [szA,List.mem_cons,List.not_mem_nil,or_false,forall_eq_or_imp,forall_eq,VT.cells,szL];try decide) ?_
 rw [Tryz.ntmps164]
 push_cast
 refine zL fun K hK=> ?_
 refine zM zO zN [] rfl ?_
 push_cast
 repeat' apply And.intro
 all_goals try exact gB
 refine hK _ ?_;clear hK K
 refine zL fun K1 hK1=> ?_
 refine zL fun K hK=> ?_
 refine zj false zO zN ?_ rfl ?_
 ·kernel_rfl
 all_goals push_cast
 all_goals repeat'(first|(apply zP<;>(intro hg;push_cast at hg))|apply And.intro|(intro hg;push_cast at hg))
 all_goals try exact gA
 refine hK _ ?_;clear hK K
 all_goals(
   refine zT rfl (fun hc=> ?_) (fun hc=> ?_)
   skip
   ·exfalso;first|(cases hc;done)|(simp only [push_cast]at hc;done)|(simp only [push_cast]at hc;omega)|omega
   refine zU ?_
   refine hK1 _ ?_
   refine zL fun K hK=> ?_
   refine zM zO zN [] rfl ?_
   push_cast
   repeat' apply And.intro
   all_goals try exact gB
   refine hK _ ?_;clear hK K
   refine zL fun K2 hK2=> ?_
   refine zL fun K hK=> ?_
   refine zM zO zN [] rfl ?_
   push_cast
   repeat' apply And.intro
   all_goals try exact gB
   refine hK _ ?_;clear hK K
   refine zV ?_
   refine zh [3,4,7,12,13,14,15,16,17,18,19,20] [48] (fun(k:Nat)=> [(4, .int .i64 k),(3, .sl 48 [] 0 k 2)]) (fun k=> []) (fun k=> [(48,⟨.ex,2,dI (ZE k),none⟩)]) (fun k=>k≤n) (fun k=>n - k) 0 ?_ (by omega) ?_
   ·
    rw [show dI (ZE 0)= []from rfl]
    refine zX rfl ?_ ?_ ?_<;>push_cast [zg,zf]
   ·rintro k hk KL0 hL0
    have hfl:=XS k
    push_cast
    refine zL fun K3 hK3=> ?_
    refine zL fun K hK=> ?_
    refine zM zO zN [] rfl ?_
    push_cast
    repeat' apply And.intro
    all_goals try exact gB
    refine hK _ ?_;clear hK K
    refine zT rfl (fun hc=> ?_) (fun hc=> ?_)<;>(try simp only [push_cast]at hc)
    ·
     refine zU ?_
     refine hK3 _ ?_
     refine zL fun K4 hK4=> ?_
     refine zV ?_
     refine zM zO zN [] rfl ?_
     push_cast
     repeat' apply And.intro
     all_goals try exact gB
     refine hK4 _ ?_
     refine zM zO zN [] rfl ?_
     push_cast
     repeat' apply And.intro
     all_goals try exact gB
     refine hL0 _ ⟨k+1,by omega,by omega,?_⟩
     (try rw [List.take_of_length_le (l:=ZE k) (by omega)])
     rw [zJP]
     refine zX rfl ?_ ?_ ?_<;>push_cast [zg,zf]
    ·
     refine zi ?_
     have hkk:k=n:=by omega
     subst hkk
     refine hK2 _ ?_
     refine zL fun K hK=> ?_
     refine zM zO zN [] rfl ?_
     push_cast
     repeat' apply And.intro
     all_goals try exact gB
     refine hK _ ?_;clear hK K
     refine zW ?_
     refine⟨Or.inl rfl,?_⟩
     push_cast [za]
     all_goals first|rfl|exact⟨rfl,by simp [XS]⟩|(simp [XS];done))
set_option maxRecDepth 20000 in
set_option maxHeartbeats 4000000 in
theorem zFc (a:Ar)(hn:a.owner.length≤256):Fn Tryz.prog tyT 116 [.agg (dAr a)] [.c (DI (ZE a.owner.length))]:=by
 have hS:=km a
 have hA:=zFS a.owner.length hn
 unfold dAr at hS⊢
 refine zr (fn:=Tryz.f116) (ts:= [2]) Tryz.func116 (by kernel_rfl) rfl rfl (by rw [Tryz.ntmps116];exact Nat.le_of_ble_eq_true rfl) rfl (by simp only [szA,List.mem_cons,List.not_mem_nil,or_false,forall_eq_or_imp,forall_eq,VT.cells,szL];try decide) ?_
 rw [Tryz.ntmps116]
 push_cast
 refine zL fun K hK=> ?_
 refine zM zO zN [] rfl ?_
 push_cast
 repeat' apply And.intro
 all_goals try exact gB
 refine hK _ ?_;clear hK K
 refine zL fun K hK=> ?_
 refine zM zO zN [] rfl ?_
 all_goals refine zl 2 fun K9 hK9=> ?_
 all_goals push_cast
 all_goals repeat'(first|(apply zP<;>(intro hg;push_cast at hg))|(refine⟨_,hS,?_⟩;push_cast)|(refine⟨_,hA,?_⟩;push_cast)|apply And.intro|(intro hg;push_cast at hg))
 all_goals try exact gA
 refine hK9 _ ?_;clear hK9 K9
 all_goals refine zl 1 fun K9 hK9=> ?_
 all_goals push_cast
 all_goals repeat'(first|(apply zP<;>(intro hg;push_cast at hg))|(refine⟨_,hS,?_⟩;push_cast)|(refine⟨_,hA,?_⟩;push_cast)|apply And.intro|(intro hg;push_cast at hg))
 all_goals try exact gA
 refine hK9 _ ?_;clear hK9 K9
 all_goals push_cast
 all_goals repeat'(first|(apply zP<;>(intro hg;push_cast at hg))|(refine⟨_,hS,?_⟩;push_cast)|(refine⟨_,hA,?_⟩;push_cast)|apply And.intro|(intro hg;push_cast at hg))
 all_goals try exact gA
 refine hK _ ?_;clear hK K
 refine zW ?_
 refine⟨Or.inl rfl,?_⟩
 push_cast [za]
set_option maxRecDepth 20000 in
set_option maxHeartbeats 4000000 in
theorem zDi (a:Ar)(hao:ye a=true):Fn Tryz.prog tyT 159 [.agg (dAr a)] [.c (DII (xw a a.owner.length a.owner.length 0))]:=by
 have hal:=yr hao
 have hrow:=fun v hv=>(xZ hao (v:=v) hv).2.2
 have hset:=fun v j hv hj=>Zz (xZ hao (v:=v) hv).2.2.2.2 (j:=j) hj
 obtain⟨n,hn⟩: ∃n,a.owner.length=n:=⟨_,rfl⟩
 rw [hn]at hal hrow hset
 rw [hn]
 unfold dAr
 (try rw [hn])
 (try rw [hal.2.2])
 refine zr (fn:=Tryz.f159) (ts:= [2]) Tryz.func159 (by kernel_rfl) rfl rfl (by rw [Tryz.ntmps159];exact Nat.le_of_ble_eq_true rfl) rfl (by simp only [szA,List.mem_cons,List.not_mem_nil,or_false,forall_eq_or_imp,forall_eq,VT.cells,szL];try decide) ?_
 rw [Tryz.ntmps159]
 push_cast
 refine zL fun K hK=> ?_
 refine zM zO zN [] rfl ?_
 all_goals push_cast
 all_goals repeat'(first|(apply zP<;>(intro hg;push_cast at hg))|apply And.intro|(intro hg;push_cast at hg))
 all_goals first|exact gA|(exact zS (by omega))|skip
 refine hK _ ?_;clear hK K
 refine zL fun K hK=> ?_
 refine zM zO zN [] rfl ?_
 all_goals push_cast
 all_goals repeat'(first|(apply zP<;>(intro hg;push_cast at hg))|apply And.intro|(intro hg;push_cast at hg))
 all_goals first|exact gA|(exact zS (by omega))|skip
 refine hK _ ?_;clear hK K
 refine zL fun K1 hK1=> ?_
 refine zL fun K hK=> ?_
 refine zM zO zN [] rfl ?_
 all_goals push_cast
 all_goals repeat'(first|(apply zP<;>(intro hg;push_cast at hg))|apply And.intro|(intro hg;push_cast at hg))
 all_goals first|exact gA|(exact zS (by omega))|skip
 refine hK _ ?_;clear hK K
 refine zV ?_
 refine zh [4,5,7,15,16,17,18,19,20,21,22,23,24,25,26,27,28,29,30,31,32,33,34,35,36,37] [48] (fun(v:Nat)=> [(15, .int .i64 v),(3, .sl 48 [] 0 a.owner.length 22)]) (fun v=> []) (fun v=> [(48,⟨.ex,22,dII (xw a n v 0),none⟩)]) (fun v=>v≤n) (fun v=>n - v) 0 ?_ (by omega) ?_
 ·
  rw [ux]
  refine zX rfl ?_ ?_ ?_<;>push_cast [zg,zf]
  all_goals first|(simp [dII,dI];done)|(simp [dII,dI];exact hn)|exact hn
 ·rintro v hv KL0 hL0
  have hpv:=vP a n v 0
  push_cast
  refine zL fun K hK=> ?_
  refine zM zO zN [] rfl ?_
  all_goals push_cast
  all_goals repeat'(first|(apply zP<;>(intro hg;push_cast at hg))|apply And.intro|(intro hg;push_cast at hg))
  all_goals first|exact gA|(exact zS (by omega))|skip
  refine hK _ ?_;clear hK K
  refine zL fun K2 hK2=> ?_
  refine zT rfl (fun hc=> ?_) (fun hc=> ?_)<;>(try simp only [push_cast]at hc)
  ·
   refine zU ?_
   refine hK2 _ ?_
   refine zL fun K3 hK3=> ?_
   refine zV ?_
   refine zL fun K hK=> ?_
   refine zM zO zN [] rfl ?_
   all_goals push_cast
   all_goals repeat'(first|(apply zP<;>(intro hg;push_cast at hg))|apply And.intro|(intro hg;push_cast at hg))
   all_goals first|exact gA|(exact zS (by omega))|skip
   refine hK _ ?_;clear hK K
   refine zL fun K hK=> ?_
   refine zM zO zN [] rfl ?_
   all_goals push_cast
   all_goals repeat'(first|(apply zP<;>(intro hg;push_cast at hg))|apply And.intro|(intro hg;push_cast at hg))
   all_goals first|exact gA|(exact zS (by omega))|skip
   refine hK _ ?_;clear hK K
   refine zV ?_
   refine zh [7,22,23,24,25,26,27,28,29,30,31,32,33,34,35,36] [48] (fun(i:Nat)=> [(22, .int .i64 i),(3, .sl 48 [] 0 a.owner.length 22)]) (fun i=> []) (fun i=> [(48,⟨.ex,22,dII (xw a n v i),none⟩)]) (fun i=>i≤(gl a.next v).length) (fun i=>(gl a.next v).length - i) 0 ?_ (by omega) ?_
   ·
    refine zX rfl ?_ ?_ ?_<;>push_cast [zg,zf]
   ·rintro i hi KL1 hL1
    have hpv:=vP a n v i
    push_cast
    refine zL fun K hK=> ?_
    refine zM zO zN [] rfl ?_
    all_goals push_cast
    all_goals repeat'(first|(apply zP<;>(intro hg;push_cast at hg))|apply And.intro|(intro hg;push_cast at hg))
    all_goals first|exact gA|(exact zS (by omega))|skip
    refine hK _ ?_;clear hK K
    refine zL fun K4 hK4=> ?_
    refine zT rfl (fun hc=> ?_) (fun hc=> ?_)<;>(try simp only [push_cast]at hc)
    ·
     refine zU ?_
     refine hK4 _ ?_
     refine zL fun K5 hK5=> ?_
     refine zV ?_
     refine zL fun K hK=> ?_
     refine zM zO zN [] rfl ?_
     all_goals push_cast
     all_goals repeat'(first|(apply zP<;>(intro hg;push_cast at hg))|apply And.intro|(intro hg;push_cast at hg))
     all_goals first|exact gA|(exact zS (by omega))|skip
     refine hK _ ?_;clear hK K
     have hrv:=(hrow v (by omega)).2.1
     have hst:=hset v i (by omega) (by omega)
     have hps:=uw hao (n:=n) (v:=v) (i:=i) (by omega) (by omega) (by omega)
     have hpe:(gl (xw a n v i) (gi (gl a.next v) i).toNat).length≤v+1:=by rw [Ja (by omega)];exact zBE _ _ _ _
     refine zj true zO zN ?_ rfl ?_
     ·kernel_rfl
     push_cast
     all_goals repeat'(first|(apply zP<;>(intro hg;push_cast at hg))|apply And.intro|(intro hg;push_cast at hg))
     all_goals first|exact gA|(rw [List.length_set,Qk];omega)|(exact zS (by omega))|skip
     refine hK5 _ ?_
     refine zM zO zN [] rfl ?_
     all_goals push_cast
     all_goals repeat'(first|(apply zP<;>(intro hg;push_cast at hg))|apply And.intro|(intro hg;push_cast at hg))
     all_goals first|exact gA|(exact zS (by omega))|skip
     refine hL1 _ ⟨i+1,by omega,by omega,?_⟩
     refine zX rfl ?_ ?_ ?_<;>push_cast [zg,zf]
     all_goals(rw [zGZ (by omega) (by rw [List.length_append];exact Nat.le_refl _),hps])
    ·
     refine zi ?_
     have hii:i=(gl a.next v).length:=by omega
     subst hii
     rw [uv]
     refine hK3 _ ?_
     refine zM zO zN [] rfl ?_
     all_goals push_cast
     all_goals repeat'(first|(apply zP<;>(intro hg;push_cast at hg))|apply And.intro|(intro hg;push_cast at hg))
     all_goals first|exact gA|(exact zS (by omega))|skip
     refine hL0 _ ⟨v+1,by omega,by omega,?_⟩
     refine zX rfl ?_ ?_ ?_<;>push_cast [zg,zf]
  ·
   refine zi ?_
   have hvv:v=n:=by omega
   subst hvv
   refine hK1 _ ?_
   refine zL fun K hK=> ?_
   refine zM zO zN [] rfl ?_
   all_goals push_cast
   all_goals repeat'(first|(apply zP<;>(intro hg;push_cast at hg))|apply And.intro|(intro hg;push_cast at hg))
   all_goals first|exact gA|(exact zS (by omega))|skip
   refine hK _ ?_;clear hK K
   refine zW ?_
   refine⟨Or.inl rfl,?_⟩
   push_cast [za]
   all_goals first|rfl|exact hn|exact hn.symm|(simp [vP];exact hn)|exact⟨rfl,by simp only [vP];omega⟩|(simp [vP];done)
def JO :Nat→List AV→List (Nat×AV)
 |_,[]=> []
 |i,v::vs=>(i,v)::JO (i+1) vs
theorem zA0 : ∀(vs:List AV) (i k:Nat) (v:AV),lk (JO i vs) k=some v→∃j,vs[j]? =some v∧k=i+j
 | [],i,k,v,h=>by simp [JO,lk]at h
 |u::vs,i,k,v,h=>by
  simp only [JO,zc]at h
  split at h
  ·rename_i e
   cases h
   exact⟨0,rfl,by omega⟩
  ·obtain⟨j,h1,h2⟩:=zA0 vs (i+1) k v h
   exact⟨j+1,by simpa using h1,by omega⟩
def Xk :Nat→Bool:=fun _=>true
def Zo (T:Nat):Nat→Bool:=fun t=>t==T||t==1000000
def othB (T:Nat):Nat→Bool:=fun t=> !(t==T)
def covR (r':List (Nat×zn)):List (Nat×zn)→Prop
 | []=>True
 |(d,R)::l=>(lk r' d=some R∧R.pin=none)∧covR r' l
theorem JJ {r':List (Nat×zn)}: ∀{l:List (Nat×zn)},covR r' l→∀d R,lk l d=some R→lk r' d=some R∧R.pin=none
 | [],_,d,R,h=>by simp [lk]at h
 |(k,R0)::l,h,d,R,hl=>by
  rw [zc]at hl
  split at hl
  ·rename_i e;subst e;cases hl;exact h.1
  ·exact JJ h.2 d R hl
def zDg (r:List (Nat×zn)):Bool:=r.all fun x=>match x.2.pin with|some i=>i !=999999|none=>true
def RetI (τ:Ty)(rs:List ResultVar)(K:AV→List AV→List (Nat×zn)→Prop)(e:Exit)(st:St):Prop:=(e= .ret∨e= .normal)∧
 match yB τ st rs,lk st.b 1000000 with
 |some (vs,ob),some cs=>ob∧∃r,covR st.r r∧K (qL vs) cs r
 |_,_=>False
def jK (T:Nat)(st:St)(cs:List AV)(r:List (Nat×zn)):St:=⟨st.n,vN (AV.kill Xk (othB T)) st.s,[(T,AV.killL noB Xk cs)],r⟩
def Qv (n T:Nat)(vs cells:List AV)(st:St):St:=⟨n,JO 0 (AV.killL noB (Zo T) vs),(1000000,AV.killL noB (Zo T) cells)::vN (AV.killL noB (Zo T)) (rm (Zo T) st.b),st.r⟩
def WH (P:Program)(τ:Ty)(T:Nat)(o:Oper)(K:St→Prop)(st:St):Prop:=
 match yA o,lk st.b T with
 |some (f,args,_),some cells=>T≠1000000∧zDg st.r=true∧∃(fn:Func) (rs:List ResultVar),P.funcs[f]? =some fn∧(fn.name== "runtime.NumGoroutine")=false∧fn.body.isSome=true∧fn.results=rs.toArray∧args.toList.length≤fn.ntmps∧
   awp P τ (fn.body.getD .skip) (RetI τ rs fun v cs r=>K ((jK T st cs r).put o.dst (AV.kill noB Xk v))) (Qv fn.ntmps T (args.toList.map (ev st)) cells st)
 |_,_=>False
theorem zD3 {P:Program}{τ:Ty}{T:Nat}{o:Oper}{K:St→Prop}{st:St}{fn:Func}{rs:List ResultVar}{f:FuncId}{args:Array Operand}{ts:Array TypeId}{cells:List AV}(h1:yA o=some (f,args,ts))(h2:lk st.b T=some cells)(h3:T≠1000000)(h4:zDg st.r=true)(h5:P.funcs[f]? =some fn)(h6:(fn.name== "runtime.NumGoroutine")=false)(h7:fn.body.isSome=true)(h8:fn.results=rs.toArray)(h9:args.toList.length≤fn.ntmps)
  (h:awp P τ (fn.body.getD .skip) (RetI τ rs fun v cs r=>K ((jK T st cs r).put o.dst (AV.kill noB Xk v))) (Qv fn.ntmps T (args.toList.map (ev st)) cells st)):WH P τ T o K st:=by
 unfold WH
 rw [h1,h2]
 exact⟨h3,h4,fn,rs,h5,h6,h7,h8,h9,h⟩
theorem zJN {P:Program}{τ:Ty}{fn:Func}{c:Code}{Q:Exit→St→Prop}{st:St}(hb:fn.body=some c)(h:awp P τ c Q st):awp P τ (fn.body.getD .skip) Q st:=by rw [hb];exact h
section
variable {P:Program} {τ:Ty} {lo:Nat} {w0:Fz} {st:St} {a:Act} {w:World}
theorem Uz (hτ:zx P τ)(hpos:yO τ){T:Nat}{o:Oper}{K:St→Prop}{Q:Exit→Act→World→Prop}{K':Act→World→Prop}(hd: ∀k,o.dst=some k→k<a.tmps.size)(h:Rel τ lo w0 st a w)(ha:WH P τ T o K st)
  (hK: ∀st' x w',K st'→Rel τ lo w0 st' (a.put o.dst x) w'→K' (a.put o.dst x) w'):o.wp P a w K' Q:=by
 obtain⟨ow,hd',bk,hr⟩:=h
 unfold WH at ha
 split at ha
 rotate_left
 ·exact ha.elim
 rename_i f args ts cells hc hT
 obtain⟨hT6,hpin,fn,rs,hfn,hname,hb,hres,hn,hbody⟩:=ha
 obtain⟨bcs,bty,g1,g2,g3⟩:=hr.box T cells hT
 have hglt:bk T<w.heap.size:=(Array.getElem?_eq_some_iff.1 g1).1
 have hpinD: ∀d R i,lk st.r d=some R→R.pin=some i→i≠999999:=fun d R i hR hi=>by
  have :=List.all_eq_true.1 hpin _ (Qo hR)
  simp only [hi]at this
  simpa using this
 have hev:zZ τ w st.r st.b hd' bk (args.toList.map (ev st)) (args.toList.map a.eval):=zm.2 ⟨by simp,fun i v x hv hx=>by
  rw [List.getElem?_map]at hv hx
  cases hk:args.toList[i]? with
  |none=>rw [hk]at hv;cases hv
  |some p=>rw [hk]at hv hx;cases hv;cases hx;exact ze hr p⟩
 generalize hvs:args.toList.map a.eval=vs at hev
 have hvl:vs.length=args.toList.length:=by rw [←hvs,List.length_map]
 -- the callee's frame,owners and boxes
 obtain⟨w1,hw1⟩: ∃w1:Fz,w1=⟨w0.w,w0.kp,fun i=>if i=999999 then some (.pointer (some ⟨bk T,0,none⟩))else w0.pin i⟩:=⟨_,rfl⟩
 have hkeep1: ∀{w},xC w0 w→xC w1 w:=fun h=>by subst hw1;exact⟨h.os,h.tape,h.output,h.size,h.block⟩
 have hkeep0: ∀{w},xC w1 w→xC w0 w:=fun h=>by subst hw1;exact⟨h.os,h.tape,h.output,h.size,h.block⟩
 have hfre: ∀b,w1.fre b↔w0.fre b:=fun b=>by subst hw1;exact Iff.rfl
 obtain⟨bk1,hbk1⟩: ∃f:Nat→Nat,f=upd bk 1000000 (bk T):=⟨_,rfl⟩
 have hboxes: ∀t cs,lk (Qv fn.ntmps T (args.toList.map (ev st)) cells st).b t=some cs→(t=1000000∧cs=AV.killL noB (Zo T) cells)∨(t≠1000000∧t≠T∧∃cs0,lk st.b t=some cs0∧cs=AV.killL noB (Zo T) cs0):=fun t cs h=>by
  have h2:lk ((1000000,AV.killL noB (Zo T) cells)::vN (AV.killL noB (Zo T)) (rm (Zo T) st.b)) t=some cs:=h
  rw [zc]at h2
  split at h2
  ·rename_i e
   cases h2
   exact .inl ⟨e.symm,rfl⟩
  ·rename_i e
   rw [zv,xH]at h2
   by_cases h3:Zo T t=true
   ·rw [if_pos h3]at h2;cases h2
   ·rw [if_neg h3]at h2
    have h4:t≠T:=fun e=>h3 (by subst e;simp [Zo])
    cases hx:lk st.b t with
    |none=>rw [hx]at h2;cases h2
    |some cs0=>rw [hx]at h2;cases h2;exact .inr ⟨fun e2=>e e2.symm,h4,cs0,rfl,rfl⟩
 have hB: ∀t,Zo T t=false→yx st.b (Qv fn.ntmps T (args.toList.map (ev st)) cells st).b bk bk1 t:=fun t ht ⟨cs,hcs⟩=>by
  have h1:t≠1000000:=fun e=>by subst e;simp [Zo]at ht
  rcases hboxes t cs hcs with⟨e,-⟩|⟨-,-,cs0,h2,-⟩
  ·exact absurd e h1
  ·exact⟨⟨cs0,h2⟩,by rw [hbk1];exact yh _ _ h1⟩
 have hDs: ∀d,noB d=false→yy w w st.r st.r hd' hd' d:=fun d _ R hR=>⟨R,hR,rfl,fun p hp=>⟨hp,rfl⟩⟩
 have hown1: ∀(m:Md) b,rel m (ow b)→upd ow (bk T) (some (.box 1000000)) b=ow b:=fun m b hrl=>by
  by_cases e:b=bk T
  ·subst e
   rw [g2]at hrl
   cases m<;>simp [rel]at hrl
  ·exact yh _ _ e
 have hstart:Rel τ lo w1 (Qv fn.ntmps T (args.toList.map (ev st)) cells st) {tmps:=vs.toArray++Array.replicate (fn.ntmps - vs.toArray.size) undef,defers:= []} w:=by
  refine⟨upd ow (bk T) (some (.box 1000000)),hd',bk1,fun ad had=> ?_,rfl,?_,hr.low,hkeep1 hr.below,fun b p hlt hb hp=> ?_,fun b hb=> ?_,fun k v hv=> ?_,fun d R hR=> ?_,fun t cs hcs=> ?_,fun d R i hR hi=> ?_⟩
  ·subst hw1
   simp only [if_true]at had
   cases had
   rw [hbk1,zw]
  ·show(vs.toArray++Array.replicate (fn.ntmps - vs.toArray.size) undef).size=fn.ntmps
   simp only [Array.size_append,List.size_toArray,Array.size_replicate]
   omega
  ·by_cases e:b=bk T
   ·subst e
    have :=hr.ge _ _ hglt g2 (by simp)
    exact⟨this.1,(hfre _).2 this.2⟩
   ·rw [yh _ _ e]at hb
    have :=hr.ge b p hlt hb hp
    exact⟨this.1,(hfre _).2 this.2⟩
  ·rw [yh _ _ (by omega)]
   exact hr.new b hb
  ·obtain⟨j,hj,hkj⟩:=zA0 _ _ _ _ hv
   rw [Nat.zero_add]at hkj
   subst hkj
   have hevk:=zz (τ:=τ) hDs hB _ _ hev
   obtain⟨h1,h2⟩:=zm.1 hevk
   have hlt:k<vs.length:=by rw [h1];exact(List.getElem?_eq_some_iff.1 hj).1
   have hget:(vs.toArray++Array.replicate (fn.ntmps - vs.toArray.size) undef).getD k undef=vs[k]:=by
    rw [Array.getD_eq_getD_getElem?,Array.getElem?_append_left (by simpa using hlt)]
    simp [hlt]
   show AvR τ w st.r _ hd' bk1 v ((vs.toArray++Array.replicate (fn.ntmps - vs.toArray.size) undef).getD k undef)
   rw [hget]
   exact h2 k v _ hj (List.getElem?_eq_getElem hlt)
  ·exact yG _ _ (Nat.le_refl _) _ _ _ (fun b hb hrl=>⟨rfl,hown1 _ b hrl⟩) (hr.root d R hR)
  ·rcases hboxes t cs hcs with⟨rfl,rfl⟩|⟨h1,h2,cs0,h3,rfl⟩
   ·exact⟨bcs,bty,by rw [hbk1,zw];exact g1,by rw [hbk1,zw,zw],zz hDs hB _ _ g3⟩
   ·obtain⟨ds,dty,q1,q2,q3⟩:=hr.box t cs0 h3
    have hne:bk t≠bk T:=fun e=>by
     rw [e,g2]at q2
     cases q2
     exact h2 rfl
    exact⟨ds,dty,by rw [hbk1,yh _ _ h1];exact q1,by rw [hbk1,yh _ _ h1,yh _ _ hne];exact q2,zz hDs hB _ _ q3⟩
  ·subst hw1
   have :=hpinD d R i hR hi
   simp only [if_neg this]
   exact hr.pin d R i hR hi
 have hC:Calls P f vs.toArray w (fun e w'=> ∃z,e= .returned z∧∃st',K st'∧Rel τ lo w0 st' (a.put o.dst z) w'):=by
  obtain⟨c,hbc⟩:=Option.isSome_iff_exists.1 hb
  have hget:fn.body.getD .skip=c:=by rw [hbc];rfl
  rw [hget]at hbody
  refine calls_of_wp hfn hbc (Go.wp_mono (hbody lo w1 _ w hstart) fun e a' w' ⟨st',⟨ow2,hd2,bk2,hr2⟩,he,hret⟩=> ?_)
  have hpost:a'.defers= []∧∃v,(results fn a'.tmps).run P w'= .ok v w'∧(∃z,Ending.returned v= .returned z∧∃st',K st'∧Rel τ lo w0 st' (a.put o.dst z) w'):=by
   split at hret
   ·rename_i avs ob0 cs hrv hcs
    obtain⟨hob0,r,hcov,hK0⟩:=hret
    obtain⟨xs,hrun,hv⟩:=qk hτ hpos hr2 hres hrv hob0
    refine⟨hr2.defers,_,hrun,_,rfl,_,hK0,?_⟩
    have hbig:bk2 1000000=bk T:=hr2.big ⟨bk T,0,none⟩ (by subst hw1;simp)
    obtain⟨ds,dty,q1,q2,q3⟩:=hr2.box 1000000 cs hcs
    rw [hbig]at q1 q2
    have hown2: ∀(m:Md) b,rel m (ow2 b)→upd ow2 (bk T) (some (.box T)) b=ow2 b:=fun m b hrl=>by
     by_cases e:b=bk T
     ·subst e
      rw [q2]at hrl
      cases m<;>simp [rel]at hrl
     ·exact yh _ _ e
    have hsz:w.heap.size≤w'.heap.size∨True:= .inr trivial
    have hlt2:bk T<w'.heap.size:=(Array.getElem?_eq_some_iff.1 q1).1
    have hD2: ∀d,noB d=false→yy w' w' st'.r r hd2 hd2 d:=fun d _ R hR=>⟨R,(JJ hcov d R hR).1,rfl,fun p hp=>⟨hp,rfl⟩⟩
    have hB2: ∀t,Xk t=false→yx st'.b (jK T st cs r).b bk2 bk t:=fun t h=>by cases h
    have hback:zd τ lo w0 (upd ow2 (bk T) (some (.box T))) hd2 bk (jK T st cs r) a w':=by
     refine⟨hr.big,hr.defers,hr.size,hr2.low,hkeep0 hr2.below,fun b p hlt hb hp=> ?_,fun b hb=> ?_,fun k v hv=> ?_,fun d R hR=> ?_,fun t us hus=> ?_,fun d R i hR hi=> ?_⟩
     ·by_cases e:b=bk T
      ·subst e
       exact hr.ge _ _ hglt g2 (by simp)
      ·rw [yh _ _ e]at hb
       have :=hr2.ge b p hlt hb hp
       exact⟨this.1,(hfre _).1 this.2⟩
     ·rw [yh _ _ (by omega)]
      exact hr2.new b hb
     ·have hv2:lk (vN (AV.kill Xk (othB T)) st.s) k=some v:=hv
      rw [zv]at hv2
      cases hk:lk st.s k with
      |none=>rw [hk]at hv2;cases hv2
      |some v0=>
       rw [hk]at hv2
       cases hv2
       refine yq (fun d h=>(by cases h)) (fun t h=> ?_) v0 _ (hr.slot k v0 hk)
       have e:t=T:=by simpa [othB]using h
       subst e
       exact fun _=>⟨⟨cells,hT⟩,rfl⟩
     ·exact yG _ _ (Nat.le_refl _) _ _ _ (fun b hb hrl=>⟨rfl,hown2 _ b hrl⟩) (hr2.root d R (JJ hcov d R hR).1)
     ·have hus2:lk [(T,AV.killL noB Xk cs)] t=some us:=hus
      rw [zc]at hus2
      split at hus2
      ·rename_i e
       subst e
       cases hus2
       exact⟨ds,dty,q1,zw _ _ _,zz hD2 hB2 _ _ q3⟩
      ·cases hus2
     ·rw [(JJ hcov d R hR).2]at hi
      cases hi
    exact xV hback hd (yq hD2 hB2 _ _ (Ys hv))
   ·exact hret.elim
  rcases he with rfl|rfl<;>exact hpost
 unfold Oper.wp
 rw [Yj hr hc ⟨fn,hfn,hname,by cases hbb:fn.body with|none=>rw [hbb]at hb;cases hb|some c=>rfl⟩,hvs]
 simp only [Oper.upon]
 refine hC.mono fun e w' hpost=> ?_
 obtain⟨z,rfl,st',hK1,hrel⟩:=hpost
 exact hK _ z w' hK1 hrel
end
mutual
def AV.rnb (t T:Nat):AV→AV
 | .int k n=> .int k n
 | .bool b=> .bool b
 | .sl d p off len e=> .sl d p off len e
 | .nil=> .nil
 | .ep d p i=> .ep d p i
 | .bp k i=>if k=t then .bp T i else if k=T then .dead else .bp k i
 | .agg vs=> .agg (AV.rnbL t T vs)
 | .tup vs=> .tup (AV.rnbL t T vs)
 | .fn f vs=> .fn f (AV.rnbL t T vs)
 | .dead=> .dead
 | .raw u=> .raw u
def AV.rnbL (t T:Nat):List AV→List AV
 | []=> []
 |v::vs=>AV.rnb t T v::AV.rnbL t T vs
end
def Wv (t T:Nat):List (Nat×List AV)→List (Nat×List AV)
 | []=> []
 |(k,vs)::l=>(if k=t then T else k,AV.rnbL t T vs)::Wv t T l
def St.renB (t T:Nat)(st:St):St:=⟨st.n,vN (AV.rnb t T) st.s,Wv t T st.b,st.r⟩
theorem ka {t T:Nat}(hne:t≠T): ∀{l:List (Nat×List AV)} {k:Nat} {cs:List AV},lk l T=none→lk (Wv t T l) k=some cs→(k=T∧∃cs0,lk l t=some cs0∧cs=AV.rnbL t T cs0)∨(k≠T∧k≠t∧∃cs0,lk l k=some cs0∧cs=AV.rnbL t T cs0)
 | [],k,cs,_,h=>by simp [Wv,lk]at h
 |(j,vs)::l,k,cs,hn,h=>by
  rw [zc]at hn
  split at hn
  ·cases hn
  rename_i hjT
  simp only [Wv,zc]at h
  by_cases hj:j=t
  ·rw [if_pos hj]at h
   split at h
   ·rename_i e
    cases h
    exact .inl ⟨e.symm,vs,by rw [zc,if_pos hj],rfl⟩
   ·rename_i e
    rcases ka hne hn h with⟨e1,-⟩|⟨h1,h2,cs0,h3,h4⟩
    ·exact absurd e1.symm e
    ·exact .inr ⟨h1,h2,cs0,by rw [zc,if_neg (fun e2=>h2 (by rw [←e2,hj]))];exact h3,h4⟩
  ·rw [if_neg hj]at h
   split at h
   ·rename_i e
    cases h
    exact .inr ⟨fun e2=>hjT (e.trans e2),fun e2=>hj (e.trans e2),vs,by rw [zc,if_pos e],rfl⟩
   ·rename_i e
    rcases ka hne hn h with⟨e1,cs0,h3,h4⟩|⟨h1,h2,cs0,h3,h4⟩
    ·exact .inl ⟨e1,cs0,by rw [zc,if_neg hj];exact h3,h4⟩
    ·exact .inr ⟨h1,h2,cs0,by rw [zc,if_neg e];exact h3,h4⟩
section
variable {P:Program} {τ:Ty} {lo:Nat} {w0:Fz} {st:St} {w:World} {rr:List (Nat×zn)} {bb bb':List (Nat×List AV)} {hd:Nat→Value} {bk bk':Nat→Nat} {t T:Nat}
mutual
theorem zCE (h1:(∃cs,lk bb' T=some cs)→(∃cs,lk bb t=some cs)∧bk' T=bk t)(h2: ∀k,k≠t→k≠T→(∃cs,lk bb' k=some cs)→(∃cs,lk bb k=some cs)∧bk' k=bk k): ∀(v:AV) (x:Value),AvR τ w rr bb hd bk v x→AvR τ w rr bb' hd bk' (v.rnb t T) x
 | .int k n,x,h=>by simpa only [AV.rnb,AvR]using h
 | .bool b,x,h=>by simpa only [AV.rnb,AvR]using h
 | .sl d p off len e,x,h=>by simpa only [AV.rnb,AvR]using h
 | .nil,x,h=>by simpa only [AV.rnb,AvR]using h
 | .ep d p i,x,h=>by simpa only [AV.rnb,AvR]using h
 | .bp k i,x,h=>by
  simp only [AV.rnb]
  split
  ·rename_i e
   subst e
   simp only [AvR]at h⊢
   exact⟨h.1,fun hl=>by rw [(h1 hl).2];exact h.2 (h1 hl).1⟩
  ·rename_i e
   split
   ·simp only [AvR]
   ·rename_i e2
    simp only [AvR]at h⊢
    exact⟨h.1,fun hl=>by rw [(h2 k e e2 hl).2];exact h.2 (h2 k e e2 hl).1⟩
 | .agg vs,x,h=>by
  simp only [AV.rnb,AvR]at h⊢
  obtain⟨cs,e,h⟩:=h
  exact⟨cs,e,Zq h1 h2 vs cs h⟩
 | .tup vs,x,h=>by
  simp only [AV.rnb,AvR]at h⊢
  obtain⟨cs,e,h⟩:=h
  exact⟨cs,e,Zq h1 h2 vs cs h⟩
 | .fn f vs,x,h=>by
  simp only [AV.rnb,AvR]at h⊢
  obtain⟨cs,e,h⟩:=h
  exact⟨cs,e,Zq h1 h2 vs cs h⟩
 | .dead,x,h=>by simp only [AV.rnb,AvR]
 | .raw u,x,h=>by simpa only [AV.rnb,AvR]using h
theorem Zq (h1:(∃cs,lk bb' T=some cs)→(∃cs,lk bb t=some cs)∧bk' T=bk t)(h2: ∀k,k≠t→k≠T→(∃cs,lk bb' k=some cs)→(∃cs,lk bb k=some cs)∧bk' k=bk k): ∀(vs:List AV) (xs:List Value),zZ τ w rr bb hd bk vs xs→zZ τ w rr bb' hd bk' (AV.rnbL t T vs) xs
 | [],xs,h=>by simpa only [AV.rnbL,zZ]using h
 |v::vs,xs,h=>by
  simp only [AV.rnbL,zZ]at h⊢
  obtain⟨x,xs',e,h3,h4⟩:=h
  exact⟨x,xs',e,zCE h1 h2 v x h3,Zq h1 h2 vs xs' h4⟩
end
theorem zFo (t T:Nat){c:Code}{Q:Exit→St→Prop}(hn:(t==T||T==1000000||t==1000000)=false)(hT:lk st.b T=none)(h:awp P τ c Q (st.renB t T)):awp P τ c Q st:=fun lo w0 a w hr=>by
 obtain⟨ow,hd,bk,hr⟩:=hr
 simp only [Bool.or_eq_false_iff,beq_eq_false_iff_ne]at hn
 obtain⟨⟨n1,n2⟩,n3⟩:=hn
 have hsh:=fun{k cs} h=>ka n1 (l:=st.b) (k:=k) (cs:=cs) hT h
 have h1:(∃cs,lk (Wv t T st.b) T=some cs)→(∃cs,lk st.b t=some cs)∧upd bk T (bk t) T=bk t:=fun⟨cs,hcs⟩=>by
  rcases hsh hcs with⟨-,cs0,h3,-⟩|⟨h1,-⟩
  ·exact⟨⟨cs0,h3⟩,zw _ _ _⟩
  ·exact absurd rfl h1
 have h2: ∀k,k≠t→k≠T→(∃cs,lk (Wv t T st.b) k=some cs)→(∃cs,lk st.b k=some cs)∧upd bk T (bk t) k=bk k:=fun k hkt hkT ⟨cs,hcs⟩=>by
  rcases hsh hcs with⟨e,-⟩|⟨-,-,cs0,h3,-⟩
  ·exact absurd e hkT
  ·exact⟨⟨cs0,h3⟩,yh _ _ hkT⟩
 obtain⟨ow',how⟩: ∃f:Nat→Option Pl,f=fun b=>match ow b with|some (.box k)=>if k=t then some (.box T)else some (.box k)|p=>p:=⟨_,rfl⟩
 have hsame: ∀(m:Md) b,rel m (ow b)→ow' b=ow b:=fun m b hrl=>by
  rw [how]
  simp only
  split
  ·rename_i e
   rw [e]at hrl
   cases m<;>simp [rel]at hrl
  ·rfl
 refine h lo w0 a w ⟨ow',hd,upd bk T (bk t),fun ad had=> ?_,hr.defers,hr.size,hr.low,hr.below,fun b p hlt hb hp=> ?_,fun b hb=> ?_,fun k v hv=> ?_,fun d R hR=> ?_,fun k cs hcs=> ?_,hr.pin⟩
 ·rw [yh _ _ (Ne.symm n2)]
  exact hr.big ad had
 ·rw [how]at hb
  simp only at hb
  split at hb
  ·rename_i e
   exact hr.ge b _ hlt e (by simp)
  ·exact hr.ge b p hlt hb hp
 ·rw [how]
  simp only [hr.new b hb]
 ·have hv2:lk (vN (AV.rnb t T) st.s) k=some v:=hv
  rw [zv]at hv2
  cases hk:lk st.s k with
  |none=>rw [hk]at hv2;cases hv2
  |some v0=>rw [hk]at hv2;cases hv2;exact zCE h1 h2 v0 _ (hr.slot k v0 hk)
 ·exact yG _ _ (Nat.le_refl _) _ _ _ (fun b hb hrl=>⟨rfl,hsame _ b hrl⟩) (hr.root d R hR)
 ·rcases hsh hcs with⟨rfl,cs0,h3,rfl⟩|⟨e1,e2,cs0,h3,rfl⟩
  ·obtain⟨ds,dty,q1,q2,q3⟩:=hr.box t cs0 h3
   exact⟨ds,dty,by rw [zw];exact q1,by rw [zw,how];simp only [q2];rfl,Zq h1 h2 _ _ q3⟩
  ·obtain⟨ds,dty,q1,q2,q3⟩:=hr.box k cs0 h3
   refine⟨ds,dty,by rw [yh _ _ e1];exact q1,?_,Zq h1 h2 _ _ q3⟩
   rw [yh _ _ e1,how]
   simp only
   rw [q2]
   exact if_neg e2
end
attribute [push_cast] AV.rnb AV.rnbL Wv St.renB
attribute [push_cast] JO Qv jK Xk Zo othB covR zDg
end Go.Proofs.YthepmdkpbjfdcaaGreat
