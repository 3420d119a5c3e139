/- The program's recursive solver: what it computes, plain. -/
import Derived.Test.YtggpbepdeilpgaaB11zmt
import Derived.Test.YtggpbepdeilpgaaB16zmt
import Derived.Test.YtggpbepdeilpgaaB10zmt
import Derived.Test.YtggpbepdeilpgaaB9zmt
namespace Go.Proofs.Ytggpbepdeilpgaa
open Go.RowKit
set_option linter.unusedVariables false
set_option linter.unusedSimpArgs false
noncomputable def wiB (x:L7)(n:Nat)(M:List Bool)(who:Int)(v:Nat):Bool:=gb M v&&(gb (qC x n (n+1) M) v==(who==0))
noncomputable def wiM (x:L7)(n:Nat)(M:List Bool)(who:Int):List Bool:=xG n (wiB x n M who)
theorem zJh (x:L7)(n:Nat)(M:List Bool)(who:Int):(wiM x n M who).length=n:=zG9 _ _
structure WnI (x:L7)(n:Nat)(M:List Bool)(who:Int)(now:List Bool):Prop where
 len:now.length=n
 sub: ∀v,inD n now v→inD n M v
 live:ZL (pgL x) (inD n now)
 whoW: ∀U m,xr (pgL x) who (inD n now) U m→xr (pgL x) who (inD n M) U m
 oppW: ∀U m,xr (pgL x) (1 - who) (inD n now) U m→∃s,xr (pgL x) (1 - who) (inD n M) (fun v=>U v∨(inD n M v∧¬inD n now v)) s
section
variable {x:L7} {n:Nat}
theorem WnI.start {M:List Bool}{who:Int}(hM:M.length=n)(hl:ZL (pgL x) (inD n M)):WnI x n M who M:=
 ⟨hM,fun v h=>h,hl,fun U m h=>h,fun U m h=>⟨m,yJ h (fun v=>Iff.rfl) fun v=>⟨fun h=> .inl h,fun h=>h.resolve_right fun h2=>h2.2 h2.1⟩⟩⟩
theorem kv (hx:x.Ok n){M:List Bool}(hM:M.length=n)(hl:ZL (pgL x) (inD n M)){who:Int}(hw:who=0∨who=1):
  (∃s,xr (pgL x) who (inD n M) (fun v=>inD n M v∧gb (qC x n (n+1) M) v=(who==0)) s)∧∃s,xr (pgL x) (1 - who) (inD n M) (fun v=>inD n M v∧gb (qC x n (n+1) M) v= !(who==0)) s:=by
 obtain⟨h0,h1⟩:=ku hx (n+1) M hM (Nat.lt_succ_of_le (wx _ _)) hl
 rcases hw with rfl|rfl
 ·exact⟨h0,h1⟩
 ·exact⟨h1,h0⟩
theorem zDM (hx:x.Ok n){M:List Bool}(hM:M.length=n)(hl:ZL (pgL x) (inD n M)){who:Int}(hw:who=0∨who=1){U:Nat→Prop}{s t:Nat→Nat}
  (h1:xr (pgL x) who (inD n M) U s) (h2:xr (pgL x) (1 - who) (inD n M) (fun v=>inD n M v∧¬U v) t) {v:Nat} (hv:inD n M v):wiB x n M who v=true↔U v:=by
 obtain⟨⟨a,ha⟩,⟨b,hb⟩⟩:=kv hx hM hl hw
 have key: ∀{A B:Nat→Prop} {c d:Nat→Nat},xr (pgL x) who (inD n M) A c→xr (pgL x) (1 - who) (inD n M) B d→A v→B v→False:=fun{A B c d} p q e f=>by
  rcases hw with rfl|rfl
  ·exact Vq (fun v h=>h.1) (Vd hx) p q v e f
  ·exact Vq (fun v h=>h.1) (Vd hx) q p v f e
 unfold wiB
 rw [hv.2,Bool.true_and,beq_iff_eq]
 constructor
 ·intro h
  exact Classical.byContradiction fun hn=>key ha h2 ⟨hv,h⟩ ⟨hv,hn⟩
 ·intro h
  cases hc:gb (qC x n (n+1) M) v==(who==0)
  ·exfalso
   refine key h1 hb h ⟨hv,?_⟩
   have h9: ¬gb (qC x n (n+1) M) v=(who==0):=fun e=>by rw [beq_iff_eq.2 e]at hc;cases hc
   cases hq:gb (qC x n (n+1) M) v<;>cases hq2:(who==0)<;>first|rfl|(exfalso;rw [hq,hq2]at h9;exact h9 rfl)
  ·exact beq_iff_eq.1 hc
theorem zIP (hx:x.Ok n){M:List Bool}(hM:M.length=n)(hl:ZL (pgL x) (inD n M)){who:Int}(hw:who=0∨who=1){now:List Bool}(hn:now.length=n)(hsub: ∀v,inD n now v→inD n M v){s t:Nat→Nat}
  (h1:xr (pgL x) who (inD n M) (inD n now) s) (h2:xr (pgL x) (1 - who) (inD n M) (fun v=>inD n M v∧¬inD n now v) t):now=wiM x n M who:=by
 refine JG (by rw [zJh];exact hn) fun v hv=> ?_
 rw [hn]at hv
 unfold wiM
 rw [qn hv,Bool.eq_iff_iff]
 constructor
 ·intro h
  exact(zDM hx hM hl hw h1 h2 (hsub v ⟨hv,h⟩)).2 ⟨hv,h⟩
 ·intro h
  have h5:=h
  unfold wiB at h5
  rw [Bool.and_eq_true]at h5
  exact((zDM hx hM hl hw h1 h2 ⟨hv,h5.1⟩).1 h).2
theorem WnI.rest {M:List Bool}{who:Int}{now goal:List Bool}(hx:x.Ok n)(h:WnI x n M who now):(xP now (xg x n now who goal)).length=n∧ZL (pgL x) (inD n (xP now (xg x n now who goal))):=by
 refine⟨by rw [YQ];exact h.len,?_⟩
 have :=Xe (who:=who) (goal:=fun v=>gb goal v=true) (JR hx) h.live
 rw [show inD n (xP now (xg x n now who goal))=_ from funext fun v=>propext (Qn h.len v)]
 exact this
theorem WnI.all {M:List Bool}{who:Int}{now goal lost:List Bool}{top:Int}(hx:x.Ok n)(hM:M.length=n)(hl:ZL (pgL x) (inD n M))(h:WnI x n M who now)(ht:0≤top)(hwho:top%2=who)(htop: ∀v,inD n M v→gi x.prio v≤top)
  (hgoal:goal=xG n (Zb x now top)) {rest:List Bool} (hrest:rest=xP now (xg x n now who goal)) (hlost: ∀v,v<n→gb lost v=wV rest (qC x n (n+1) rest) who v) (hno: ∀v,v<n→gb lost v=false):now=wiM x n M who:=by
 have hw:who=0∨who=1:=by omega
 obtain⟨hrl,hrv⟩:=h.rest (goal:=goal) hx
 rw [←hrest]at hrl hrv
 obtain⟨⟨s,hs⟩,-⟩:=kv hx hrl hrv hw
 have hD: ∀v,inD n rest v↔inD n now v∧¬Att (pgL x) who (inD n now) (fun v=>(pgL x).pr v=top.toNat) v:=fun v=>by
  rw [hrest,Qn h.len v]
  have :Att (pgL x) who (inD n now) (fun v=>gb goal v=true) v↔Att (pgL x) who (inD n now) (fun v=>(pgL x).pr v=top.toNat) v:=Yz (fun u hu=>by
   rw [hgoal,qn hu.1]
   unfold Zb
   rw [hu.2,Bool.true_and,beq_iff_eq]
   have :=hx.pr u hu.1
   show _↔(gi x.prio u).toNat=top.toNat
   omega) v
  rw [this]
 have hall: ∀v,inD n rest v→gb (qC x n (n+1) rest) v=(who==0):=fun v hv=>by
  have h1:=hno v hv.1
  rw [hlost v hv.1]at h1
  unfold wV at h1
  rw [hv.2,Bool.true_and]at h1
  cases hq:gb (qC x n (n+1) rest) v<;>cases hq2:(who==0)<;>first|rfl|(exfalso;rw [hq,hq2]at h1;cases h1)
 obtain⟨s',hs'⟩:=zDR (g:=pgL x) (who:=who) (D:=inD n now) (top:=top.toNat) (JR hx) h.live (fun v hv=>by
  have :=htop v (h.sub v hv)
  show(gi x.prio v).toNat≤top.toNat
  omega) (by omega) (s:=s) (yJ hs hD fun v=>⟨fun h5=>(hD v).1 h5.1,fun h5=>⟨(hD v).2 h5,hall v ((hD v).2 h5)⟩⟩)
 obtain⟨t0,ht0⟩:=wJ (pgL x) (1 - who) (inD n now) (fun _=>False) (fun v h=>h)
 obtain⟨t,ht1⟩:=h.oppW _ _ ht0
 exact zIP hx hM hl hw h.len h.sub (h.whoW _ _ hs') (yJ ht1 (fun v=>Iff.rfl) fun v=>⟨fun h5=>h5.resolve_left id,fun h5=> .inr h5⟩)
theorem WnI.none {M:List Bool}{who:Int}{now:List Bool}(hx:x.Ok n)(hM:M.length=n)(hl:ZL (pgL x) (inD n M))(hw:who=0∨who=1)(h:WnI x n M who now)(hno: ∀v,v<n→gb now v=false):now=wiM x n M who:=by
 have hn: ∀v,¬inD n now v:=fun v hv=>by rw [inD,hno v hv.1]at hv;cases hv.2
 obtain⟨t0,ht0⟩:=wJ (pgL x) (1 - who) (inD n now) (fun _=>False) (fun v h=>h)
 obtain⟨t,ht1⟩:=h.oppW _ _ ht0
 obtain⟨s,hs⟩:=wJ (pgL x) who (inD n M) (inD n now) hn
 exact zIP hx hM hl hw h.len h.sub hs (yJ ht1 (fun v=>Iff.rfl) fun v=>⟨fun h5=>h5.resolve_left id,fun h5=> .inr h5⟩)
theorem WnI.next {M:List Bool}{who:Int}{now goal lost:List Bool}(hx:x.Ok n)(hw:who=0∨who=1)(h:WnI x n M who now){rest:List Bool}(hrest:rest=xP now (xg x n now who goal))(hlost: ∀v,v<n→gb lost v=wV rest (qC x n (n+1) rest) who v):WnI x n M who (xP now (xg x n now (1 - who) lost)):=by
 obtain⟨hrl,hrv⟩:=h.rest (goal:=goal) hx
 rw [←hrest]at hrl hrv
 obtain⟨-,⟨s,hs⟩⟩:=kv hx hrl hrv hw
 have ho2: ∀v,(pgL x).own v=who∨(pgL x).own v=1 - who:=fun v=>by have :=Vd hx v;omega
 have hL: ∀v,inD n rest v∧gb (qC x n (n+1) rest) v=(!(who==0))↔v<n∧gb lost v=true:=fun v=>by
  constructor
  ·rintro⟨⟨a,b⟩,c⟩
   refine⟨a,?_⟩
   rw [hlost v a]
   unfold wV
   rw [b,c]
   cases(who==0)<;>rfl
  ·rintro⟨a,b⟩
   rw [hlost v a]at b
   unfold wV at b
   rw [Bool.and_eq_true]at b
   refine⟨⟨a,b.1⟩,?_⟩
   have :=b.2
   cases hq:gb (qC x n (n+1) rest) v<;>cases hq2:(who==0)<;>first|rfl|(rw [hq,hq2]at this;cases this)
 have hcg: ∀v,Att (pgL x) (1 - who) (inD n now) (fun v=>gb lost v=true) v↔Att (pgL x) (1 - who) (inD n now) (fun v=>v<n∧gb lost v=true) v:=Yz fun v hv=>⟨fun e=>⟨hv.1,e⟩,fun e=>e.2⟩
 have hD: ∀v,inD n (xP now (xg x n now (1 - who) lost)) v↔inD n now v∧¬Att (pgL x) (1 - who) (inD n now) (fun v=>v<n∧gb lost v=true) v:=fun v=>by rw [Qn h.len v,hcg v]
 refine⟨by rw [YQ];exact h.len,fun v hv=>h.sub v ((hD v).1 hv).1,?_,fun U m hU=> ?_,fun U m hU=> ?_⟩
 ·have :=Xe (who:=1 - who) (goal:=fun v=>v<n∧gb lost v=true) (JR hx) h.live
  rw [show inD n (xP now (xg x n now (1 - who) lost))=_ from funext fun v=>propext (hD v)]
  exact this
 ·exact h.whoW U m (ky ho2 (yJ hU hD fun v=>Iff.rfl))
 ·obtain⟨s',hs'⟩:=kx (g:=pgL x) (who:=who) (opp:=1 - who) (D:=inD n now) (goal:=fun v=>gb goal v=true) ho2 (by omega) (L:=fun v=>v<n∧gb lost v=true) (M:=U) (s:=s) (m:=m) (yJ hs (fun v=>by rw [hrest];exact Qn h.len v) hL) (yJ hU hD fun v=>Iff.rfl)
  obtain⟨t,ht⟩:=h.oppW _ _ hs'
  refine⟨t,yJ ht (fun v=>Iff.rfl) fun v=> ?_⟩
  constructor
  ·rintro((h5|h5)|⟨h5,h6⟩)
   ·exact .inl h5
   ·exact .inr ⟨h.sub v h5.inD,fun h7=>((hD v).1 h7).2 h5⟩
   ·exact .inr ⟨h5,fun h7=>h6 ((hD v).1 h7).1⟩
  ·rintro(h5|⟨h5,h6⟩)
   ·exact .inl (.inl h5)
   ·by_cases h7:inD n now v
    ·exact .inl (.inr (Classical.byContradiction fun h8=>h6 ((hD v).2 ⟨h7,h8⟩)))
    ·exact .inr ⟨h5,h7⟩
theorem WnI.lt {M:List Bool}{who:Int}{now lost goal rest:List Bool}(h:WnI x n M who now)(hrest:rest=xP now (xg x n now who goal))(hlost: ∀v,v<n→gb lost v=wV rest (qC x n (n+1) rest) who v)(hsome: ∃v,v<n∧gb lost v=true):yj (xP now (xg x n now (1 - who) lost)) n<yj now n:=by
 obtain⟨v,hv,h1⟩:=hsome
 refine kj h.len hv ?_ h1
 rw [hlost v hv]at h1
 unfold wV at h1
 rw [Bool.and_eq_true,hrest,Zv (by rw [h.len];exact hv),Bool.and_eq_true]at h1
 exact h1.1.1
end
def xL (l:List Bool):Nat→List Int
 |0=> []
 |k+1=>if gb l k then xL l k++ [(k:Int)]else xL l k
theorem Zt {l:List Bool}{k:Nat}(h:gb l k=true):xL l (k+1)=xL l k++ [(k:Int)]:=by
 show(if _ then _ else _)=_;rw [if_pos h]
theorem Zs {l:List Bool}{k:Nat}(h:gb l k=false):xL l (k+1)=xL l k:=by
 show(if _ then _ else _)=_;rw [if_neg (by rw [h];exact Bool.false_ne_true)]
theorem wy {l:List Bool}{y:Int}: ∀{k:Nat},y∈xL l k↔∃v:Nat,v<k∧gb l v=true∧y=v
 |0=>⟨fun h=>(by cases h),fun⟨v,h,_⟩=>absurd h (Nat.not_lt_zero _)⟩
 |k+1=>by
  cases hk:gb l k
  ·rw [Zs hk,wy]
   constructor
   ·rintro⟨v,a,b,c⟩;exact⟨v,by omega,b,c⟩
   ·rintro⟨v,a,b,c⟩
    by_cases e:v=k
    ·rw [e,hk]at b;cases b
    ·exact⟨v,by omega,b,c⟩
  ·rw [Zt hk,List.mem_append,wy]
   constructor
   ·rintro(⟨v,a,b,c⟩|h)
    ·exact⟨v,by omega,b,c⟩
    ·exact⟨k,by omega,hk,by simpa using h⟩
   ·rintro⟨v,a,b,c⟩
    by_cases e:v=k
    ·right;rw [c,e];simp
    ·exact .inl ⟨v,by omega,b,c⟩
theorem XD (l:List Bool): ∀k,(xL l k).length≤k
 |0=>Nat.le_refl _
 |k+1=>by
  have :=XD l k
  cases hk:gb l k
  ·rw [Zs hk];omega
  ·rw [Zt hk,List.length_append];simp;omega
theorem kR (l:List Bool): ∀k,(xL l k).Pairwise (· < ·)
 |0=>List.Pairwise.nil
 |k+1=>by
  cases hk:gb l k
  ·rw [Zs hk];exact kR l k
  ·rw [Zt hk,List.pairwise_append]
   refine⟨kR l k,List.pairwise_singleton _ _,fun a ha b hb=> ?_⟩
   obtain⟨v,h1,-,h3⟩:=wy.1 ha
   rw [List.mem_singleton.1 hb,h3];omega
theorem zCu {l:List Bool}{k i:Nat}(h:i<(xL l k).length):0≤gi (xL l k) i∧gi (xL l k) i<k∧gb l (gi (xL l k) i).toNat=true:=by
 obtain⟨v,a,b,c⟩:=wy.1 (zAh h)
 rw [c]
 exact⟨by omega,by omega,by rw [Int.toNat_natCast];exact b⟩
section
variable {x:L7} {n:Nat} {inn goal out:List Bool} {who:Int} {lc Lf Q:List Int} {P P':Nat→Int→Bool}
theorem zAT {v:Nat}{p:Int→Bool}: ∀{k:Nat},(∃j,j<k∧gb inn (gi (gl x.next v) j).toNat=true∧edB x v (gi (gl x.next v) j)=true∧p (gi (gl x.next v) j)=false)→1≤xy x inn v p k
 |0,⟨j,h,_⟩=>absurd h (Nat.not_lt_zero _)
 |k+1,⟨j,hj,h1,h2,h3⟩=>by
  have hn:=kK x inn v p k
  unfold xy
  by_cases e:j=k
  ·subst e
   rw [h1,h2,h3]
   simp
   omega
  ·have :=zAT ⟨j,by omega,h1,h2,h3⟩ (k:=k)
   split<;>omega
theorem zIr (hx:x.Ok n){v:Nat}(hv:v<n):0≤Zr x inn v∧Zr x inn v≤256:=by
 have :=zCh x inn v (gl x.next v).length
 have :=hx.deg v hv
 unfold Zr
 omega
structure PuI (x:L7)(n:Nat)(inn:List Bool)(who:Int)(goal out:List Bool)(lc Lf Q:List Int)(P:Nat→Int→Bool):Prop where
 at_:AtI x n inn who goal out Lf Q P
 len:lc.length=n
 rg: ∀v,v<n→0≤gi lc v∧gi lc v≤256
 lcv: ∀v,v<n→gb inn v=true→gb out v=false→¬gi x.owner v=who→(gi lc v=0∧gi Lf v=Zr x inn v)∨(¬gi lc v=0∧gi Lf v=gi lc v)
theorem PuI.start (hx:x.Ok n)(hg:goal.length=n)(hsub: ∀v,v<n→gb goal v=true→gb inn v=true):
  PuI x n inn who goal goal (List.replicate n 0) ((List.range n).map fun v=>Zr x inn v) (xL goal n) (fun _ _=>false):=by
 have hgiL: ∀v,v<n→gi ((List.range n).map fun v=>Zr x inn v) v=Zr x inn v:=fun v hv=>by
  unfold gi
  rw [List.getD_eq_getElem?_getD,List.getElem?_map,List.getElem?_range hv]
  rfl
 refine⟨⟨hg,by simp,fun i hi=> ?_,fun i j hij hj=> ?_,fun v hv=> ?_,fun v hv hb=> .base ⟨hv,hsub v hv hb⟩ hb,fun v hv _ hb=>hb,fun v hv _ _ _ j _ _ _=>rfl,fun v hv _ _ _ ⟨j,_,_,_,hf⟩=>(by cases hf),fun v hv a b=> ?_,fun v hv j hj hf=>(by cases hf)⟩,by simp,fun v hv=> ?_,fun v hv a b c=> ?_⟩
 ·have :=zCu hi;omega
 ·have h1:=List.pairwise_iff_getElem.1 (kR goal n) i j (by omega) hj hij
  unfold gi
  rw [List.getD_eq_getElem?_getD,List.getD_eq_getElem?_getD,List.getElem?_eq_getElem (by omega),List.getElem?_eq_getElem hj]
  simp only [Option.getD_some]
  omega
 ·constructor
  ·intro hb
   obtain⟨i,hi⟩:=List.getElem?_of_mem (wy.2 ⟨v,hv,hb,rfl⟩:(v:Int)∈xL goal n)
   have hl:=(List.getElem?_eq_some_iff.1 hi).1
   refine⟨i,hl,?_⟩
   have :=Za hl
   rw [hi]at this
   exact(Option.some.inj this).symm
  ·rintro⟨i,hi,e⟩
   have :=(zCu hi).2.2
   rw [e,Int.toNat_natCast]at this
   exact this
 ·rw [hgiL v hv]
  exact(uQ x inn v _ fun _ _=>rfl).symm
 ·have :gi (List.replicate n 0) v=0:=zFK hv
  omega
 ·exact .inl ⟨zFK hv,hgiL v hv⟩
theorem PuI.cong (h:PuI x n inn who goal out lc Lf Q P)(h2:AtI x n inn who goal out Lf Q P'):PuI x n inn who goal out lc Lf Q P':=⟨h2,h.len,h.rg,h.lcv⟩
theorem PuI.skip (h:PuI x n inn who goal out lc Lf Q P){v0:Nat}(hv0:v0<n){u0:Int}(hu0:gb out u0.toNat=true)(hs:gb inn v0=false∨gb out v0=true∨edB x v0 u0=false)
  (hQ: ∀v u,P' v u=(P v u||(decide (v=v0)&&decide (u=u0)))):PuI x n inn who goal out lc Lf Q P':=h.cong (h.at_.skip hv0 hu0 hs hQ)
def YV (x:L7)(inn:List Bool)(lc:List Int)(v:Nat):Int:=if gi lc v=0 then Zr x inn v else gi lc v
theorem PuI.step (hx:x.Ok n)(h:PuI x n inn who goal out lc Lf Q P){v0:Nat}(hv0:v0<n){u0:Int}(hu:0≤u0∧u0<n)(hu0:gb out u0.toNat=true)(hui:gb inn u0.toNat=true)(h1:gb inn v0=true)(h2:gb out v0=false)(h3:edB x v0 u0=true)
  (hj: ∃j,j<(gl x.next v0).length∧gi (gl x.next v0) j=u0) (hP:P v0 u0=false) (hQ: ∀v u,P' v u=(P v u||(decide (v=v0)&&decide (u=u0)))):
  (gi x.owner v0=who→PuI x n inn who goal (out.set v0 true) lc (Lf.set v0 (gi Lf v0 - 1)) (Q++ [(v0:Int)]) P')∧
  (¬gi x.owner v0=who→(1≤YV x inn lc v0∧YV x inn lc v0≤256)∧
   (0<YV x inn lc v0 - 1→PuI x n inn who goal out (lc.set v0 (YV x inn lc v0 - 1)) (Lf.set v0 (gi Lf v0 - 1)) Q P')∧
   (¬0<YV x inn lc v0 - 1→PuI x n inn who goal (out.set v0 true) (lc.set v0 (YV x inn lc v0 - 1)) (Lf.set v0 (gi Lf v0 - 1)) (Q++ [(v0:Int)]) P')):=by
 have hst:=AtI.step hx h.at_ hv0 hu hu0 hui h1 h2 h3 hj hP hQ
 have hlo:v0<out.length:=by rw [h.at_.lo];exact hv0
 have hll:v0<Lf.length:=by rw [h.at_.ll];exact hv0
 have hlc:v0<lc.length:=by rw [h.len];exact hv0
 have hdown: ∀v,gb (out.set v0 true) v=false→v≠v0∧gb out v=false:=fun v hv=>by
  rw [xI hlo]at hv
  split at hv
  ·cases hv
  ·rename_i e;exact⟨e,hv⟩
 refine⟨fun ho=>⟨hst.2 (.inl ho),h.len,h.rg,fun v hv a b c=> ?_⟩,fun ho=> ?_⟩
 ·obtain⟨b1,b2⟩:=hdown v b
  rw [vM hll,if_neg b1]
  exact h.lcv v hv a b2 c
 ·have hm:gi Lf v0=YV x inn lc v0:=by
   unfold YV
   rcases h.lcv v0 hv0 h1 h2 ho with⟨a,b⟩|⟨a,b⟩
   ·rw [if_pos a];exact b
   ·rw [if_neg a];exact b
  have hpos:1≤gi Lf v0:=by
   rw [h.at_.cnt v0 hv0 h1 h2]
   obtain⟨j,a,b⟩:=hj
   exact zAT ⟨j,a,by rw [b];exact hui,by rw [b];exact h3,by rw [b];exact hP⟩
  have hle:YV x inn lc v0≤256:=by
   unfold YV
   split
   ·exact(zIr hx hv0).2
   ·exact(h.rg v0 hv0).2
  rw [hm]at hpos hst⊢
  have hrg: ∀v,v<n→0≤gi (lc.set v0 (YV x inn lc v0 - 1)) v∧gi (lc.set v0 (YV x inn lc v0 - 1)) v≤256:=fun v hv=>by
   rw [vM hlc]
   split
   ·omega
   ·exact h.rg v hv
  refine⟨⟨hpos,hle⟩,fun hp=>⟨hst.1 (fun e=> ?_),by rw [List.length_set];exact h.len,hrg,fun v hv a b c=> ?_⟩,fun hp=>⟨hst.2 (.inr (by omega)),by rw [List.length_set];exact h.len,hrg,fun v hv a b c=> ?_⟩⟩
  ·rcases e with e|e
   ·exact ho e
   ·omega
  ·rw [vM hll,vM hlc]
   by_cases ev:v=v0
   ·rw [if_pos ev,if_pos ev]
    exact .inr ⟨by omega,rfl⟩
   ·rw [if_neg ev,if_neg ev]
    exact h.lcv v hv a b c
  ·obtain⟨b1,b2⟩:=hdown v b
   rw [vM hll,vM hlc,if_neg b1,if_neg b1]
   exact h.lcv v hv a b2 c
end
structure QdI (Q:List Int)(i:Nat)(qd:List Int)(o:Nat):Prop where
 drop:qd.drop o=Q.drop i
 lo:o≤i
 li:i≤Q.length
 oq:o≤qd.length
theorem QdI.start (Q:List Int):QdI Q 0 Q 0:=⟨rfl,by omega,by omega,by omega⟩
theorem QdI.len {Q qd:List Int}{i o:Nat}(h:QdI Q i qd o):o+(Q.length - i)=qd.length:=by
 have h1:=congrArg List.length h.drop
 rw [List.length_drop,List.length_drop]at h1
 have :=h.oq;have :=h.li
 omega
theorem QdI.head {Q qd:List Int}{i o:Nat}(h:QdI Q i qd o)(hi:i<Q.length):gi qd o=gi Q i:=by
 have h1:=congrArg (fun l=>l[0]?) h.drop
 simp only [List.getElem?_drop,Nat.add_zero]at h1
 unfold gi
 rw [List.getD_eq_getElem?_getD,List.getD_eq_getElem?_getD,h1]
theorem QdI.push {Q qd ps:List Int}{i o:Nat}(h:QdI Q i qd o)(v:Int)(hp:ps= []∨ps=qd.take o):QdI (Q++ [v]) i (ps++(qd.drop o++ [v])) ps.length:=by
 have hle:ps.length≤o:=by
  rcases hp with rfl|rfl
  ·simp
  ·rw [List.length_take];omega
 refine⟨?_,by have :=h.lo;omega,by rw [List.length_append];have :=h.li;omega,by rw [List.length_append];omega⟩
 rw [List.drop_append_of_le_length (Nat.le_refl _),List.drop_length,List.nil_append,h.drop,List.drop_append_of_le_length h.li]
open Nat renaming reduceMod → zA, reduceMul → zB, reduceDiv → zC, reduceAdd → zD, reduceSub → zE, reduceEqDiff → zF, reduceBEq → zG, reduceLT → zH, reduceLeDiff → zI
noncomputable def QQ (E:List (List Int))(ins:List Bool)(v n:Nat):List Bool:=xG n fun u=>gb (vX E ins v n) u&&gb (vX E ins u n) v
noncomputable def yZ (E:List (List Int))(ins:List Bool)(v n:Nat):List Int:=if gb (vX E ins v n) v then xL (QQ E ins v n) n else []
theorem zHO {E:List (List Int)}{ins:List Bool}{v n:Nat}(h:gb (vX E ins v n) v=false):yZ E ins v n= []:=by unfold yZ;rw [h];rfl
theorem zFs {E:List (List Int)}{ins:List Bool}{v n:Nat}(h:gb (vX E ins v n) v=true):yZ E ins v n=xL (QQ E ins v n) n:=by unfold yZ;rw [if_pos h]
theorem uq {E:List (List Int)}{ins:List Bool}{v n:Nat}:(yZ E ins v n).length≤n:=by
 unfold yZ
 split
 ·exact XD _ _
 ·exact Nat.zero_le _
theorem ki {E:List (List Int)}{ins:List Bool}{v n k:Nat}(h:k<n):gb (QQ E ins v n) k=(gb (vX E ins v n) k&&gb (vX E ins k n) v):=YR h
theorem kQ {l:List Bool}: ∀{k:Nat} {y:Int},y∈xL l k→0≤y∧y<k∧gb l y.toNat=true
 |0,y,h=>by cases h
 |k+1,y,h=>by
  cases hb:gb l k with
  |true=>
   rw [Zt hb]at h
   rcases List.mem_append.1 h with h|h
   ·obtain⟨a1,a2,a3⟩:=kQ h
    exact⟨a1,by omega,a3⟩
   ·rw [List.mem_singleton]at h
    subst h
    exact⟨by omega,by omega,by rw [Int.toNat_natCast];exact hb⟩
  |false=>
   rw [Zs hb]at h
   obtain⟨a1,a2,a3⟩:=kQ h
   exact⟨a1,by omega,a3⟩
theorem Vc {E:List (List Int)}{ins:List Bool}{v n:Nat}{y:Int}(h:y∈yZ E ins v n):0≤y∧y<n:=by
 unfold yZ at h
 split at h
 ·have :=kQ h;omega
 ·cases h
def wI (d:List Bool)(p:List Int):List Bool:=p.foldl (fun d u=>d.set u.toNat true) d
theorem XN : ∀(p:List Int) (d:List Bool),(wI d p).length=d.length
 | [],d=>rfl
 |u::p,d=>by
  unfold wI
  rw [List.foldl_cons]
  have :=XN p (d.set u.toNat true)
  rw [List.length_set]at this
  exact this
theorem uy {d:List Bool}{p:List Int}{k:Nat}(hk:k<p.length):(wI d (p.take k)).set (gi p k).toNat true=wI d (p.take (k+1)):=by
 unfold wI
 rw [List.take_add_one,List.foldl_append]
 have e:p[k]? =some (gi p k):=by unfold gi;rw [List.getD_eq_getElem?_getD,List.getElem?_eq_getElem hk];rfl
 rw [e]
 rfl
noncomputable def ptS (E:List (List Int))(ins:List Bool)(n:Nat):Nat→List (List Int)×List Bool
 |0=>([],List.replicate n false)
 |v+1=>let s:=ptS E ins n v;if !gb ins v||gb s.2 v then s else(if 0<(yZ E ins v n).length then s.1++ [yZ E ins v n]else s.1,wI s.2 (yZ E ins v n))
theorem Vg {E:List (List Int)}{ins:List Bool}{n v:Nat}(h:gb ins v=false∨gb (ptS E ins n v).2 v=true):ptS E ins n (v+1)=ptS E ins n v:=by
 simp only [ptS]
 rw [if_pos (by rcases h with h|h<;>rw [h]<;>simp)]
theorem Wg {E:List (List Int)}{ins:List Bool}{n v:Nat}(h1:gb ins v=true)(h2:gb (ptS E ins n v).2 v=false):ptS E ins n (v+1)=(if 0<(yZ E ins v n).length then(ptS E ins n v).1++ [yZ E ins v n]else(ptS E ins n v).1,wI (ptS E ins n v).2 (yZ E ins v n)):=by
 simp only [ptS]
 rw [if_neg (by rw [h1,h2];decide)]
theorem Ql {E:List (List Int)}{ins:List Bool}{n:Nat}: ∀v,(ptS E ins n v).2.length=n∧(ptS E ins n v).1.length≤v∧∀p∈(ptS E ins n v).1,p.length≤n∧∀y∈p,0≤y∧y<n
 |0=>⟨by simp [ptS],by simp [ptS],fun p hp=>(by cases hp)⟩
 |v+1=>by
  obtain⟨h1,h2,h3⟩:=Ql v
  by_cases hc:gb ins v=false∨gb (ptS E ins n v).2 v=true
  ·rw [Vg hc]
   exact⟨h1,by omega,h3⟩
  ·have ha:gb ins v=true:=by cases hb:gb ins v with|true=>rfl|false=>exact absurd (.inl hb) hc
   have hb:gb (ptS E ins n v).2 v=false:=by cases hb:gb (ptS E ins n v).2 v with|false=>rfl|true=>exact absurd (.inr hb) hc
   rw [Wg ha hb]
   refine⟨by rw [XN];exact h1,?_,?_⟩
   ·simp only
    split
    ·rw [List.length_append,List.length_singleton];omega
    ·omega
   ·simp only
    split
    ·intro p hp
     rcases List.mem_append.1 hp with hp|hp
     ·exact h3 p hp
     ·rw [List.mem_singleton]at hp
      subst hp
      exact⟨uq,fun y hy=>Vc hy⟩
    ·exact h3
set_option maxRecDepth 20000 in
set_option maxHeartbeats 8000000 in
theorem zD0 (a:Ar)(ha:zu a=true)(ins:List Bool)(v:Nat)(hv:v<a.owner.length)(hIn:ins.length=a.owner.length):Fn Try.prog tyT 89 [.agg (dAr a), .c (.lst 4 (dB ins)), .c (.int .i64 v)] [.c (DI (yZ a.next ins v a.owner.length))]:=by
 have hal:=zl ha
 have hA:=Jl a ha ins v hv hIn
 have hA2:=fun k hk=>Jl a ha ins k hk hIn
 have hbl:=fun v=>Jz a.next ins v a.owner.length
 have hF:=fun k (hk:k<a.owner.length)=>ki (E:=a.next) (ins:=ins) (v:=v) hk
 unfold dAr at hA hA2
 unfold dAr
 refine yK (fn:=Try.f89) (ts:= [6]) Try.func89 (by kernel_rfl) rfl rfl (by rw [Try.ntmps89];exact Nat.le_of_ble_eq_true rfl) rfl (by simp only [szA,List.mem_cons,List.not_mem_nil,or_false,forall_eq_or_imp,forall_eq,VT.cells,szL];try decide) ?_
 rw [Try.ntmps89]
 simp only [push_cast,↓zK,↓zJ,↓reduceIte,zA,zB,zC,zD,zE,zF,zG,zH,zI,reduceCtorEq]
 refine zL fun K hK=> ?_
 refine zM zQ zO [] rfl ?_
 simp only [push_cast,↓zK,↓zJ,↓reduceIte,zA,zB,zC,zD,zE,zF,zG,zH,zI,reduceCtorEq]
 repeat' apply And.intro
 all_goals try exact gB
 all_goals first|(refine hK _ ?_;clear hK K)|(simp only [push_cast];done)
 refine zL fun K hK=> ?_
 refine zM zQ zO [] rfl ?_
 simp only [push_cast,↓zK,↓zJ,↓reduceIte,zA,zB,zC,zD,zE,zF,zG,zH,zI,reduceCtorEq]
 repeat' apply And.intro
 all_goals try exact gB
 all_goals first|(refine hK _ ?_;clear hK K)|(simp only [push_cast];done)
 refine zL fun K hK=> ?_
 refine zM zQ zO [] rfl ?_
 all_goals refine yz 4 fun K9 hK9=> ?_
 all_goals simp only [push_cast,↓zK,↓zJ,↓reduceIte,zA,zB,zC,zD,zE,zF,zG,zH,zI,reduceCtorEq]
 all_goals repeat'(first|(apply zP<;>(intro hg;(try simp only [push_cast]at hg)))|(refine⟨_,hA,?_⟩;simp only [push_cast,↓zK,↓zJ,↓reduceIte,zA,zB,zC,zD,zE,zF,zG,zH,zI,reduceCtorEq])|apply And.intro|(intro hg;(try simp only [push_cast]at hg)))
 all_goals try exact gA
 all_goals first|(refine hK9 _ ?_;clear hK9 K9)|(simp only [push_cast];done)
 all_goals simp only [push_cast,↓zK,↓zJ,↓reduceIte,zA,zB,zC,zD,zE,zF,zG,zH,zI,reduceCtorEq]
 all_goals repeat'(first|(apply zP<;>(intro hg;(try simp only [push_cast]at hg)))|(refine⟨_,hA,?_⟩;simp only [push_cast,↓zK,↓zJ,↓reduceIte,zA,zB,zC,zD,zE,zF,zG,zH,zI,reduceCtorEq])|apply And.intro|(intro hg;(try simp only [push_cast]at hg)))
 all_goals try exact gA
 all_goals first|(refine hK _ ?_;clear hK K)|(simp only [push_cast];done)
 refine zL fun K1 hK1=> ?_
 have hbv:=hbl v
 refine zL fun K hK=> ?_
 refine zM zQ zO [] rfl ?_
 simp only [push_cast,↓zK,↓zJ,↓reduceIte,zA,zB,zC,zD,zE,zF,zG,zH,zI,reduceCtorEq]
 repeat' apply And.intro
 all_goals try exact gB
 all_goals first|(refine hK _ ?_;clear hK K)|(simp only [push_cast];done)
 refine zU rfl (fun hc=> ?_) (fun hc=> ?_)<;>(try simp only [push_cast]at hc)
 ·
  refine zL fun K hK=> ?_
  refine zM zQ zO [] rfl ?_
  simp only [push_cast,↓zK,↓zJ,↓reduceIte,zA,zB,zC,zD,zE,zF,zG,zH,zI,reduceCtorEq]
  repeat' apply And.intro
  all_goals try exact gB
  all_goals first|(refine hK _ ?_;clear hK K)|(simp only [push_cast];done)
  refine zc ?_
  (try simp only [zR,zS])
  refine⟨Or.inl rfl,?_⟩
  simp only [zi,push_cast,↓zK,↓zJ,↓reduceIte,zA,zB,zC,zD,zE,zF,zG,zH,zI,reduceCtorEq]
  rw [zHO (by with_reducible assumption)]
  all_goals first|rfl|exact⟨rfl,rfl⟩|skip
 ·
  refine zV ?_
  (try simp only [zR,zS,reduceIte,zF]);refine hK1 _ ?_
  refine zL fun K2 hK2=> ?_
  refine zL fun K hK=> ?_
  refine zM zQ zO [] rfl ?_
  simp only [push_cast,↓zK,↓zJ,↓reduceIte,zA,zB,zC,zD,zE,zF,zG,zH,zI,reduceCtorEq]
  repeat' apply And.intro
  all_goals try exact gB
  all_goals first|(refine hK _ ?_;clear hK K)|(simp only [push_cast];done)
  refine zT ?_
  refine zh [7,9,10,22,23,24,25,26,27,28,29,30,31,32,33,34,35,36,37,38,39,40,41,42,43] [112] (fun(k:Nat)=> [(9, .int .i64 k),(7, .sl 112 [] 0 (xL (QQ a.next ins v a.owner.length) k).length 2)]) (fun k=> []) (fun k=> [(112,⟨.ex,2,dI (xL (QQ a.next ins v a.owner.length) k),none⟩)]) (fun k=>k≤a.owner.length) (fun k=>a.owner.length - k) 0 ?_ (by omega) ?_
  ·
   refine zX rfl ?_ ?_ ?_<;>simp only [zg,zf,push_cast,↓zK,↓zJ,↓reduceIte,zA,zB,zC,zD,zE,zF,zG,zH,zI,reduceCtorEq]
   all_goals first|rfl|exact⟨rfl,rfl⟩|skip
  ·rintro k hk KL0 hL0
   have hil:=XD (QQ a.next ins v a.owner.length) k
   have hbk:=hbl k
   have hbv:=hbl v
   simp only [push_cast,↓zK,↓zJ,↓reduceIte,zA,zB,zC,zD,zE,zF,zG,zH,zI,reduceCtorEq]
   refine zL fun K3 hK3=> ?_
   refine zL fun K hK=> ?_
   refine zM zQ zO [] rfl ?_
   simp only [push_cast,↓zK,↓zJ,↓reduceIte,zA,zB,zC,zD,zE,zF,zG,zH,zI,reduceCtorEq]
   repeat' apply And.intro
   all_goals try exact gB
   all_goals first|(refine hK _ ?_;clear hK K)|(simp only [push_cast];done)
   refine zU rfl (fun hc=> ?_) (fun hc=> ?_)<;>(try simp only [push_cast]at hc)
   ·
    refine zV ?_
    (try simp only [zR,zS,reduceIte,zF]);refine hK3 _ ?_
    refine zL fun K4 hK4=> ?_
    refine zT ?_
    refine zL fun K hK=> ?_
    refine zM zQ zO [] rfl ?_
    simp only [push_cast,↓zK,↓zJ,↓reduceIte,zA,zB,zC,zD,zE,zF,zG,zH,zI,reduceCtorEq]
    repeat' apply And.intro
    all_goals try exact gB
    all_goals first|(refine hK _ ?_;clear hK K)|(simp only [push_cast];done)
    refine zU rfl (fun hc=> ?_) (fun hc=> ?_)<;>(try simp only [push_cast]at hc)
    ·
     refine zL fun K hK=> ?_
     refine zM zQ zO [] rfl ?_
     all_goals refine yz 4 fun K9 hK9=> ?_
     all_goals simp only [push_cast,↓zK,↓zJ,↓reduceIte,zA,zB,zC,zD,zE,zF,zG,zH,zI,reduceCtorEq]
     all_goals repeat'(first|(apply zP<;>(intro hg;(try simp only [push_cast]at hg)))|(refine⟨_,hA2 k (by omega),?_⟩;simp only [push_cast,↓zK,↓zJ,↓reduceIte,zA,zB,zC,zD,zE,zF,zG,zH,zI,reduceCtorEq])|apply And.intro|(intro hg;(try simp only [push_cast]at hg)))
     all_goals try exact gA
     all_goals first|(refine hK9 _ ?_;clear hK9 K9)|(simp only [push_cast];done)
     all_goals simp only [push_cast,↓zK,↓zJ,↓reduceIte,zA,zB,zC,zD,zE,zF,zG,zH,zI,reduceCtorEq]
     all_goals repeat'(first|(apply zP<;>(intro hg;(try simp only [push_cast]at hg)))|(refine⟨_,hA2 k (by omega),?_⟩;simp only [push_cast,↓zK,↓zJ,↓reduceIte,zA,zB,zC,zD,zE,zF,zG,zH,zI,reduceCtorEq])|apply And.intro|(intro hg;(try simp only [push_cast]at hg)))
     all_goals try exact gA
     all_goals first|(refine hK _ ?_;clear hK K)|(simp only [push_cast];done)
     refine zL fun K hK=> ?_
     refine zM zQ zO [] rfl ?_
     simp only [push_cast,↓zK,↓zJ,↓reduceIte,zA,zB,zC,zD,zE,zF,zG,zH,zI,reduceCtorEq]
     repeat' apply And.intro
     all_goals try exact gB
     all_goals first|(refine hK _ ?_;clear hK K)|(simp only [push_cast];done)
     refine zU rfl (fun hc=> ?_) (fun hc=> ?_)<;>(try simp only [push_cast]at hc)
     ·
      refine zM zQ zO [] rfl ?_
      simp only [push_cast,↓zK,↓zJ,↓reduceIte,zA,zB,zC,zD,zE,zF,zG,zH,zI,reduceCtorEq]
      repeat' apply And.intro
      all_goals try exact gB
      (try simp only [zR,zS,reduceIte,zF]);refine hK4 _ ?_
      refine zM zQ zO [] rfl ?_
      simp only [push_cast,↓zK,↓zJ,↓reduceIte,zA,zB,zC,zD,zE,zF,zG,zH,zI,reduceCtorEq]
      repeat' apply And.intro
      all_goals try exact gB
      refine hL0 _ ⟨k+1,by omega,by omega,?_⟩
      (try rw [List.take_of_length_le (l:=xL (QQ a.next ins v a.owner.length) k) (Nat.le_refl _)])
      rw [Zt (show gb (QQ a.next ins v a.owner.length) k=true from by rw [hF k (by omega),‹gb (vX a.next ins v a.owner.length) k=true›,‹gb (vX a.next ins k a.owner.length) v=true›];rfl)]
      simp only [List.length_append,List.length_cons,List.length_nil,Nat.zero_add]
      refine zX rfl ?_ ?_ ?_<;>simp only [zg,zf,push_cast,↓zK,↓zJ,↓reduceIte,zA,zB,zC,zD,zE,zF,zG,zH,zI,reduceCtorEq]
      all_goals first|rfl|exact⟨rfl,rfl⟩|skip
     ·
      refine zV ?_
      (try simp only [zR,zS,reduceIte,zF]);refine hK4 _ ?_
      refine zM zQ zO [] rfl ?_
      simp only [push_cast,↓zK,↓zJ,↓reduceIte,zA,zB,zC,zD,zE,zF,zG,zH,zI,reduceCtorEq]
      repeat' apply And.intro
      all_goals try exact gB
      refine hL0 _ ⟨k+1,by omega,by omega,?_⟩
      rw [Zs (show gb (QQ a.next ins v a.owner.length) k=false from by rw [hF k (by omega),‹gb (vX a.next ins k a.owner.length) v=false›,Bool.and_false])]
      refine zX rfl ?_ ?_ ?_<;>simp only [zg,zf,push_cast,↓zK,↓zJ,↓reduceIte,zA,zB,zC,zD,zE,zF,zG,zH,zI,reduceCtorEq]
      all_goals first|rfl|exact⟨rfl,rfl⟩|skip
    ·
     refine zV ?_
     (try simp only [zR,zS,reduceIte,zF]);refine hK4 _ ?_
     refine zM zQ zO [] rfl ?_
     simp only [push_cast,↓zK,↓zJ,↓reduceIte,zA,zB,zC,zD,zE,zF,zG,zH,zI,reduceCtorEq]
     repeat' apply And.intro
     all_goals try exact gB
     refine hL0 _ ⟨k+1,by omega,by omega,?_⟩
     rw [Zs (show gb (QQ a.next ins v a.owner.length) k=false from by rw [hF k (by omega),‹gb (vX a.next ins v a.owner.length) k=false›,Bool.false_and])]
     refine zX rfl ?_ ?_ ?_<;>simp only [zg,zf,push_cast,↓zK,↓zJ,↓reduceIte,zA,zB,zC,zD,zE,zF,zG,zH,zI,reduceCtorEq]
     all_goals first|rfl|exact⟨rfl,rfl⟩|skip
   ·
    refine zm ?_
    have hkk:k=a.owner.length:=by omega
    subst hkk
    (try simp only [zR,zS,reduceIte,zF]);refine hK2 _ ?_
    refine zL fun K hK=> ?_
    refine zM zQ zO [] rfl ?_
    simp only [push_cast,↓zK,↓zJ,↓reduceIte,zA,zB,zC,zD,zE,zF,zG,zH,zI,reduceCtorEq]
    repeat' apply And.intro
    all_goals try exact gB
    all_goals first|(refine hK _ ?_;clear hK K)|(simp only [push_cast];done)
    refine zc ?_
    (try simp only [zR,zS])
    refine⟨Or.inl rfl,?_⟩
    simp only [zi,push_cast,↓zK,↓zJ,↓reduceIte,zA,zB,zC,zD,zE,zF,zG,zH,zI,reduceCtorEq]
    rw [zFs (by with_reducible assumption)]
    all_goals first|rfl|exact⟨rfl,rfl⟩|skip
set_option maxRecDepth 20000 in
set_option maxHeartbeats 8000000 in
theorem zB4 (a:Ar)(ha:zu a=true)(ins:List Bool)(hIn:ins.length=a.owner.length):Fn Try.prog tyT 80 [.agg (dAr a), .c (.lst 4 (dB ins))] [.c (DII (ptS a.next ins a.owner.length a.owner.length).1)]:=by
 have hal:=zl ha
 have hP: ∀k,k<a.owner.length→Fn Try.prog tyT 89 [.agg (dAr a), .c (.lst 4 (dB (List.take a.owner.length ins))), .c (.int .i64 k)] [.c (DI (yZ a.next ins k a.owner.length))]:=fun k hk=>by rw [List.take_of_length_le (l:=ins) (by omega)];exact zD0 a ha ins k hk hIn
 have hpl:=fun v=>Ql (E:=a.next) (ins:=ins) (n:=a.owner.length) v
 unfold dAr at hP
 unfold dAr
 refine yK (fn:=Try.f80) (ts:= [4]) Try.func80 (by kernel_rfl) rfl rfl (by rw [Try.ntmps80];exact Nat.le_of_ble_eq_true rfl) rfl (by simp only [szA,List.mem_cons,List.not_mem_nil,or_false,forall_eq_or_imp,forall_eq,VT.cells,szL];try decide) ?_
 rw [Try.ntmps80]
 simp only [push_cast,↓zK,↓zJ,↓reduceIte,zA,zB,zC,zD,zE,zF,zG,zH,zI,reduceCtorEq]
 refine zL fun K hK=> ?_
 refine zM zQ zO [] rfl ?_
 simp only [push_cast,↓zK,↓zJ,↓reduceIte,zA,zB,zC,zD,zE,zF,zG,zH,zI,reduceCtorEq]
 repeat' apply And.intro
 all_goals try exact gB
 all_goals first|(refine hK _ ?_;clear hK K)|(simp only [push_cast];done)
 refine zL fun K hK=> ?_
 refine za false zQ zO ?_ rfl ?_
 ·kernel_rfl
 simp only [push_cast,↓zK,↓zJ,↓reduceIte,zA,zB,zC,zD,zE,zF,zG,zH,zI,reduceCtorEq]
 all_goals repeat'(first|(apply zP<;>(intro hg;(try simp only [push_cast]at hg)))|apply And.intro|(intro hg;(try simp only [push_cast]at hg)))
 all_goals try exact gA
 all_goals first|(refine hK _ ?_;clear hK K)|(simp only [push_cast];done)
 refine qq 22 5 (Nat.le_of_ble_eq_true rfl) ?_
 simp only [push_cast,↓zK,↓zJ,↓reduceIte,zA,zB,zC,zD,zE,zF,zG,zH,zI,reduceCtorEq]
 refine zL fun K hK=> ?_
 refine zM zQ zO [] rfl ?_
 simp only [push_cast,↓zK,↓zJ,↓reduceIte,zA,zB,zC,zD,zE,zF,zG,zH,zI,reduceCtorEq]
 repeat' apply And.intro
 all_goals try exact gB
 all_goals first|(refine hK _ ?_;clear hK K)|(simp only [push_cast];done)
 refine zL fun K1 hK1=> ?_
 (try rw [hIn])
 refine zL fun K hK=> ?_
 refine zM zQ zO [] rfl ?_
 simp only [push_cast,↓zK,↓zJ,↓reduceIte,zA,zB,zC,zD,zE,zF,zG,zH,zI,reduceCtorEq]
 repeat' apply And.intro
 all_goals try exact gB
 all_goals first|(refine hK _ ?_;clear hK K)|(simp only [push_cast];done)
 refine zT ?_
 refine zh [5,7,8,9,14,15,16,17,18,19,20,21,22,23,24,25,26,27,28,29,30,31,32,33,34,35,36,37,38,39,40,41,42,43,44,45,46,47,48,49,50,51,52,53] [80,96] (fun(v:Nat)=> [(7, .int .i64 v),(5, .sl 80 [] 0 (ptS a.next ins a.owner.length v).1.length 22)]) (fun v=> []) (fun v=> [(80,⟨.ex,22,dII (ptS a.next ins a.owner.length v).1,none⟩),(96,⟨.ex,4,dB (ptS a.next ins a.owner.length v).2,none⟩)]) (fun v=>v≤a.owner.length) (fun v=>a.owner.length - v) 0 ?_ (by omega) ?_
 ·
  refine zX rfl ?_ ?_ ?_<;>simp only [zg,zf,push_cast,↓zK,↓zJ,↓reduceIte,zA,zB,zC,zD,zE,zF,zG,zH,zI,reduceCtorEq]
  all_goals first|rfl|exact⟨rfl,rfl⟩|skip
 ·rintro v hv KL0 hL0
  simp only [push_cast,↓zK,↓zJ,↓reduceIte,zA,zB,zC,zD,zE,zF,zG,zH,zI,reduceCtorEq]
  refine zL fun K2 hK2=> ?_
  refine zL fun K hK=> ?_
  refine zM zQ zO [] rfl ?_
  simp only [push_cast,↓zK,↓zJ,↓reduceIte,zA,zB,zC,zD,zE,zF,zG,zH,zI,reduceCtorEq]
  repeat' apply And.intro
  all_goals try exact gB
  all_goals first|(refine hK _ ?_;clear hK K)|(simp only [push_cast];done)
  refine zU rfl (fun hc=> ?_) (fun hc=> ?_)<;>(try simp only [push_cast]at hc)
  ·
   refine zV ?_
   (try simp only [zR,zS,reduceIte,zF]);refine hK2 _ ?_
   refine zL fun K3 hK3=> ?_
   refine zT ?_
   refine zL fun K4 hK4=> ?_
   obtain⟨hl1,hl2,hl3⟩:=hpl v
   by_cases hq:gb ins v=false∨gb (ptS a.next ins a.owner.length v).2 v=true
   ·
    refine zL fun K hK=> ?_
    refine za false zQ zO ?_ rfl ?_
    ·kernel_rfl
    all_goals simp only [push_cast,↓zK,↓zJ,↓reduceIte,zA,zB,zC,zD,zE,zF,zG,zH,zI,reduceCtorEq]
    all_goals repeat'(first|(apply zP<;>(intro hg;(try simp only [push_cast]at hg)))|apply And.intro|(intro hg;(try simp only [push_cast]at hg)))
    all_goals try exact gA
    all_goals first|(refine hK _ ?_;clear hK K)|(simp only [push_cast];done)
    all_goals(
      refine zU rfl (fun hc=> ?_) (fun hc=> ?_)
      rotate_left
      ·exfalso;first|(cases hc;done)|(rcases hq with h9|h9<;>first|(rw [h9]at hg;cases hg;done)|(rw [h9]at hc;cases hc;done)|(simp_all;done))
      refine zm ?_
      (try simp only [zR,zS,reduceIte,zF]);refine hK3 _ ?_
      refine zM zQ zO [] rfl ?_
      simp only [push_cast,↓zK,↓zJ,↓reduceIte,zA,zB,zC,zD,zE,zF,zG,zH,zI,reduceCtorEq]
      repeat' apply And.intro
      all_goals try exact gB
      have hS1:=Vg hq
      refine hL0 _ ⟨v+1,by omega,by omega,?_⟩
      refine zX rfl ?_ ?_ ?_<;>simp only [zg,zf,push_cast,↓zK,↓zJ,↓reduceIte,zA,zB,zC,zD,zE,zF,zG,zH,zI,reduceCtorEq]
      all_goals first|(rw [hS1];done)|(rw [hS1];exact⟨rfl,rfl⟩)|(rw [hS1];simp only [List.length_append,List.length_cons,List.length_nil,Nat.zero_add];done)|trace_state)
   ·
    refine zL fun K hK=> ?_
    refine za false zQ zO ?_ rfl ?_
    ·kernel_rfl
    all_goals simp only [push_cast,↓zK,↓zJ,↓reduceIte,zA,zB,zC,zD,zE,zF,zG,zH,zI,reduceCtorEq]
    all_goals repeat'(first|(apply zP<;>(intro hg;(try simp only [push_cast]at hg)))|apply And.intro|(intro hg;(try simp only [push_cast]at hg)))
    all_goals try exact gA
    all_goals first|(refine hK _ ?_;clear hK K)|(simp only [push_cast];done)
    all_goals first|exact(hq (.inl (by with_reducible assumption))).elim|skip
    all_goals(
      refine zU rfl (fun hc=> ?_) (fun hc=> ?_)
      skip
      ·exfalso;first|(cases hc;done)|exact hq (.inl (by with_reducible assumption))|exact hq (.inr (by with_reducible assumption))|(simp_all;done)
      refine zV ?_
      (try simp only [zR,zS,reduceIte,zF]);refine hK4 _ ?_
      refine qq 22 5 (Nat.le_of_ble_eq_true rfl) ?_
      simp only [push_cast,↓zK,↓zJ,↓reduceIte,zA,zB,zC,zD,zE,zF,zG,zH,zI,reduceCtorEq]
      have hin:gb ins v=true:=by with_reducible assumption
      have hdn:gb (ptS a.next ins a.owner.length v).2 v=false:=by with_reducible assumption
      refine zL fun K hK=> ?_
      refine zM zQ zO [] rfl ?_
      all_goals refine yz 4 fun K9 hK9=> ?_
      all_goals simp only [push_cast,↓zK,↓zJ,↓reduceIte,zA,zB,zC,zD,zE,zF,zG,zH,zI,reduceCtorEq]
      all_goals repeat'(first|(apply zP<;>(intro hg;(try simp only [push_cast]at hg)))|(refine⟨_,hP v (by omega),?_⟩;simp only [push_cast,↓zK,↓zJ,↓reduceIte,zA,zB,zC,zD,zE,zF,zG,zH,zI,reduceCtorEq])|apply And.intro|(intro hg;(try simp only [push_cast]at hg)))
      all_goals try exact gA
      all_goals first|(refine hK9 _ ?_;clear hK9 K9)|(simp only [push_cast];done)
      all_goals simp only [push_cast,↓zK,↓zJ,↓reduceIte,zA,zB,zC,zD,zE,zF,zG,zH,zI,reduceCtorEq]
      all_goals repeat'(first|(apply zP<;>(intro hg;(try simp only [push_cast]at hg)))|(refine⟨_,hP v (by omega),?_⟩;simp only [push_cast,↓zK,↓zJ,↓reduceIte,zA,zB,zC,zD,zE,zF,zG,zH,zI,reduceCtorEq])|apply And.intro|(intro hg;(try simp only [push_cast]at hg)))
      all_goals try exact gA
      all_goals first|(refine hK _ ?_;clear hK K)|(simp only [push_cast];done)
      refine zL fun K5 hK5=> ?_
      refine zL fun K hK=> ?_
      refine zM zQ zO [] rfl ?_
      simp only [push_cast,↓zK,↓zJ,↓reduceIte,zA,zB,zC,zD,zE,zF,zG,zH,zI,reduceCtorEq]
      repeat' apply And.intro
      all_goals try exact gB
      all_goals first|(refine hK _ ?_;clear hK K)|(simp only [push_cast];done)
      refine zT ?_
      refine zh [9,25,35,36,37,38,39,40,41,42,43,44,45,46] [96] (fun(i:Nat)=> [(9, .int .i64 i)]) (fun i=> []) (fun i=> [(96,⟨.ex,4,dB (wI (ptS a.next ins a.owner.length v).2 ((yZ a.next ins v a.owner.length).take i)),none⟩)]) (fun i=>i≤(yZ a.next ins v a.owner.length).length) (fun i=>(yZ a.next ins v a.owner.length).length - i) 0 ?_ (by omega) ?_
      ·
       refine zX rfl ?_ ?_ ?_<;>simp only [zg,zf,push_cast,↓zK,↓zJ,↓reduceIte,zA,zB,zC,zD,zE,zF,zG,zH,zI,reduceCtorEq]
       all_goals first|rfl|skip
      ·rintro i hi KL1 hL1
       have hsl:=XN ((yZ a.next ins v a.owner.length).take i) (ptS a.next ins a.owner.length v).2
       have hpl9:=uq (E:=a.next) (ins:=ins) (v:=v) (n:=a.owner.length)
       simp only [push_cast,↓zK,↓zJ,↓reduceIte,zA,zB,zC,zD,zE,zF,zG,zH,zI,reduceCtorEq]
       refine zL fun K6 hK6=> ?_
       refine zL fun K hK=> ?_
       refine zM zQ zO [] rfl ?_
       simp only [push_cast,↓zK,↓zJ,↓reduceIte,zA,zB,zC,zD,zE,zF,zG,zH,zI,reduceCtorEq]
       repeat' apply And.intro
       all_goals try exact gB
       all_goals first|(refine hK _ ?_;clear hK K)|(simp only [push_cast];done)
       refine zU rfl (fun hc=> ?_) (fun hc=> ?_)<;>(try simp only [push_cast]at hc)
       ·
        refine zV ?_
        (try simp only [zR,zS,reduceIte,zF]);refine hK6 _ ?_
        refine zL fun K7 hK7=> ?_
        refine zT ?_
        have hpr:=Vc (E:=a.next) (ins:=ins) (v:=v) (n:=a.owner.length) (y:=gi (yZ a.next ins v a.owner.length) i) (List.mem_of_getElem? (Za (by omega)))
        refine zM zQ zO [] rfl ?_
        simp only [push_cast,↓zK,↓zJ,↓reduceIte,zA,zB,zC,zD,zE,zF,zG,zH,zI,reduceCtorEq]
        repeat' apply And.intro
        all_goals try exact gB
        (try simp only [zR,zS,reduceIte,zF]);refine hK7 _ ?_
        refine zM zQ zO [] rfl ?_
        simp only [push_cast,↓zK,↓zJ,↓reduceIte,zA,zB,zC,zD,zE,zF,zG,zH,zI,reduceCtorEq]
        repeat' apply And.intro
        all_goals try exact gB
        refine hL1 _ ⟨i+1,by omega,by omega,?_⟩
        refine zX rfl ?_ ?_ ?_<;>simp only [zg,zf,push_cast,↓zK,↓zJ,↓reduceIte,zA,zB,zC,zD,zE,zF,zG,zH,zI,reduceCtorEq]
        all_goals first|rfl|(rw [uy (by omega)];done)|skip
       ·
        refine zm ?_
        have hii:i=(yZ a.next ins v a.owner.length).length:=by omega
        subst hii
        rw [List.take_length]
        (try simp only [zR,zS,reduceIte,zF]);refine hK5 _ ?_
        refine zL fun K hK=> ?_
        refine zM zQ zO [] rfl ?_
        simp only [push_cast,↓zK,↓zJ,↓reduceIte,zA,zB,zC,zD,zE,zF,zG,zH,zI,reduceCtorEq]
        repeat' apply And.intro
        all_goals try exact gB
        all_goals first|(refine hK _ ?_;clear hK K)|(simp only [push_cast];done)
        refine zU rfl (fun hc=> ?_) (fun hc=> ?_)<;>(try simp only [push_cast]at hc)
        ·
         refine za false zQ zO ?_ rfl ?_
         ·kernel_rfl
         simp only [push_cast,↓zK,↓zJ,↓reduceIte,zA,zB,zC,zD,zE,zF,zG,zH,zI,reduceCtorEq]
         all_goals repeat'(first|(apply zP<;>(intro hg;(try simp only [push_cast]at hg)))|apply And.intro|(intro hg;(try simp only [push_cast]at hg)))
         all_goals try exact gA
         (try simp only [zR,zS,reduceIte,zF]);refine hK3 _ ?_
         refine qq 22 5 (Nat.le_of_ble_eq_true rfl) ?_
         simp only [push_cast,↓zK,↓zJ,↓reduceIte,zA,zB,zC,zD,zE,zF,zG,zH,zI,reduceCtorEq]
         have hin:gb ins v=true:=by with_reducible assumption
         have hdn:gb (ptS a.next ins a.owner.length v).2 v=false:=by with_reducible assumption
         refine zM zQ zO [] rfl ?_
         simp only [push_cast,↓zK,↓zJ,↓reduceIte,zA,zB,zC,zD,zE,zF,zG,zH,zI,reduceCtorEq]
         repeat' apply And.intro
         all_goals try exact gB
         have hS1:ptS a.next ins a.owner.length (v+1)=((ptS a.next ins a.owner.length v).1++ [(yZ a.next ins v a.owner.length)],wI (ptS a.next ins a.owner.length v).2 (yZ a.next ins v a.owner.length)):=by rw [Wg hin hdn,if_pos (by omega)]
         refine hL0 _ ⟨v+1,by omega,by omega,?_⟩
         refine zX rfl ?_ ?_ ?_<;>simp only [zg,zf,push_cast,↓zK,↓zJ,↓reduceIte,zA,zB,zC,zD,zE,zF,zG,zH,zI,reduceCtorEq]
         all_goals first|(rw [hS1];done)|(rw [hS1];exact⟨rfl,rfl⟩)|(rw [hS1];simp only [List.length_append,List.length_cons,List.length_nil,Nat.zero_add];done)|trace_state
        ·
         refine zV ?_
         (try simp only [zR,zS,reduceIte,zF]);refine hK3 _ ?_
         refine qq 22 5 (Nat.le_of_ble_eq_true rfl) ?_
         simp only [push_cast,↓zK,↓zJ,↓reduceIte,zA,zB,zC,zD,zE,zF,zG,zH,zI,reduceCtorEq]
         have hin:gb ins v=true:=by with_reducible assumption
         have hdn:gb (ptS a.next ins a.owner.length v).2 v=false:=by with_reducible assumption
         refine zM zQ zO [] rfl ?_
         simp only [push_cast,↓zK,↓zJ,↓reduceIte,zA,zB,zC,zD,zE,zF,zG,zH,zI,reduceCtorEq]
         repeat' apply And.intro
         all_goals try exact gB
         have hS1:ptS a.next ins a.owner.length (v+1)=((ptS a.next ins a.owner.length v).1,wI (ptS a.next ins a.owner.length v).2 (yZ a.next ins v a.owner.length)):=by rw [Wg hin hdn,if_neg (by omega)]
         refine hL0 _ ⟨v+1,by omega,by omega,?_⟩
         refine zX rfl ?_ ?_ ?_<;>simp only [zg,zf,push_cast,↓zK,↓zJ,↓reduceIte,zA,zB,zC,zD,zE,zF,zG,zH,zI,reduceCtorEq]
         all_goals first|(rw [hS1];done)|(rw [hS1];exact⟨rfl,rfl⟩)|(rw [hS1];simp only [List.length_append,List.length_cons,List.length_nil,Nat.zero_add];done)|trace_state)
  ·
   refine zm ?_
   have hvv:v=a.owner.length:=by omega
   subst hvv
   (try simp only [zR,zS,reduceIte,zF]);refine hK1 _ ?_
   refine zL fun K hK=> ?_
   refine zM zQ zO [] rfl ?_
   simp only [push_cast,↓zK,↓zJ,↓reduceIte,zA,zB,zC,zD,zE,zF,zG,zH,zI,reduceCtorEq]
   repeat' apply And.intro
   all_goals try exact gB
   all_goals first|(refine hK _ ?_;clear hK K)|(simp only [push_cast];done)
   refine zc ?_
   (try simp only [zR,zS])
   refine⟨Or.inl rfl,?_⟩
   simp only [zi,push_cast,↓zK,↓zJ,↓reduceIte,zA,zB,zC,zD,zE,zF,zG,zH,zI,reduceCtorEq]
   all_goals first|rfl|exact⟨rfl,rfl⟩|skip
theorem zFN {L:List (List Int)}{k:Nat}(h:k<L.length):L[k]? =some (gl L k):=by unfold gl;rw [List.getD_eq_getElem?_getD,List.getElem?_eq_getElem h];rfl
def opI (g:List Int)(n:Nat):List Bool:=xG n fun x=> !zn g (x:Int)
theorem zC7 (g:List Int)(n:Nat):(opI g n).length=n:=by simp [opI,xG]
def brP (q:List Int)(L:List (List Int))(d:List Bool):Nat→List Bool
 |0=>d
 |k+1=>if vb q (gl L k)then wI (brP q L d k) (gl L k)else brP q L d k
theorem zCc {q:List Int}{L:List (List Int)}{d:List Bool}{k:Nat}(h:vb q (gl L k)=true):brP q L d (k+1)=wI (brP q L d k) (gl L k):=by simp only [brP];rw [if_pos h]
theorem zEv {q:List Int}{L:List (List Int)}{d:List Bool}{k:Nat}(h:vb q (gl L k)=false):brP q L d (k+1)=brP q L d k:=by simp only [brP];rw [if_neg (by rw [h];decide)]
theorem JC {q:List Int}{L:List (List Int)}{d:List Bool}: ∀k,(brP q L d k).length=d.length
 |0=>rfl
 |k+1=>by
  have :=JC (q:=q) (L:=L) (d:=d) k
  simp only [brP]
  split
  ·rw [XN];exact this
  ·exact this
noncomputable def brA (E:List (List Int))(n:Nat)(ps:List Pr):Nat→List Bool
 |0=>List.replicate n false
 |i+1=>brP (gp ps i).ask (ptS E (opI (gp ps i).give n) n n).1 (brA E n ps i) (ptS E (opI (gp ps i).give n) n n).1.length
theorem JB (E:List (List Int))(n:Nat)(ps:List Pr): ∀i,(brA E n ps i).length=n
 |0=>by simp [brA]
 |i+1=>by simp only [brA];rw [JC];exact JB E n ps i
set_option maxRecDepth 20000 in
set_option maxHeartbeats 8000000 in
theorem kU (a:Ar)(ha:zu a=true)(ps:List Pr)(hps:PLn 1048576 ps):Fn Try.prog tyT 60 [.agg (dAr a), .c (.lst 76 (dII (ilv ps)))] [.c (.lst 4 (dB (brA a.next a.owner.length ps ps.length)))]:=by
 have hal:=zl ha
 have hpl:=hps.1
 have hgp:=fun k=>jG hps k
 have hga: ∀k,(gp ps k).ask.length≤1048576:=fun k=>(hgp k).ask
 have hgg: ∀k,(gp ps k).give.length≤1048576:=fun k=>(hgp k).give
 have hli:=wT ps
 have hIn:=fun i=>zAt a.owner.length (by omega) (gp ps i).give (hgg i)
 have hPa:=fun i=>zB4 a ha (opI (gp ps i).give a.owner.length) (zC7 _ _)
 have hLn:=fun i=>Ql (E:=a.next) (ins:=opI (gp ps i).give a.owner.length) (n:=a.owner.length) a.owner.length
 have hbl:=fun i=>JB a.next a.owner.length ps i
 unfold opI at hPa
 unfold dAr at hPa
 unfold dAr
 refine yK (fn:=Try.f60) (ts:= [4]) Try.func60 (by kernel_rfl) rfl rfl (by rw [Try.ntmps60];exact Nat.le_of_ble_eq_true rfl) rfl (by simp only [szA,List.mem_cons,List.not_mem_nil,or_false,forall_eq_or_imp,forall_eq,VT.cells,szL];try decide) ?_
 rw [Try.ntmps60]
 simp only [push_cast,↓zK,↓zJ,↓reduceIte,zA,zB,zC,zD,zE,zF,zG,zH,zI,reduceCtorEq]
 refine zL fun K hK=> ?_
 refine zM zQ zO [] rfl ?_
 all_goals simp only [push_cast,↓zK,↓zJ,↓reduceIte,zA,zB,zC,zD,zE,zF,zG,zH,zI,reduceCtorEq]
 all_goals repeat'(first|(apply zP<;>(intro hg;(try simp only [push_cast]at hg)))|apply And.intro|(intro hg;(try simp only [push_cast]at hg)))
 all_goals first|exact gA|(exact zN (by omega))|(exact zN (by simp only [push_cast];omega))|skip
 all_goals first|(refine hK _ ?_;clear hK K)|(simp only [push_cast];done)
 refine zL fun K hK=> ?_
 refine zM zQ zO [] rfl ?_
 all_goals simp only [push_cast,↓zK,↓zJ,↓reduceIte,zA,zB,zC,zD,zE,zF,zG,zH,zI,reduceCtorEq]
 all_goals repeat'(first|(apply zP<;>(intro hg;(try simp only [push_cast]at hg)))|apply And.intro|(intro hg;(try simp only [push_cast]at hg)))
 all_goals first|exact gA|(exact zN (by omega))|(exact zN (by simp only [push_cast];omega))|skip
 all_goals first|(refine hK _ ?_;clear hK K)|(simp only [push_cast];done)
 refine zL fun K1 hK1=> ?_
 refine zL fun K hK=> ?_
 refine zM zQ zO [] rfl ?_
 all_goals simp only [push_cast,↓zK,↓zJ,↓reduceIte,zA,zB,zC,zD,zE,zF,zG,zH,zI,reduceCtorEq]
 all_goals repeat'(first|(apply zP<;>(intro hg;(try simp only [push_cast]at hg)))|apply And.intro|(intro hg;(try simp only [push_cast]at hg)))
 all_goals first|exact gA|(exact zN (by omega))|(exact zN (by simp only [push_cast];omega))|skip
 all_goals first|(refine hK _ ?_;clear hK K)|(simp only [push_cast];done)
 refine zT ?_
 refine zh [6,7,8,9,14,15,16,17,18,19,20,21,22,23,24,25,26,27,28,29,30,31,32,33,34,35,36,37,38,39,40,41,42,43,44,45,46,47,48,49,50,51,52,53,54,55,56,57,58,59,60,61,62,63,64] [80] (fun(i:Nat)=> [(6, .int .i64 i)]) (fun i=> []) (fun i=> [(80,⟨.ex,4,dB (brA a.next a.owner.length ps i),none⟩)]) (fun i=>i≤ps.length) (fun i=>ps.length - i) 0 ?_ (by omega) ?_
 ·
  refine zX rfl ?_ ?_ ?_<;>simp only [zg,zf,push_cast,↓zK,↓zJ,↓reduceIte,zA,zB,zC,zD,zE,zF,zG,zH,zI,reduceCtorEq]
  all_goals first|rfl|skip
 ·rintro i hi KL0 hL0
  have hbi:=hbl i
  simp only [push_cast,↓zK,↓zJ,↓reduceIte,zA,zB,zC,zD,zE,zF,zG,zH,zI,reduceCtorEq]
  refine zL fun K2 hK2=> ?_
  refine zL fun K hK=> ?_
  refine zM zQ zO [] rfl ?_
  all_goals simp only [push_cast,↓zK,↓zJ,↓reduceIte,zA,zB,zC,zD,zE,zF,zG,zH,zI,reduceCtorEq]
  all_goals repeat'(first|(apply zP<;>(intro hg;(try simp only [push_cast]at hg)))|apply And.intro|(intro hg;(try simp only [push_cast]at hg)))
  all_goals first|exact gA|(exact zN (by omega))|(exact zN (by simp only [push_cast];omega))|skip
  all_goals first|(refine hK _ ?_;clear hK K)|(simp only [push_cast];done)
  refine zU rfl (fun hc=> ?_) (fun hc=> ?_)<;>(try simp only [push_cast]at hc)
  ·
   refine zV ?_
   (try simp only [zR,zS,reduceIte,zF]);refine hK2 _ ?_
   refine zL fun K3 hK3=> ?_
   refine zT ?_
   refine zL fun K hK=> ?_
   refine yB false zQ zO xW ?_ rfl ?_
   ·kernel_rfl
   intro E hE
   all_goals refine yP 10 (by decide) fun K9 hK9=> ?_
   all_goals simp only [push_cast,↓zK,↓zJ,↓reduceIte,zA,zB,zC,zD,zE,zF,zG,zH,zI,reduceCtorEq]
   all_goals repeat'(first|(apply zP<;>(intro hg;(try simp only [push_cast]at hg)))|(refine⟨_,hIn i,?_⟩;simp only [push_cast,↓zK,↓zJ,↓reduceIte,zA,zB,zC,zD,zE,zF,zG,zH,zI,reduceCtorEq])|(refine⟨_,hPa i,?_⟩;simp only [push_cast,↓zK,↓zJ,↓reduceIte,zA,zB,zC,zD,zE,zF,zG,zH,zI,reduceCtorEq])|apply And.intro|(intro hg;(try simp only [push_cast]at hg)))
   all_goals first|exact gA|(exact zN (by omega))|(exact zN (by simp only [push_cast];omega))|skip
   all_goals first|(refine hK9 _ _ ?_;clear hK9 K9)|(simp only [push_cast];done)
   all_goals refine yP 1 (by decide) fun K9 hK9=> ?_
   all_goals simp only [push_cast,↓zK,↓zJ,↓reduceIte,zA,zB,zC,zD,zE,zF,zG,zH,zI,reduceCtorEq]
   all_goals repeat'(first|(apply zP<;>(intro hg;(try simp only [push_cast]at hg)))|(refine⟨_,hIn i,?_⟩;simp only [push_cast,↓zK,↓zJ,↓reduceIte,zA,zB,zC,zD,zE,zF,zG,zH,zI,reduceCtorEq])|(refine⟨_,hPa i,?_⟩;simp only [push_cast,↓zK,↓zJ,↓reduceIte,zA,zB,zC,zD,zE,zF,zG,zH,zI,reduceCtorEq])|apply And.intro|(intro hg;(try simp only [push_cast]at hg)))
   all_goals first|exact gA|(exact zN (by omega))|(exact zN (by simp only [push_cast];omega))|skip
   all_goals first|(refine hK9 _ _ ?_;clear hK9 K9)|(simp only [push_cast];done)
   all_goals simp only [push_cast,↓zK,↓zJ,↓reduceIte,zA,zB,zC,zD,zE,zF,zG,zH,zI,reduceCtorEq]
   all_goals repeat'(first|(apply zP<;>(intro hg;(try simp only [push_cast]at hg)))|(refine⟨_,hIn i,?_⟩;simp only [push_cast,↓zK,↓zJ,↓reduceIte,zA,zB,zC,zD,zE,zF,zG,zH,zI,reduceCtorEq])|(refine⟨_,hPa i,?_⟩;simp only [push_cast,↓zK,↓zJ,↓reduceIte,zA,zB,zC,zD,zE,zF,zG,zH,zI,reduceCtorEq])|apply And.intro|(intro hg;(try simp only [push_cast]at hg)))
   all_goals first|exact gA|(refine hE _ _ ?_ ?_;kernel_rfl)|(exact zN (by omega))|(exact zN (by simp only [push_cast];omega))|skip
   all_goals clear hE E
   all_goals first|(refine hK _ ?_;clear hK K)|(simp only [push_cast];done)
   refine zL fun K hK=> ?_
   refine zM zQ zO [] rfl ?_
   all_goals simp only [push_cast,↓zK,↓zJ,↓reduceIte,zA,zB,zC,zD,zE,zF,zG,zH,zI,reduceCtorEq]
   all_goals repeat'(first|(apply zP<;>(intro hg;(try simp only [push_cast]at hg)))|apply And.intro|(intro hg;(try simp only [push_cast]at hg)))
   all_goals first|exact gA|(exact zN (by omega))|(exact zN (by simp only [push_cast];omega))|skip
   all_goals first|(refine hK _ ?_;clear hK K)|(simp only [push_cast];done)
   refine zT ?_
   obtain⟨hL1,hL2,hL3⟩:=hLn i
   obtain⟨L,hL⟩: ∃L,(ptS a.next (opI (gp ps i).give a.owner.length) a.owner.length a.owner.length).1=L:=⟨_,rfl⟩
   have hL9:(ptS a.next (xG a.owner.length fun x=> !zn (gp ps i).give (x:Int)) a.owner.length a.owner.length).1=L:=hL
   rw [hL]at hL2 hL3
   rw [hL9]
   have hbs:brA a.next a.owner.length ps (i+1)=brP (gp ps i).ask L (brA a.next a.owner.length ps i) L.length:=by rw [←hL];rfl
   refine zh [8,9,31,32,33,34,35,36,37,38,39,40,41,42,43,44,45,46,47,48,49,50,51,52,53,54,55,56,57,58,59,60,61,62,63,64] [80] (fun(k:Nat)=> [(8, .int .i64 k)]) (fun k=> []) (fun k=> [(80,⟨.ex,4,dB (brP (gp ps i).ask L (brA a.next a.owner.length ps i) k),none⟩)]) (fun k=>k≤L.length) (fun k=>L.length - k) 0 ?_ (by omega) ?_
   ·
    refine zX rfl ?_ ?_ ?_<;>simp only [zg,zf,push_cast,↓zK,↓zJ,↓reduceIte,zA,zB,zC,zD,zE,zF,zG,zH,zI,reduceCtorEq]
    all_goals first|rfl|skip
   ·rintro k hk KL1 hL1
    have hbk:=JC (q:=(gp ps i).ask) (L:=L) (d:=(brA a.next a.owner.length ps i)) k
    simp only [push_cast,↓zK,↓zJ,↓reduceIte,zA,zB,zC,zD,zE,zF,zG,zH,zI,reduceCtorEq]
    refine zL fun K4 hK4=> ?_
    refine zL fun K hK=> ?_
    refine zM zQ zO [] rfl ?_
    all_goals simp only [push_cast,↓zK,↓zJ,↓reduceIte,zA,zB,zC,zD,zE,zF,zG,zH,zI,reduceCtorEq]
    all_goals repeat'(first|(apply zP<;>(intro hg;(try simp only [push_cast]at hg)))|apply And.intro|(intro hg;(try simp only [push_cast]at hg)))
    all_goals first|exact gA|(exact zN (by omega))|(exact zN (by simp only [push_cast];omega))|skip
    all_goals first|(refine hK _ ?_;clear hK K)|(simp only [push_cast];done)
    refine zU rfl (fun hc=> ?_) (fun hc=> ?_)<;>(try simp only [push_cast]at hc)
    ·
     refine zV ?_
     (try simp only [zR,zS,reduceIte,zF]);refine hK4 _ ?_
     refine zL fun K5 hK5=> ?_
     refine zT ?_
     have hgk:=hL3 (gl L k) (List.mem_of_getElem? (zFN (by omega)))
     refine zL fun K hK=> ?_
     refine yB false zQ zO xW ?_ rfl ?_
     ·kernel_rfl
     intro E hE
     all_goals refine yP 10 (by decide) fun K9 hK9=> ?_
     all_goals simp only [push_cast,↓zK,↓zJ,↓reduceIte,zA,zB,zC,zD,zE,zF,zG,zH,zI,reduceCtorEq]
     all_goals repeat'(first|(apply zP<;>(intro hg;(try simp only [push_cast]at hg)))|(refine⟨_,qU (gp ps i).ask (gl L k) (hga i) (by omega),?_⟩;simp only [push_cast,↓zK,↓zJ,↓reduceIte,zA,zB,zC,zD,zE,zF,zG,zH,zI,reduceCtorEq])|apply And.intro|(intro hg;(try simp only [push_cast]at hg)))
     all_goals first|exact gA|(exact zN (by omega))|(exact zN (by simp only [push_cast];omega))|skip
     all_goals first|(refine hK9 _ _ ?_;clear hK9 K9)|(simp only [push_cast];done)
     all_goals simp only [push_cast,↓zK,↓zJ,↓reduceIte,zA,zB,zC,zD,zE,zF,zG,zH,zI,reduceCtorEq]
     all_goals repeat'(first|(apply zP<;>(intro hg;(try simp only [push_cast]at hg)))|(refine⟨_,qU (gp ps i).ask (gl L k) (hga i) (by omega),?_⟩;simp only [push_cast,↓zK,↓zJ,↓reduceIte,zA,zB,zC,zD,zE,zF,zG,zH,zI,reduceCtorEq])|apply And.intro|(intro hg;(try simp only [push_cast]at hg)))
     all_goals first|exact gA|(refine hE _ _ ?_ ?_;kernel_rfl)|(exact zN (by omega))|(exact zN (by simp only [push_cast];omega))|skip
     all_goals clear hE E
     all_goals first|(refine hK _ ?_;clear hK K)|(simp only [push_cast];done)
     refine zU rfl (fun hc=> ?_) (fun hc=> ?_)<;>(try simp only [push_cast]at hc)
     ·
      refine zL fun K hK=> ?_
      refine zM zQ zO [] rfl ?_
      all_goals simp only [push_cast,↓zK,↓zJ,↓reduceIte,zA,zB,zC,zD,zE,zF,zG,zH,zI,reduceCtorEq]
      all_goals repeat'(first|(apply zP<;>(intro hg;(try simp only [push_cast]at hg)))|apply And.intro|(intro hg;(try simp only [push_cast]at hg)))
      all_goals first|exact gA|(exact zN (by omega))|(exact zN (by simp only [push_cast];omega))|skip
      all_goals first|(refine hK _ ?_;clear hK K)|(simp only [push_cast];done)
      refine zT ?_
      refine zh [9,47,48,49,50,51,52,53,54,55,56,57,58,59,60,61,62,63,64] [80] (fun(x:Nat)=> [(9, .int .i64 x)]) (fun x=> []) (fun x=> [(80,⟨.ex,4,dB (wI (brP (gp ps i).ask L (brA a.next a.owner.length ps i) k) ((gl L k).take x)),none⟩)]) (fun x=>x≤(gl L k).length) (fun x=>(gl L k).length - x) 0 ?_ (by omega) ?_
      ·
       refine zX rfl ?_ ?_ ?_<;>simp only [zg,zf,push_cast,↓zK,↓zJ,↓reduceIte,zA,zB,zC,zD,zE,zF,zG,zH,zI,reduceCtorEq]
       all_goals first|rfl|skip
      ·rintro x hx KL2 hL2
       have hsl:=XN ((gl L k).take x) (brP (gp ps i).ask L (brA a.next a.owner.length ps i) k)
       simp only [push_cast,↓zK,↓zJ,↓reduceIte,zA,zB,zC,zD,zE,zF,zG,zH,zI,reduceCtorEq]
       refine zL fun K6 hK6=> ?_
       refine zL fun K hK=> ?_
       refine zM zQ zO [] rfl ?_
       all_goals simp only [push_cast,↓zK,↓zJ,↓reduceIte,zA,zB,zC,zD,zE,zF,zG,zH,zI,reduceCtorEq]
       all_goals repeat'(first|(apply zP<;>(intro hg;(try simp only [push_cast]at hg)))|apply And.intro|(intro hg;(try simp only [push_cast]at hg)))
       all_goals first|exact gA|(exact zN (by omega))|(exact zN (by simp only [push_cast];omega))|skip
       all_goals first|(refine hK _ ?_;clear hK K)|(simp only [push_cast];done)
       refine zU rfl (fun hc=> ?_) (fun hc=> ?_)<;>(try simp only [push_cast]at hc)
       ·
        refine zV ?_
        (try simp only [zR,zS,reduceIte,zF]);refine hK6 _ ?_
        refine zL fun K7 hK7=> ?_
        refine zT ?_
        have hpr:=hgk.2 (gi (gl L k) x) (List.mem_of_getElem? (Za (by omega)))
        refine zM zQ zO [] rfl ?_
        all_goals simp only [push_cast,↓zK,↓zJ,↓reduceIte,zA,zB,zC,zD,zE,zF,zG,zH,zI,reduceCtorEq]
        all_goals repeat'(first|(apply zP<;>(intro hg;(try simp only [push_cast]at hg)))|apply And.intro|(intro hg;(try simp only [push_cast]at hg)))
        all_goals first|exact gA|(exact zN (by omega))|(exact zN (by simp only [push_cast];omega))|skip
        (try simp only [zR,zS,reduceIte,zF]);refine hK7 _ ?_
        refine zM zQ zO [] rfl ?_
        all_goals simp only [push_cast,↓zK,↓zJ,↓reduceIte,zA,zB,zC,zD,zE,zF,zG,zH,zI,reduceCtorEq]
        all_goals repeat'(first|(apply zP<;>(intro hg;(try simp only [push_cast]at hg)))|apply And.intro|(intro hg;(try simp only [push_cast]at hg)))
        all_goals first|exact gA|(exact zN (by omega))|(exact zN (by simp only [push_cast];omega))|skip
        refine hL2 _ ⟨x+1,by omega,by omega,?_⟩
        refine zX rfl ?_ ?_ ?_<;>simp only [zg,zf,push_cast,↓zK,↓zJ,↓reduceIte,zA,zB,zC,zD,zE,zF,zG,zH,zI,reduceCtorEq]
        all_goals first|rfl|(rw [uy (by omega)];done)|skip
       ·
        refine zm ?_
        have hxx:x=(gl L k).length:=by omega
        subst hxx
        rw [List.take_length]
        (try simp only [zR,zS,reduceIte,zF]);refine hK5 _ ?_
        refine zM zQ zO [] rfl ?_
        all_goals simp only [push_cast,↓zK,↓zJ,↓reduceIte,zA,zB,zC,zD,zE,zF,zG,zH,zI,reduceCtorEq]
        all_goals repeat'(first|(apply zP<;>(intro hg;(try simp only [push_cast]at hg)))|apply And.intro|(intro hg;(try simp only [push_cast]at hg)))
        all_goals first|exact gA|(exact zN (by omega))|(exact zN (by simp only [push_cast];omega))|skip
        refine hL1 _ ⟨k+1,by omega,by omega,?_⟩
        rw [zCc (by with_reducible assumption)]
        refine zX rfl ?_ ?_ ?_<;>simp only [zg,zf,push_cast,↓zK,↓zJ,↓reduceIte,zA,zB,zC,zD,zE,zF,zG,zH,zI,reduceCtorEq]
     ·
      refine zV ?_
      (try simp only [zR,zS,reduceIte,zF]);refine hK5 _ ?_
      refine zM zQ zO [] rfl ?_
      all_goals simp only [push_cast,↓zK,↓zJ,↓reduceIte,zA,zB,zC,zD,zE,zF,zG,zH,zI,reduceCtorEq]
      all_goals repeat'(first|(apply zP<;>(intro hg;(try simp only [push_cast]at hg)))|apply And.intro|(intro hg;(try simp only [push_cast]at hg)))
      all_goals first|exact gA|(exact zN (by omega))|(exact zN (by simp only [push_cast];omega))|skip
      refine hL1 _ ⟨k+1,by omega,by omega,?_⟩
      rw [zEv (by with_reducible assumption)]
      refine zX rfl ?_ ?_ ?_<;>simp only [zg,zf,push_cast,↓zK,↓zJ,↓reduceIte,zA,zB,zC,zD,zE,zF,zG,zH,zI,reduceCtorEq]
    ·
     refine zm ?_
     have hkk:k=L.length:=by omega
     subst hkk
     rw [←hbs]
     (try simp only [zR,zS,reduceIte,zF]);refine hK3 _ ?_
     refine zM zQ zO [] rfl ?_
     all_goals simp only [push_cast,↓zK,↓zJ,↓reduceIte,zA,zB,zC,zD,zE,zF,zG,zH,zI,reduceCtorEq]
     all_goals repeat'(first|(apply zP<;>(intro hg;(try simp only [push_cast]at hg)))|apply And.intro|(intro hg;(try simp only [push_cast]at hg)))
     all_goals first|exact gA|(exact zN (by omega))|(exact zN (by simp only [push_cast];omega))|skip
     refine hL0 _ ⟨i+1,by omega,by omega,?_⟩
     refine zX rfl ?_ ?_ ?_<;>simp only [zg,zf,push_cast,↓zK,↓zJ,↓reduceIte,zA,zB,zC,zD,zE,zF,zG,zH,zI,reduceCtorEq]
     all_goals first|rfl|skip
  ·
   refine zm ?_
   have hii:i=ps.length:=by omega
   subst hii
   (try simp only [zR,zS,reduceIte,zF]);refine hK1 _ ?_
   refine zL fun K hK=> ?_
   refine zM zQ zO [] rfl ?_
   all_goals simp only [push_cast,↓zK,↓zJ,↓reduceIte,zA,zB,zC,zD,zE,zF,zG,zH,zI,reduceCtorEq]
   all_goals repeat'(first|(apply zP<;>(intro hg;(try simp only [push_cast]at hg)))|apply And.intro|(intro hg;(try simp only [push_cast]at hg)))
   all_goals first|exact gA|(exact zN (by omega))|(exact zN (by simp only [push_cast];omega))|skip
   all_goals first|(refine hK _ ?_;clear hK K)|(simp only [push_cast];done)
   refine zc ?_
   (try simp only [zR,zS])
   refine⟨Or.inl rfl,?_⟩
   simp only [zi,push_cast,↓zK,↓zJ,↓reduceIte,zA,zB,zC,zD,zE,zF,zG,zH,zI,reduceCtorEq]
   all_goals first|rfl|exact(hbl _).symm|exact⟨rfl,(hbl _).symm⟩|skip
end Go.Proofs.Ytggpbepdeilpgaa
