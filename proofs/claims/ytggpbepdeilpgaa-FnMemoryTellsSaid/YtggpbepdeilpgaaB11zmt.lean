/- The reference's game with who goes to whom both ways: plain -/
import Derived.Test.YtggpbepdeilpgaaB10zmt
import Derived.Test.YtggpbepdeilpgaaB8zmt
import Derived.Test.YtggpbepdeilpgaaB9zmt
import Derived.Test.YtggpbepdeilpgaaGWzmt
import Derived.Maps.AppendAt
import Derived.Test.YtggpbepdeilpgaaGEzmt
namespace Go.Proofs.Ytggpbepdeilpgaa
open Go.RowKit
set_option linter.unusedVariables false
set_option linter.unusedSimpArgs false
theorem KW {xs:List Int}{n:Int}(h:yX xs n=true){j:Nat}(hj:j<xs.length):0≤gi xs j∧gi xs j<n:=by
 have :=xt h hj
 unfold qJ at this
 have :=of_decide_eq_true this
 exact⟨this.1,this.2.1⟩
section
variable {P:Program} {np:Bool} {τ:Ty} {lo:Nat} {w0:Fz} {ow:Nat→Option Pl} {hd:Nat→Value} {bk:Nat→Nat} {st:St} {a:Act} {w:World}
end
def EdgC (N:Nat)(w:World)(plan:List Int)(nx:Nat→Value)(k:Nat)(u:Value):Prop:=
 if 0≤gi plan k then∃g,N≤g∧u= .slice (some ⟨g,0,none⟩) 1 1∧w.heap[g]? =some (.cells #[.int .i64 (gi plan k)] 2 (0,0))else u=nx k
structure EdgO (N:Nat)(w:World)(plan:List Int)(nx:Nat→Value)(k:Nat)(v:Value):Prop where
 own: ∃vals,w.ownsRow N 22 1 v k vals∧∀j u,vals[j]? =some u→EdgC N w plan nx j u
theorem zET {N k:Nat}{w w':World}{plan:List Int}{nx:Nat→Value}{u:Value}(h:EdgC N w plan nx k u)(hk: ∀(g:Nat) (x:Int),w.heap[g]? =some (.cells #[.int .i64 x] 2 (0,0))→w'.heap[g]? =w.heap[g]?):EdgC N w' plan nx k u:=by
 unfold EdgC at h⊢
 split at h
 ·rename_i h1
  rw [if_pos h1]
  obtain⟨g,h2,h3,h4⟩:=h
  exact⟨g,h2,h3,by rw [hk g _ h4];exact h4⟩
 ·rename_i h1
  rw [if_neg h1]
  exact h
theorem zFr {w w':World}{N e size n:Nat}{v:Value}{xs:List Value}(h:w.ownsRow N e size v n xs)(hb: ∀b,v.ownBlock=some b→w'.heap[b]? =w.heap[b]?):w'.ownsRow N e size v n xs:=by
 refine⟨h.1,?_⟩
 rcases h.2 with⟨hv,h0⟩|⟨g,cap,cur,hv,h1,hg,rest⟩
 ·exact .inl ⟨hv,h0⟩
 ·exact .inr ⟨g,cap,cur,hv,h1,by rw [hb g (by rw [hv];rfl)];exact hg,rest⟩
theorem EdgO.below {N k:Nat}{w w':World}{plan:List Int}{nx:Nat→Value}{v:Value}(h:EdgO N w plan nx k v)(hb:Below w.heap.size w w'):EdgO N w' plan nx k v:=by
 obtain⟨vals,h1,h2⟩:=h.own
 exact⟨vals,zFr h1 fun b e=>hb.block b (h1.lt b e).2,fun j u hu=>zET (h2 j u hu) fun g x hg=>hb.block g (Array.getElem?_eq_some_iff.1 hg).1⟩
inductive Rch (E:List (List Int))(ins:List Bool)(v:Nat):Nat→Prop
 |one {j:Nat}:j<(gl E v).length→gb ins (gi (gl E v) j).toNat=true→Rch E ins v (gi (gl E v) j).toNat
 |step {x j:Nat}:Rch E ins v x→j<(gl E x).length→gb ins (gi (gl E x) j).toNat=true→Rch E ins v (gi (gl E x) j).toNat
noncomputable def vX (E:List (List Int))(ins:List Bool)(v n:Nat):List Bool:=(List.range n).map fun u=> @decide (Rch E ins v u) (Classical.propDecidable _)
theorem Zo {E:List (List Int)}{ins:List Bool}{v n u:Nat}(h:u<n):gb (vX E ins v n) u=true↔Rch E ins v u:=by
 unfold vX
 rw [YR h, @decide_eq_true_eq _ (Classical.propDecidable _)]
theorem Jz (E:List (List Int))(ins:List Bool)(v n:Nat):(vX E ins v n).length=n:=by simp [vX]
structure ByI (E:List (List Int))(ins:List Bool)(n v:Nat)(W:Nat→Nat→Prop)(out:List Bool)(td:List Int):Prop where
 lo:out.length=n
 snd: ∀u,u<n→gb out u=true→Rch E ins v u
 rng: ∀t∈td,(0≤t∧t<n)∧(t.toNat=v∨gb out t.toNat=true)
 cls: ∀x,x<n→(x=v∨gb out x=true)→∀j,j<(gl E x).length→gb ins (gi (gl E x) j).toNat=true→gb out (gi (gl E x) j).toNat=true∨(x:Int)∈td∨W x j
section
variable {E:List (List Int)} {ins:List Bool} {n v:Nat} {out:List Bool} {td:List Int}
theorem ByI.start (hv:v<n):ByI E ins n v (fun _ _=>False) (List.replicate n false) [(v:Int)]:=by
 refine⟨List.length_replicate ..,fun u _ h=>(by rw [jE]at h;cases h),fun t ht=> ?_,fun x _ hx j _ _=> ?_⟩
 ·simp at ht;subst ht;exact⟨by omega, .inl (by simp)⟩
 ·rcases hx with rfl|hx
  ·exact .inr (.inl (by simp))
  ·rw [jE]at hx;cases hx
theorem ByI.last {W:Nat→Nat→Prop}(h:ByI E ins n v W out td)(ht:0<td.length):(0≤gi td (td.length - 1)∧gi td (td.length - 1)<n)∧((gi td (td.length - 1)).toNat=v∨gb out (gi td (td.length - 1)).toNat=true):=
 h.rng _ (List.mem_of_getElem? (Za (by omega)))
theorem ByI.skip {x0 i:Nat}(h:ByI E ins n v (fun x j=>x=x0∧i≤j) out td)(hu:gb ins (gi (gl E x0) i).toNat=false∨gb out (gi (gl E x0) i).toNat=true):ByI E ins n v (fun x j=>x=x0∧i+1≤j) out td:=by
 refine⟨h.lo,h.snd,h.rng,fun x hx hv j hj hb=> ?_⟩
 rcases h.cls x hx hv j hj hb with h1|h1|⟨rfl,h1⟩
 ·exact .inl h1
 ·exact .inr (.inl h1)
 ·by_cases e:j=i
  ·subst e
   rcases hu with hu|hu
   ·rw [hb]at hu;cases hu
   ·exact .inl hu
  ·exact .inr (.inr ⟨rfl,by omega⟩)
theorem ByI.push {x0 i:Nat}(h:ByI E ins n v (fun x j=>x=x0∧i≤j) out td)(hx0:x0=v∨(x0<n∧gb out x0=true))(hi:i<(gl E x0).length)(hr:0≤gi (gl E x0) i∧gi (gl E x0) i<n)(hu:gb ins (gi (gl E x0) i).toNat=true):
  ByI E ins n v (fun x j=>x=x0∧i+1≤j) (out.set (gi (gl E x0) i).toNat true) (td++ [gi (gl E x0) i]):=by
 have hl:(gi (gl E x0) i).toNat<out.length:=by rw [h.lo];omega
 have hR:Rch E ins v (gi (gl E x0) i).toNat:=by
  rcases hx0 with rfl|⟨hx,hb⟩
  ·exact .one hi hu
  ·exact .step (h.snd _ hx hb) hi hu
 have hmono: ∀y,gb out y=true→gb (out.set (gi (gl E x0) i).toNat true) y=true:=fun y hy=>by
  rw [xI hl];split
  ·rfl
  ·exact hy
 refine⟨by rw [List.length_set];exact h.lo,fun u hun hb=> ?_,fun t ht=> ?_,fun x hx hv j hj hb=> ?_⟩
 ·rw [xI hl]at hb
  split at hb
  ·rename_i e;rw [e];exact hR
  ·exact h.snd u hun hb
 ·rcases List.mem_append.1 ht with ht|ht
  ·exact⟨(h.rng t ht).1,(h.rng t ht).2.imp id (hmono _)⟩
  ·simp at ht;subst ht
   exact⟨hr, .inr (by rw [xI hl,if_pos rfl])⟩
 ·by_cases e:x=(gi (gl E x0) i).toNat
  ·exact .inr (.inl (List.mem_append.2 (.inr (by simp;omega))))
  ·have hv2:x=v∨gb out x=true:=hv.imp id fun hv=>by rw [xI hl,if_neg e]at hv;exact hv
   rcases h.cls x hx hv2 j hj hb with h1|h1|⟨rfl,h1⟩
   ·exact .inl (hmono _ h1)
   ·exact .inr (.inl (List.mem_append.2 (.inl h1)))
   ·by_cases e2:j=i
    ·subst e2
     exact .inl (by rw [xI hl,if_pos rfl])
    ·exact .inr (.inr ⟨rfl,by omega⟩)
theorem ByI.done {x0 i:Nat}(h:ByI E ins n v (fun x j=>x=x0∧i≤j) out td)(hi:(gl E x0).length≤i):ByI E ins n v (fun _ _=>False) out td:=by
 refine⟨h.lo,h.snd,h.rng,fun x hx hv j hj hb=> ?_⟩
 rcases h.cls x hx hv j hj hb with h1|h1|⟨rfl,h1⟩
 ·exact .inl h1
 ·exact .inr (.inl h1)
 ·omega
theorem ByI.fin (h:ByI E ins n v (fun _ _=>False) out [])(hv:v<n)(hE: ∀x,x<n→∀j,j<(gl E x).length→0≤gi (gl E x) j∧gi (gl E x) j<n):out=vX E ins v n:=by
 refine JG (by rw [h.lo,Jz]) fun u hu=> ?_
 rw [h.lo]at hu
 have key: ∀u,Rch E ins v u→u<n∧gb out u=true:=fun u hr=>by
  induction hr with
  |one hj hb=>
   have :=hE v hv _ hj
   refine⟨by omega,?_⟩
   rcases h.cls v hv (.inl rfl) _ hj hb with h1|h1|h1
   ·exact h1
   ·simp at h1
   ·exact h1.elim
  |step _ hj hb ih=>
   have :=hE _ ih.1 _ hj
   refine⟨by omega,?_⟩
   rcases h.cls _ ih.1 (.inr ih.2) _ hj hb with h1|h1|h1
   ·exact h1
   ·simp at h1
   ·exact h1.elim
 rw [Bool.eq_iff_iff,Zo hu]
 exact⟨fun hb=>h.snd u hu hb,fun hr=>(key u hr).2⟩
end
theorem KB {l:List Bool}{u:Nat}(hu:gb l u=false)(hl:u<l.length): ∀k,u<k→yj (l.set u true) k=yj l k+1
 |0,h=>by omega
 |k+1,h=>by
  rw [ZY,ZY]
  by_cases e:k=u
  ·have e1:gb (l.set u true) k=true:=by rw [xI hl,if_pos e]
   have e2:gb l k=false:=by rw [e];exact hu
   have : ∀m,m≤k→yj (l.set u true) m=yj l m:=fun m=>by
    induction m with
    |zero=>intro _;rfl
    |succ m ih=>
     intro hm
     have e3:gb (l.set u true) m=gb l m:=by rw [xI hl,if_neg (show ¬m=u by omega)]
     rw [ZY,ZY,e3,ih (by omega)]
   rw [e1,e2,this k (Nat.le_refl _)]
   rfl
  ·have e1:gb (l.set u true) k=gb l k:=by rw [xI hl,if_neg e]
   rw [e1,KB hu hl k (by omega)]
   split<;>rfl
def vis (to:List (List Int))(win:List Bool):Nat→Nat→List Bool×List Int→List Bool×List Int
 |0,_,s=>s
 |f+1,v,s=>let s2:=(gl to v).foldl (fun s u=>if gb win u.toNat&& !gb s.1 u.toNat then vis to win f u.toNat s else s) (s.1.set v true,s.2);(s2.1,s2.2++ [(v:Int)])
def stV (to:List (List Int))(win:List Bool)(f:Nat)(s:List Bool×List Int)(u:Int):List Bool×List Int:=if gb win u.toNat&& !gb s.1 u.toNat then vis to win f u.toNat s else s
theorem Ue (to:List (List Int))(win:List Bool)(f v:Nat)(s:List Bool×List Int):vis to win (f+1) v s=(((gl to v).foldl (stV to win f) (s.1.set v true,s.2)).1,((gl to v).foldl (stV to win f) (s.1.set v true,s.2)).2++ [(v:Int)]):=rfl
theorem Qp {to:List (List Int)}{win:List Bool}{f:Nat}{s:List Bool×List Int}{u:Int}(h: ¬(gb win u.toNat=true∧gb s.1 u.toNat=false)):stV to win f s u=s:=by
 unfold stV
 rw [if_neg]
 intro hc
 rw [Bool.and_eq_true]at hc
 exact h ⟨hc.1,by simpa using hc.2⟩
theorem Yu {to:List (List Int)}{win:List Bool}{f:Nat}{s:List Bool×List Int}{u:Int}(h1:gb win u.toNat=true)(h2:gb s.1 u.toNat=false):stV to win f s u=vis to win f u.toNat s:=by
 unfold stV
 rw [if_pos (by rw [h1,h2];rfl)]
def und (done:List Bool):Nat:=done.countP fun b=> !b
theorem kM {c:List Bool}{v u:Nat}{y:Bool}(hv:v<c.length):gb (c.set v y) u=if u=v then y else gb c u:=by
 unfold gb
 rw [List.getD_eq_getElem?_getD,List.getD_eq_getElem?_getD,List.getElem?_set]
 by_cases h:v=u
 ·subst h;simp [hv]
 ·rw [if_neg h,if_neg (fun e=>h e.symm)]
theorem Yv : ∀{c:List Bool} {v:Nat},v<c.length→gb c v=false→und (c.set v true)+1=und c
 | [],v,h,_=>by simp at h
 |b::c,0,_,h=>by
  simp [gb]at h
  subst h
  simp [und]
 |b::c,v+1,h,h2=>by
  have :=Yv (c:=c) (v:=v) (by simpa using h) (by simpa [gb]using h2)
  simp only [und,List.set_cons_succ,List.countP_cons]at this⊢
  omega
theorem zLF (c:List Bool):und c≤c.length:=List.countP_le_length
theorem zDK (n:Nat):und (List.replicate n false)=n:=by
 induction n with
 |zero=>rfl
 |succ n ih=>simp only [und,List.replicate_succ,List.countP_cons]at ih⊢;rw [ih];rfl
theorem zIz (n v:Nat):gb (List.replicate n false) v=false:=by
 unfold gb
 rw [List.getD_eq_getElem?_getD,List.getElem?_replicate]
 split<;>rfl
theorem JK {rows:List (List Int)}{v:Nat}{u:Int}(h:u∈gl rows v):v<rows.length:=by
 rcases Nat.lt_or_ge v rows.length with h1|h1
 ·exact h1
 ·unfold gl at h
  rw [List.getD_eq_getElem?_getD,List.getElem?_eq_none h1]at h
  cases h
inductive Rcx (E:Nat→Nat→Prop):Nat→Nat→Prop
 |refl (x:Nat):Rcx E x x
 |step {x y z:Nat}:E x y→Rcx E y z→Rcx E x z
theorem Rcx.trans {E:Nat→Nat→Prop}{x y z:Nat}(h1:Rcx E x y)(h2:Rcx E y z):Rcx E x z:=by
 induction h1 with
 |refl=>exact h2
 |step h _ ih=>exact .step h (ih h2)
theorem Rcx.one {E:Nat→Nat→Prop}{x y:Nat}(h:E x y):Rcx E x y:= .step h (.refl _)
theorem Rcx.mir {E F:Nat→Nat→Prop}(hf: ∀x y,E x y→F y x){x y:Nat}(h:Rcx E x y):Rcx F y x:=by
 induction h with
 |refl=>exact .refl _
 |step h _ ih=>exact ih.trans (.one (hf _ _ h))
theorem Rcx.open {E:Nat→Nat→Prop}{x y:Nat}(h:Rcx E x y)(hne:x≠y): ∃z,E x z∧Rcx E z y:=by
 cases h with
 |refl=>exact absurd rfl hne
 |step h1 h2=>exact⟨_,h1,h2⟩
structure Gr (n:Nat)(to:List (List Int))(win:List Bool):Prop where
 tl:to.length=n
 wl:win.length=n
 rng: ∀v u,u∈gl to v→0≤u∧u<n
def yd (to:List (List Int))(win:List Bool)(x y:Nat):Prop:=gb win x=true∧gb win y=true∧(y:Int)∈gl to x
structure vU (to:List (List Int))(win:List Bool)(n:Nat)(Γ:Nat→Prop)(done:List Bool)(ord:List Int):Prop where
 len:done.length=n
 ext: ∀x,gb done x=true↔Γ x∨(x:Int)∈ord
 rng: ∀i∈ord,0≤i∧i<n
 wi: ∀x:Nat,(x:Int)∈ord→gb win x=true
 cl: ∀x y:Nat,(x:Int)∈ord→yd to win x y→gb done y=true
 nd:ord.Nodup
 gr: ∀x,Γ x→¬(x:Int)∈ord
 post: ∀(A B:List Int) (u w:Nat),ord=A++(w:Int)::B→(u:Int)∈ord→Rcx (yd to win) u w→Rcx (yd to win) w u∨(∃m:Nat,(m:Int)∈B∧Rcx (yd to win) m u∧Rcx (yd to win) u m)∨∃g,Γ g∧Rcx (yd to win) u g
structure Add (to:List (List Int))(win:List Bool)(v:Nat)(s s':List Bool×List Int):Prop where
 new: ∃new,s'.2=s.2++new∧∀y∈new,Rcx (yd to win) v y.toNat
 up: ∀x,gb s.1 x=true→gb s'.1 x=true
 un:und s'.1≤und s.1
 room:s'.2.length+und s'.1≤s.2.length+und s.1
section
variable {n:Nat} {to:List (List Int)} {win:List Bool} {Γ:Nat→Prop}
theorem vU.out {done:List Bool}{ord:List Int}(h:vU to win n Γ done ord){u v:Nat}(hr:Rcx (yd to win) u v):(u:Int)∈ord→gb done v=false→∃g,Γ g∧Rcx (yd to win) u g:=by
 induction hr with
 |refl x=>
  intro h1 h2
  rw [(h.ext x).2 (.inr h1)]at h2
  cases h2
 | @step x y z h1 h2 ih=>
  intro hx hz
  have hy:=h.cl x y hx h1
  rcases(h.ext y).1 hy with hg|ho
  ·exact⟨y,hg, .one h1⟩
  ·obtain⟨g,q1,q2⟩:=ih ho hz
   exact⟨g,q1, .step h1 q2⟩
theorem zF9 {A B ord:List Int}{w v:Int}(h:ord++ [v]=A++w::B):(B= []∧ord=A∧w=v)∨∃B',B=B'++ [v]∧ord=A++w::B':=by
 rcases List.eq_nil_or_concat B with rfl|⟨B',b,rfl⟩
 ·left
  have h1:=congrArg List.reverse h
  simp at h1
  exact⟨rfl,h1.2,h1.1.symm⟩
 ·right
  have h1:=congrArg List.reverse h
  simp at h1
  refine⟨B',by rw [h1.1];simp,?_⟩
  have h2:=congrArg List.reverse h1.2
  simpa using h2
def VOk (n:Nat)(to:List (List Int))(win:List Bool)(f:Nat):Prop:= ∀(v:Nat) (Γ:Nat→Prop) (s:List Bool×List Int),vU to win n Γ s.1 s.2→v<n→gb win v=true→gb s.1 v=false→und s.1≤f→
  vU to win n Γ (vis to win f v s).1 (vis to win f v s).2∧Add to win v s (vis to win f v s)∧gb (vis to win f v s).1 v=true∧∃new,(vis to win f v s).2=s.2++new∧(v:Int)∈new
theorem zGq {done:List Bool}{ord:List Int}(h:vU to win n Γ done ord){v:Nat}(hv:v<n)(hd:gb done v=false):vU to win n (fun x=>Γ x∨x=v) (done.set v true) ord:=by
 have hvo: ¬(v:Int)∈ord:=fun hm=>by rw [(h.ext v).2 (.inr hm)]at hd;cases hd
 refine⟨by rw [List.length_set];exact h.len,fun x=> ?_,h.rng,h.wi,fun x y hx hy=> ?_,h.nd,fun x hx=> ?_,fun A B u w he hu hr=> ?_⟩
 ·rw [kM (by rw [h.len];exact hv)]
  split
  ·rename_i e;subst e;simp
  ·rename_i e
   rw [h.ext x]
   constructor
   ·rintro(h1|h1)
    ·exact .inl (.inl h1)
    ·exact .inr h1
   ·rintro((h1|h1)|h1)
    ·exact .inl h1
    ·exact absurd h1 e
    ·exact .inr h1
 ·rw [kM (by rw [h.len];exact hv)]
  split
  ·rfl
  ·exact h.cl x y hx hy
 ·rcases hx with hx|rfl
  ·exact h.gr x hx
  ·exact hvo
 ·rcases h.post A B u w he hu hr with h1|h1|⟨g,h1,h2⟩
  ·exact .inl h1
  ·exact .inr (.inl h1)
  ·exact .inr (.inr ⟨g, .inl h1,h2⟩)
theorem uU (hg:Gr n to win){f v:Nat}(IH:VOk n to win f)(hw:gb win v=true){s0:List Bool×List Int}(hf:und s0.1≤f): ∀(us:List Int) (t:List Bool×List Int),(∀u∈us,u∈gl to v)→vU to win n Γ t.1 t.2→Add to win v s0 t→
  vU to win n Γ (us.foldl (stV to win f) t).1 (us.foldl (stV to win f) t).2∧Add to win v s0 (us.foldl (stV to win f) t)∧(∀x,gb t.1 x=true→gb (us.foldl (stV to win f) t).1 x=true)∧∀u∈us,gb win u.toNat=true→gb (us.foldl (stV to win f) t).1 u.toNat=true
 | [],t,_,h1,h2=>⟨h1,h2,fun x hx=>hx,fun u hu=>by cases hu⟩
 |u::us,t,hus,h1,h2=>by
  obtain⟨u0,un⟩:=hg.rng v u (hus u (List.mem_cons_self ..))
  have key:vU to win n Γ (stV to win f t u).1 (stV to win f t u).2∧Add to win v s0 (stV to win f t u)∧(∀x,gb t.1 x=true→gb (stV to win f t u).1 x=true)∧(gb win u.toNat=true→gb (stV to win f t u).1 u.toNat=true):=by
   by_cases hc:gb win u.toNat=true∧gb t.1 u.toNat=false
   ·rw [Yu hc.1 hc.2]
    have hE:yd to win v u.toNat:=⟨hw,hc.1,by rw [Int.toNat_of_nonneg u0];exact hus u (List.mem_cons_self ..)⟩
    obtain⟨k1,k2,k3,k4⟩:=IH u.toNat _ t h1 (by omega) hc.1 hc.2 (Nat.le_trans h2.un hf)
    refine⟨k1,⟨?_,fun x hx=>k2.up x (h2.up x hx),Nat.le_trans k2.un h2.un,Nat.le_trans k2.room h2.room⟩,k2.up,fun _=>k3⟩
    obtain⟨n1,e1,r1⟩:=h2.new
    obtain⟨n2,e2,r2⟩:=k2.new
    refine⟨n1++n2,by rw [e2,e1,List.append_assoc],fun y hy=> ?_⟩
    rcases List.mem_append.1 hy with hy|hy
    ·exact r1 y hy
    ·exact .step hE (r2 y hy)
   ·rw [Qp hc]
    exact⟨h1,h2,fun x hx=>hx,fun hw1=>by
     cases hx:gb t.1 u.toNat with
     |true=>rfl
     |false=>exact absurd ⟨hw1,hx⟩ hc⟩
  obtain⟨k1,k2,k3,k4⟩:=key
  obtain⟨m1,m2,m3,m4⟩:=uU hg IH hw hf us _ (fun x hx=>hus x (List.mem_cons_of_mem _ hx)) k1 k2
  refine⟨m1,m2,fun x hx=>m3 x (k3 x hx),fun x hx hwx=> ?_⟩
  rcases List.mem_cons.1 hx with rfl|hx
  ·exact m3 _ (k4 hwx)
  ·exact m4 x hx hwx
theorem zCl (hg:Gr n to win){f v:Nat}(IH:VOk n to win f){s:List Bool×List Int}(h:vU to win n Γ s.1 s.2)(hv:v<n)(hw:gb win v=true)(hd:gb s.1 v=false)(hf:und s.1≤f+1){us:List Int}(hus: ∀u∈us,u∈gl to v):
  vU to win n (fun x=>Γ x∨x=v) (us.foldl (stV to win f) (s.1.set v true,s.2)).1 (us.foldl (stV to win f) (s.1.set v true,s.2)).2∧Add to win v (s.1.set v true,s.2) (us.foldl (stV to win f) (s.1.set v true,s.2))∧(∀x,gb (s.1.set v true) x=true→gb (us.foldl (stV to win f) (s.1.set v true,s.2)).1 x=true)∧∀u∈us,gb win u.toNat=true→gb (us.foldl (stV to win f) (s.1.set v true,s.2)).1 u.toNat=true:=by
 have hu:=Yv (by rw [h.len];exact hv) hd
 exact uU hg IH hw (by simp only;omega) us _ hus (zGq h hv hd) ⟨⟨[],by simp,fun y hy=>(by cases hy)⟩,fun x hx=>hx,Nat.le_refl _,Nat.le_refl _⟩
theorem Wp (hg:Gr n to win): ∀f,VOk n to win f
 |0,v,Γ,s,h,hv,hw,hd,hf=>by
  have :=Yv (by rw [h.len];exact hv) hd
  omega
 |f+1,v,Γ,s,h,hv,hw,hd,hf=>by
  have hu:=Yv (by rw [h.len];exact hv) hd
  have hvo: ¬(v:Int)∈s.2:=fun hm=>by rw [(h.ext v).2 (.inr hm)]at hd;cases hd
  have hvg: ¬Γ v:=fun hm=>by rw [(h.ext v).2 (.inl hm)]at hd;cases hd
  obtain⟨m1,m2,m3,m4⟩:=zCl hg (Wp hg f) h hv hw hd hf (us:=gl to v) (fun u hu=>hu)
  rw [Ue]
  generalize (gl to v).foldl (stV to win f) (s.1.set v true,s.2)=t at m1 m2 m3 m4
  obtain⟨n1,e1,r1⟩:=m2.new
  simp only at e1
  have hvt: ¬(v:Int)∈t.2:=m1.gr v (.inr rfl)
  have hvd:gb t.1 v=true:=(m1.ext v).2 (.inl (.inr rfl))
  have hback: ∀u:Nat,(u:Int)∈t.2→Rcx (yd to win) u v→Rcx (yd to win) v u∨∃g,Γ g∧Rcx (yd to win) u g:=fun u hu hr=>by
   rw [e1]at hu
   rcases List.mem_append.1 hu with hu|hu
   ·exact .inr (h.out hr hu hd)
   ·have :=r1 _ hu
    rw [Int.toNat_natCast]at this
    exact .inl this
  refine⟨⟨m1.len,fun x=> ?_,fun i hi=> ?_,fun x hx=> ?_,fun x y hx hy=> ?_,?_,fun x hx hm=> ?_,fun A B u w he hu hr=> ?_⟩,⟨⟨n1++ [(v:Int)],by simp only;rw [e1,List.append_assoc],fun y hy=> ?_⟩,fun x hx=>m3 x ?_,?_,?_⟩,hvd,n1++ [(v:Int)],by simp only;rw [e1,List.append_assoc],by simp⟩
  ·simp only
   rw [m1.ext x,List.mem_append,List.mem_singleton]
   constructor
   ·rintro((h1|h1)|h1)
    ·exact .inl h1
    ·exact .inr (.inr (by rw [h1]))
    ·exact .inr (.inl h1)
   ·rintro(h1|h1|h1)
    ·exact .inl (.inl h1)
    ·exact .inr h1
    ·exact .inl (.inr (by omega))
  ·rcases List.mem_append.1 hi with hi|hi
   ·exact m1.rng i hi
   ·rw [List.mem_singleton]at hi;subst hi;omega
  ·rcases List.mem_append.1 hx with hx|hx
   ·exact m1.wi x hx
   ·rw [List.mem_singleton]at hx
    have :x=v:=by omega
    subst this;exact hw
  ·rcases List.mem_append.1 hx with hx|hx
   ·exact m1.cl x y hx hy
   ·rw [List.mem_singleton]at hx
    have :x=v:=by omega
    subst this
    have :=m4 _ hy.2.2 (by rw [Int.toNat_natCast];exact hy.2.1)
    rwa [Int.toNat_natCast]at this
  ·simp only
   rw [List.nodup_append]
   refine⟨m1.nd,by simp,fun a ha b hb=> ?_⟩
   rw [List.mem_singleton]at hb
   subst hb
   intro e
   subst e
   exact hvt ha
  ·rcases List.mem_append.1 hm with hm|hm
   ·exact m1.gr x (.inl hx) hm
   ·rw [List.mem_singleton]at hm
    have :x=v:=by omega
    subst this;exact hvg hx
  ·rcases zF9 he with⟨rfl,-,hwv⟩|⟨B',rfl,he'⟩
   ·have :w=v:=by omega
    subst this
    rcases List.mem_append.1 hu with hu|hu
    ·rcases hback u hu hr with h1|h1
     ·exact .inl h1
     ·exact .inr (.inr h1)
    ·rw [List.mem_singleton]at hu
     have :u=w:=by omega
     subst this
     exact .inl (.refl _)
   ·rcases List.mem_append.1 hu with hu1|hu
    ·rcases m1.post A B' u w he' hu1 hr with h1|⟨m,h1,h2⟩|⟨g,h1,h2⟩
     ·exact .inl h1
     ·exact .inr (.inl ⟨m,List.mem_append_left _ h1,h2⟩)
     ·rcases h1 with h1|rfl
      ·exact .inr (.inr ⟨g,h1,h2⟩)
      ·rcases hback u hu1 h2 with h3|h3
       ·exact .inr (.inl ⟨g,by simp,h3,h2⟩)
       ·exact .inr (.inr h3)
    ·rw [List.mem_singleton]at hu
     have :u=v:=by omega
     subst this
     exact .inr (.inl ⟨u,by simp, .refl _, .refl _⟩)
  ·rcases List.mem_append.1 hy with hy|hy
   ·exact r1 y hy
   ·rw [List.mem_singleton]at hy
    subst hy
    rw [Int.toNat_natCast]
    exact .refl _
  ·rw [kM (by rw [h.len];exact hv)]
   split
   ·rfl
   ·exact hx
  ·have :=m2.un
   simp only at this⊢
   omega
  ·have :=m2.room
   simp only [List.length_append,List.length_singleton]at this⊢
   omega
theorem zDL (to:List (List Int))(win:List Bool): ∀(f v:Nat) (d:List Bool) (o:List Int),vis to win f v (d,o)=((vis to win f v (d,[])).1,o++(vis to win f v (d,[])).2)
 |0,v,d,o=>by simp [vis]
 |f+1,v,d,o=>by
  have loop: ∀(us:List Int) (d:List Bool) (o:List Int),us.foldl (stV to win f) (d,o)=((us.foldl (stV to win f) (d,[])).1,o++(us.foldl (stV to win f) (d,[])).2):=by
   intro us
   induction us with
   |nil=>intro d o;simp
   |cons u us ih=>
    intro d o
    rw [List.foldl_cons,List.foldl_cons]
    by_cases hc:gb win u.toNat=true∧gb d u.toNat=false
    ·rw [Yu (s:=(d,o)) hc.1 hc.2,Yu (s:=(d,[])) hc.1 hc.2,zDL to win f u.toNat d o]
     obtain⟨d1,o1⟩:=vis to win f u.toNat (d,[])
     simp only
     rw [ih d1 (o++o1),ih d1 o1,List.append_assoc]
    ·rw [Qp (s:=(d,o)) hc,Qp (s:=(d,[])) hc]
     exact ih d o
  rw [Ue,Ue]
  simp only
  rw [loop (gl to v) (d.set v true) o]
  simp
def ph1 (to:List (List Int))(win:List Bool)(n:Nat):Nat→List Bool×List Int
 |0=>(List.replicate n false,[])
 |v+1=>stV to win n (ph1 to win n v) (v:Int)
theorem zH4 :vU to win n (fun _=>False) (List.replicate n false) []:=
 ⟨by simp,fun x=>(by rw [zIz];simp),fun i hi=>(by cases hi),fun x hx=>(by cases hx),fun x y hx=>(by cases hx),List.nodup_nil,fun x hx=>hx.elim,fun A B u w he=>(by cases A<;>simp at he)⟩
theorem zBF (hg:Gr n to win): ∀v,v≤n→vU to win n (fun _=>False) (ph1 to win n v).1 (ph1 to win n v).2∧(ph1 to win n v).2.length+und (ph1 to win n v).1≤n∧∀x,x<v→gb win x=true→gb (ph1 to win n v).1 x=true
 |0,_=>⟨zH4,by simp [ph1,zDK],fun x hx=>by omega⟩
 |v+1,hv=>by
  obtain⟨h1,h2,h3⟩:=zBF hg v (by omega)
  simp only [ph1]
  by_cases hc:gb win ((v:Int)).toNat=true∧gb (ph1 to win n v).1 ((v:Int)).toNat=false
  ·rw [Yu hc.1 hc.2]
   rw [Int.toNat_natCast]at hc⊢
   obtain⟨k1,k2,k3,-⟩:=Wp hg n v _ _ h1 (by omega) hc.1 hc.2 (by omega)
   refine⟨k1,Nat.le_trans k2.room h2,fun x hx hw=> ?_⟩
   by_cases e:x=v
   ·subst e;exact k3
   ·exact k2.up x (h3 x (by omega) hw)
  ·rw [Qp hc]
   rw [Int.toNat_natCast]at hc
   refine⟨h1,h2,fun x hx hw=> ?_⟩
   by_cases e:x=v
   ·subst e
    cases hd:gb (ph1 to win n x).1 x with
    |true=>rfl
    |false=>exact absurd ⟨hw,hd⟩ hc
   ·exact h3 x (by omega) hw
end
def ph2 (next back:List (List Int))(win:List Bool)(n:Nat)(ord:List Int):Nat→List Bool×List (List Int)
 |0=>(List.replicate n false,[])
 |j+1=>let s:=ph2 next back win n ord j;let v:=(gi ord (ord.length - 1 - j)).toNat
  if gb s.1 v then s else let r:=vis back win n v (s.1,[]);(r.1,if decide (1<r.2.length)||zn (gl next v) (v:Int)then s.2++ [qw r.2]else s.2)
def ZM (next:List (List Int))(win:List Bool)(x:Nat):Prop:= ∃y,yd next win x y∧Rcx (yd next win) y x
structure Ph2 (next back:List (List Int))(win:List Bool)(n:Nat)(ord:List Int)(j:Nat)(done:List Bool)(out:List (List Int))(acc:List Int):Prop where
 dfs:vU back win n (fun _=>False) done acc
 seen: ∀i,i<j→gb done (gi ord (ord.length - 1 - i)).toNat=true
 room:acc.length+und done≤n
 ins: ∀p∈out,∀i∈p,0≤i∧i<n∧ZM next win i.toNat
 outs: ∀x:Nat,(x:Int)∈acc→ZM next win x→∃p∈out,(x:Int)∈p
 cnt:out.length≤acc.length
 rows: ∀p∈out,1≤p.length∧p.length≤n
theorem zFk {l:List Int}(h:l.Nodup){a b:Int}(ha:a∈l)(hb:b∈l)(hne:a≠b):1<l.length:=by
 match l,ha,hb with
 | [],ha,_=>cases ha
 | [x],ha,hb=>simp at ha hb;exact absurd (ha.trans hb.symm) hne
 |_::_::_,_,_=>simp
theorem zLE {l:List Int}(h:l.Nodup)(hl:1<l.length)(a:Int): ∃b∈l,b≠a:=by
 match l,hl,h with
 |x::y::l,_,h=>
  by_cases e:x=a
  ·refine⟨y,by simp,fun e2=> ?_⟩
   rw [←e2]at e
   subst e
   simp at h
  ·exact⟨x,by simp,e⟩
theorem zHf {l:List Int}{k:Nat}(h:k<l.length): ∃A B:List Int,l=A++gi l k::B∧∀m∈B,∃i,k<i∧i<l.length∧gi l i=m:=by
 refine⟨l.take k,l.drop (k+1),?_,fun m hm=> ?_⟩
 ·have e:l[k]? =some (gi l k):=by unfold gi;rw [List.getD_eq_getElem?_getD,List.getElem?_eq_getElem h];rfl
  have e2:gi l k=l[k]:=by rw [List.getElem?_eq_getElem h]at e;exact(Option.some.inj e).symm
  rw [e2,←List.drop_eq_getElem_cons h,List.take_append_drop]
 ·obtain⟨i,hi,rfl⟩:=List.getElem_of_mem hm
  rw [List.length_drop]at hi
  refine⟨k+1+i,by omega,by omega,?_⟩
  unfold gi
  rw [List.getD_eq_getElem?_getD,List.getElem?_eq_getElem (by omega),List.getElem_drop]
  rfl
theorem Qc {l:List Int}{k:Nat}(h:k<l.length):gi l k∈l:=by
 unfold gi
 rw [List.getD_eq_getElem?_getD,List.getElem?_eq_getElem h]
 exact List.getElem_mem h
section
variable {n:Nat} {next back:List (List Int)} {win:List Bool}
theorem zBG (hg:Gr n next win)(hb:Gr n back win)(hrev: ∀x y,yd back win x y↔yd next win y x){ord:List Int}{done1:List Bool}(hI:vU next win n (fun _=>False) done1 ord)(hall: ∀x,x<n→gb win x=true→gb done1 x=true):
  ∀j,j≤ord.length→∃acc,Ph2 next back win n ord j (ph2 next back win n ord j).1 (ph2 next back win n ord j).2 acc
 |0,_=>⟨[],zH4,fun i hi=>by omega,by simp [ph2,zDK],fun p hp=>(by simp [ph2]at hp),fun x hx=>(by cases hx),Nat.le_refl _,fun p hp=>(by simp [ph2]at hp)⟩
 |j+1,hj=>by
  obtain⟨acc,h⟩:=zBG hg hb hrev hI hall j (by omega)
  simp only [ph2]
  generalize hs:ph2 next back win n ord j=s at h
  have hk:ord.length - 1 - j<ord.length:=by omega
  have hvm:=Qc hk
  obtain⟨v0,v1⟩:=hI.rng _ hvm
  have hvc:(((gi ord (ord.length - 1 - j)).toNat:Nat):Int)=gi ord (ord.length - 1 - j):=Int.toNat_of_nonneg v0
  obtain⟨A,B,hAB,hBm⟩:=zHf hk
  generalize hv:(gi ord (ord.length - 1 - j)).toNat=v at hvc
  have hvord:(v:Int)∈ord:=by rw [hvc];exact hvm
  have hvw:=hI.wi v hvord
  cases hd:gb s.1 v with
  |true=>
   rw [if_pos rfl]
   exact⟨acc,h.dfs,fun i hi=>by
    rcases Nat.lt_or_ge i j with h1|h1
    ·exact h.seen i h1
    ·have :i=j:=by omega
     subst this;rw [hv];exact hd,h.room,h.ins,h.outs,h.cnt,h.rows⟩
  |false=>
   rw [if_neg (by simp)]
   simp only
   have hvn:v<n:=by omega
   have hun:und s.1≤n:=by have :=zLF s.1;rw [h.dfs.len]at this;exact this
   obtain⟨k1,k2,k3,new,k4,k5⟩:=Wp hb n v _ (s.1,acc) h.dfs hvn hvw hd hun
   have happ:=zDL back win n v s.1 acc
   rw [happ]at k1 k2 k3 k4
   simp only at k1 k2 k3 k4
   have hnew:new=(vis back win n v (s.1,[])).2:=(List.append_cancel_left k4).symm
   have happ0:(vis back win n v (s.1,[])).2=new:=hnew.symm
   rw [happ0]at k1 k2⊢
   generalize (vis back win n v (s.1,[])).1=done' at k1 k2 k3⊢
   obtain⟨hnd1,hnd2,hnd3⟩:=List.nodup_append.1 k1.nd
   have hnr: ∀y:Nat,(y:Int)∈new→Rcx (yd back win) v y:=fun y hy=>by
    obtain⟨n2,e2,r2⟩:=k2.new
    simp only at e2
    have :=List.append_cancel_left e2
    subst this
    have :=r2 _ hy
    rwa [Int.toNat_natCast]at this
   have hE1: ∀{x y:Nat},Rcx (yd back win) x y→Rcx (yd next win) y x:=fun h=>Rcx.mir (fun x y h=>(hrev x y).1 h) h
   have hE2: ∀{x y:Nat},Rcx (yd next win) x y→Rcx (yd back win) y x:=fun h=>Rcx.mir (fun x y h=>(hrev y x).2 h) h
   have hclose: ∀{d:List Bool} {o:List Int},vU back win n (fun _=>False) d o→∀{x y:Nat},Rcx (yd back win) x y→(x:Int)∈o→(y:Int)∈o:=fun{d o} hD x y hr=>by
    induction hr with
    |refl=>exact fun h=>h
    |step h1 h2 ih=>exact fun hx=>ih (((hD.ext _).1 (hD.cl _ _ hx h1)).resolve_left (fun h=>h))
   have hnotacc: ∀y:Int,y∈new→¬y∈acc:=fun y hy ha=>hnd3 y ha y hy rfl
   -- the new ones are those that v reaches and that reach v
   have hin: ∀y:Nat,(y:Int)∈new→Rcx (yd next win) y v∧Rcx (yd next win) v y:=fun y hy=>by
    have r1:=hE1 (hnr y hy)
    refine⟨r1,?_⟩
    have hyw:=k1.wi y (List.mem_append_right _ hy)
    have hyn:=k1.rng _ (List.mem_append_right _ hy)
    have hyo:(y:Int)∈ord:=((hI.ext y).1 (hall y (by omega) hyw)).resolve_left (fun h=>h)
    rcases hI.post A B y v (by rw [hvc];exact hAB) hyo r1 with h1|⟨m,h1,h2,h3⟩|⟨g,h1,-⟩
    ·exact h1
    ·exfalso
     obtain⟨i,i1,i2,i3⟩:=hBm _ h1
     have hse:=h.seen (ord.length - 1 - i) (by omega)
     rw [show ord.length - 1 - (ord.length - 1 - i)=i from by omega,i3,Int.toNat_natCast]at hse
     have hma:=((h.dfs.ext m).1 hse).resolve_left (fun h=>h)
     exact hnotacc _ hy (hclose h.dfs (hE2 h3) hma)
    ·exact h1.elim
   have hout: ∀y:Nat,Rcx (yd next win) y v→Rcx (yd next win) v y→(y:Int)∈new:=fun y r1 r2=>by
    have :=hclose k1 (hE2 r1) (List.mem_append_right _ k5)
    rcases List.mem_append.1 this with h1|h1
    ·exfalso
     have :=hclose h.dfs (hE2 r2) h1
     rw [(h.dfs.ext v).2 (.inr this)]at hd
     cases hd
    ·exact h1
   have hseen: ∀i,i<j+1→gb done' (gi ord (ord.length - 1 - i)).toNat=true:=fun i hi=>by
    rcases Nat.lt_or_ge i j with h1|h1
    ·exact k2.up _ (h.seen i h1)
    ·have :i=j:=by omega
     subst this;rw [hv];exact k3
   have hroom:(acc++new).length+und done'≤n:=Nat.le_trans k2.room h.room
   have hloop: ∀y:Nat,(y:Int)∈new→(1<new.length∨zn (gl next v) (v:Int)=true)→ZM next win y:=fun y hy hor=>by
    have far: ∀z:Nat,(z:Int)∈new→z≠y→ZM next win y:=fun z hz hne=>by
     obtain⟨x,x1,x2⟩:=Rcx.open ((hin y hy).1.trans (hin z hz).2) (fun e=>hne e.symm)
     exact⟨x,x1,x2.trans ((hin z hz).1.trans (hin y hy).2)⟩
    by_cases e:y=v
    ·subst e
     rcases hor with h1|h1
     ·obtain⟨b,b1,b2⟩:=zLE hnd2 h1 (y:Int)
      have hb0:=(k1.rng b (List.mem_append_right _ b1)).1
      refine far b.toNat (by rw [Int.toNat_of_nonneg hb0];exact b1) (fun e=>b2 (by omega))
     ·exact⟨y,⟨hvw,hvw,(yg _ _).1 h1⟩, .refl _⟩
    ·exact far v k5 (fun h=>e h.symm)
   have hcond: ∀y:Nat,(y:Int)∈new→ZM next win y→1<new.length∨zn (gl next v) (v:Int)=true:=fun y hy ⟨z,z1,z2⟩=>by
    by_cases e:y=v
    ·subst e
     by_cases e2:z=y
     ·subst e2;exact .inr ((yg _ _).2 z1.2.2)
     ·exact .inl (zFk hnd2 k5 (hout z z2 (.one z1)) (by omega))
    ·exact .inl (zFk hnd2 hy k5 (by omega))
   have hnl:new.length≤n:=by rw [List.length_append]at hroom;omega
   by_cases hc:1<new.length∨zn (gl next v) (v:Int)=true
   ·rw [if_pos (by rw [Bool.or_eq_true,decide_eq_true_eq];exact hc)]
    refine⟨acc++new,k1,hseen,hroom,fun p hp i hi=> ?_,fun x hx hl=> ?_,?_,fun p hp=> ?_⟩
    ·rcases List.mem_append.1 hp with hp|hp
     ·exact h.ins p hp i hi
     ·rw [List.mem_singleton]at hp
      subst hp
      have hi2:=(Zh new).mem_iff.1 hi
      have hr:=k1.rng i (List.mem_append_right _ hi2)
      exact⟨hr.1,hr.2,hloop i.toNat (by rw [Int.toNat_of_nonneg hr.1];exact hi2) hc⟩
    ·rcases List.mem_append.1 hx with hx|hx
     ·obtain⟨p,p1,p2⟩:=h.outs x hx hl
      exact⟨p,List.mem_append_left _ p1,p2⟩
     ·exact⟨qw new,by simp,(Zh new).mem_iff.2 hx⟩
    ·have :=h.cnt
     have :0<new.length:=List.length_pos_of_mem k5
     simp only [List.length_append,List.length_singleton]
     omega
    ·rcases List.mem_append.1 hp with hp|hp
     ·exact h.rows p hp
     ·rw [List.mem_singleton]at hp
      subst hp
      rw [(Zh new).length_eq]
      exact⟨List.length_pos_of_mem k5,hnl⟩
   ·rw [if_neg (by rw [Bool.or_eq_true,decide_eq_true_eq];exact hc)]
    refine⟨acc++new,k1,hseen,hroom,h.ins,fun x hx hl=> ?_,?_,h.rows⟩
    ·rcases List.mem_append.1 hx with hx|hx
     ·exact h.outs x hx hl
     ·exact absurd (hcond x hx hl) hc
    ·have :=h.cnt
     simp only [List.length_append]
     omega
def bkR (win:List Bool)(v:Nat)(B:List (List Int))(u:Int):List (List Int):=if gb win v&&gb win u.toNat then B.set u.toNat (gl B u.toNat++ [(v:Int)])else B
def bkA (next:List (List Int))(win:List Bool)(n:Nat):Nat→List (List Int)
 |0=>List.replicate n []
 |v+1=>(gl next v).foldl (bkR win v) (bkA next win n v)
theorem kG {win:List Bool}{v:Nat}{B:List (List Int)}{u:Int}:(bkR win v B u).length=B.length:=by
 unfold bkR
 split<;>simp
theorem zCp {B:List (List Int)}{k u:Nat}{r:List Int}(h:k<B.length):gl (B.set k r) u=if u=k then r else gl B u:=by
 unfold gl
 rw [List.getD_eq_getElem?_getD,List.getD_eq_getElem?_getD,List.getElem?_set]
 by_cases e:k=u
 ·subst e;simp [h]
 ·rw [if_neg e,if_neg (fun h=>e h.symm)]
theorem zEs {v:Nat}: ∀(us:List Int) (B:List (List Int)),(∀u∈us,0≤u∧u<(B.length:Nat))→(us.foldl (bkR win v) B).length=B.length∧∀(x:Nat) (y:Int),y∈gl (us.foldl (bkR win v) B) x↔y∈gl B x∨(y=(v:Int)∧gb win v=true∧gb win x=true∧(x:Int)∈us)
 | [],B,_=>⟨rfl,fun x y=>by simp⟩
 |u::us,B,h=>by
  obtain⟨u0,u1⟩:=h u (List.mem_cons_self ..)
  obtain⟨h1,h2⟩:=zEs (v:=v) us (bkR win v B u) (fun x hx=>by rw [kG];exact h x (List.mem_cons_of_mem _ hx))
  rw [List.foldl_cons]
  refine⟨h1.trans kG,fun x y=> ?_⟩
  rw [h2 x y]
  have hx:y∈gl (bkR win v B u) x↔y∈gl B x∨(y=(v:Int)∧gb win v=true∧gb win x=true∧(x:Int)=u):=by
   unfold bkR
   by_cases hc:gb win v=true∧gb win u.toNat=true
   ·rw [if_pos (by rw [hc.1,hc.2];rfl),zCp (by omega)]
    by_cases e:x=u.toNat
    ·rw [if_pos e,List.mem_append,List.mem_singleton,←e]
     constructor
     ·rintro(h|h)
      ·exact .inl h
      ·exact .inr ⟨h,hc.1,by rw [e];exact hc.2,by omega⟩
     ·rintro(h|⟨h,-⟩)
      ·exact .inl h
      ·exact .inr h
    ·rw [if_neg e]
     constructor
     ·exact .inl
     ·rintro(h|⟨-,-,-,h⟩)
      ·exact h
      ·omega
   ·rw [if_neg (by rw [Bool.and_eq_true];exact hc)]
    constructor
    ·exact .inl
    ·rintro(h|⟨-,h3,h4,h5⟩)
     ·exact h
     ·exact absurd ⟨h3,by rw [←h5,Int.toNat_natCast];exact h4⟩ hc
  rw [hx]
  constructor
  ·rintro((h|⟨q1,q2,q3,q4⟩)|⟨q1,q2,q3,q4⟩)
   ·exact .inl h
   ·exact .inr ⟨q1,q2,q3,by rw [q4];exact List.mem_cons_self ..⟩
   ·exact .inr ⟨q1,q2,q3,List.mem_cons_of_mem _ q4⟩
  ·rintro(h|⟨q1,q2,q3,q4⟩)
   ·exact .inl (.inl h)
   ·rcases List.mem_cons.1 q4 with q4|q4
    ·exact .inl (.inr ⟨q1,q2,q3,q4⟩)
    ·exact .inr ⟨q1,q2,q3,q4⟩
theorem zCo (n v:Nat):gl (List.replicate n []) v= []:=by
 unfold gl
 rw [List.getD_eq_getElem?_getD,List.getElem?_replicate]
 split<;>rfl
theorem zEr (hg:Gr n next win): ∀v,v≤n→(bkA next win n v).length=n∧∀(x:Nat) (y:Int),y∈gl (bkA next win n v) x↔∃z:Nat,y=(z:Int)∧z<v∧gb win z=true∧gb win x=true∧(x:Int)∈gl next z
 |0,_=>⟨by simp [bkA],fun x y=>by
  simp only [bkA,zCo]
  constructor
  ·intro h;cases h
  ·rintro⟨z,-,h,-⟩;omega⟩
 |v+1,hv=>by
  obtain⟨h1,h2⟩:=zEr hg v (by omega)
  obtain⟨k1,k2⟩:=zEs (win:=win) (v:=v) (gl next v) (bkA next win n v) (fun u hu=>by rw [h1];exact hg.rng v u hu)
  refine⟨k1.trans h1,fun x y=> ?_⟩
  simp only [bkA]
  rw [k2 x y,h2 x y]
  constructor
  ·rintro(⟨z,q1,q2,q3⟩|⟨q1,q2,q3,q4⟩)
   ·exact⟨z,q1,by omega,q3⟩
   ·exact⟨v,q1,by omega,q2,q3,q4⟩
  ·rintro⟨z,q1,q2,q3,q4,q5⟩
   by_cases e:z=v
   ·subst e;exact .inr ⟨q1,q3,q4,q5⟩
   ·exact .inl ⟨z,q1,by omega,q3,q4,q5⟩
theorem zH1 (hg:Gr n next win):Gr n (bkA next win n n) win∧∀x y,yd (bkA next win n n) win x y↔yd next win y x:=by
 obtain⟨h1,h2⟩:=zEr hg n (Nat.le_refl _)
 refine⟨⟨h1,hg.wl,fun v u hu=> ?_⟩,fun x y=> ?_⟩
 ·obtain⟨z,rfl,hz,-⟩:=(h2 v u).1 hu
  omega
 ·unfold yd
  rw [h2 x y]
  constructor
  ·rintro⟨w1,w2,z,e,-,q1,q2,q3⟩
   have :z=y:=by omega
   subst this
   exact⟨w2,w1,q3⟩
  ·rintro⟨w1,w2,h⟩
   have hy:=JK h
   rw [hg.tl]at hy
   exact⟨w2,w1,y,rfl,hy,w1,w2,h⟩
def Zw (next:List (List Int))(win:List Bool):List (List Int):=(ph2 next (bkA next win next.length next.length) win next.length (ph1 next win next.length next.length).2 (ph1 next win next.length next.length).2.length).2
theorem kY (hg:Gr next.length next win):(∀p∈Zw next win,∀i∈p,0≤i∧i<(next.length:Nat)∧ZM next win i.toNat)∧(∀x,ZM next win x→∃p∈Zw next win,(x:Int)∈p)∧(Zw next win).length≤next.length∧∀p∈Zw next win,1≤p.length∧p.length≤next.length:=by
 obtain⟨h1,h2,h3⟩:=zBF hg next.length (Nat.le_refl _)
 obtain⟨hb1,hb2⟩:=zH1 hg
 obtain⟨acc,h⟩:=zBG hg hb1 hb2 h1 h3 _ (Nat.le_refl _)
 refine⟨h.ins,fun x hl=>h.outs x ?_ hl,?_,h.rows⟩
 ·obtain⟨y,hy,-⟩:=hl
  have hxn:=JK hy.2.2
  have hxo:=((h1.ext x).1 (h3 x hxn hy.1)).resolve_left (fun h=>h)
  obtain⟨k,hk,e⟩:=List.getElem_of_mem hxo
  have hs:=h.seen ((ph1 next win next.length next.length).2.length - 1 - k) (by omega)
  rw [show(ph1 next win next.length next.length).2.length - 1 - ((ph1 next win next.length next.length).2.length - 1 - k)=k from by omega]at hs
  have e2:gi (ph1 next win next.length next.length).2 k=(x:Int):=by
   unfold gi
   rw [List.getD_eq_getElem?_getD,List.getElem?_eq_getElem hk]
   exact e
  rw [e2,Int.toNat_natCast]at hs
  exact((h.dfs.ext x).1 hs).resolve_left (fun h=>h)
 ·have :=h.cnt
  have :=h.room
  exact Nat.le_trans h.cnt (by omega)
end
section
variable {P:Program} {np:Bool} {τ:Ty} {lo:Nat} {w0:Fz} {ow:Nat→Option Pl} {hd:Nat→Value} {bk:Nat→Nat} {st:St} {a:Act} {w:World}
def St.top (d:Nat)(st:St):St:=match lk st.r d with
 |some R=>match R.o with
  | .ex=>st.setR d {R with o:= .top}
  |_=>st
 |none=>st
attribute [push_cast] St.top St.delR0
end
end Go.Proofs.Ytggpbepdeilpgaa
