/- records zKj a loop: the greatest priority is even just if what is asked is given; plain -/
import Derived.Test.YthepmdkpbjfdcaaGreatB14zff
import Derived.Test.YthepmdkpbjfdcaaGreatB7zff
import Derived.Test.YthepmdkpbjfdcaaGreatB6zff
import Derived.Test.YthepmdkpbjfdcaaGreatB10zff
import Derived.Test.YthepmdkpbjfdcaaGreatB11zff
import Derived.Test.YthepmdkpbjfdcaaGreatFazff
import Derived.Test.YthepmdkpbjfdcaaGreatGEzff
namespace Go.Proofs.YthepmdkpbjfdcaaGreat
open Go.RowKit
set_option linter.unusedVariables false
set_option linter.unusedSimpArgs false
theorem zFR (ps:List Pr)(r:List Int)(v:Int): ∀n i,i<n→akB ps r v i=true→(i:Int)≤akI ps r v n
 |0,i,h,_=>absurd h (Nat.not_lt_zero i)
 |n+1,i,h,hb=>by
  cases hn:akB ps r v n with
  |true=>rw [Yl hn];omega
  |false=>
   rw [Qc hn]
   by_cases e:i=n
   ·subst e;rw [hn]at hb;cases hb
   ·exact zFR ps r v n i (by omega) hb
theorem zHd (ps:List Pr)(r:List Int)(v:Int): ∀n,akI ps r v n= -1∨∃i,i<n∧akI ps r v n=i∧akB ps r v i=true
 |0=> .inl rfl
 |n+1=>by
  cases hn:akB ps r v n with
  |true=>rw [Yl hn];exact .inr ⟨n,by omega,rfl,hn⟩
  |false=>
   rw [Qc hn]
   rcases zHd ps r v n with h|⟨i,h1,h2,h3⟩
   ·exact .inl h
   ·exact .inr ⟨i,by omega,h2,h3⟩
theorem zFg (ps:List Pr)(r:List Int)(v:Int): ∀n i,i<n→gvB ps r v i=true→(i:Int)≤gvI ps r v n
 |0,i,h,_=>absurd h (Nat.not_lt_zero i)
 |n+1,i,h,hb=>by
  cases hn:gvB ps r v n with
  |true=>rw [Yu hn];omega
  |false=>
   rw [Qm hn]
   by_cases e:i=n
   ·subst e;rw [hn]at hb;cases hb
   ·exact zFg ps r v n i (by omega) hb
theorem zDS (ps:List Pr)(r:List Int)(v:Int): ∀n,gvI ps r v n= -1∨∃i,i<n∧gvI ps r v n=i∧gvB ps r v i=true
 |0=> .inl rfl
 |n+1=>by
  cases hn:gvB ps r v n with
  |true=>rw [Yu hn];exact .inr ⟨n,by omega,rfl,hn⟩
  |false=>
   rw [Qm hn]
   rcases zDS ps r v n with h|⟨i,h1,h2,h3⟩
   ·exact .inl h
   ·exact .inr ⟨i,by omega,h2,h3⟩
theorem zIg {ps:List Pr}{r:List Int}{v:Int}{i:Nat}(hi:i<r.length)(hx:gvP ps v (gi r i)=false): ∃j,i≤j∧j<(nxL ps r v).length∧gi (nxL ps r v) j=gi r i∧((∃m,i<m∧m<r.length∧gvP ps v (gi r m)=true)→i<j):=by
 have hr:r=r.take i++gi r i::r.drop (i+1):=by
  rw [QP hi]
  rw [List.getElem_cons_drop,List.take_append_drop]
 have hsplit: ∀l:List Int,l.length=(l.filter (gvP ps v)).length+(l.filter (fun x=> !gvP ps v x)).length:=fun l=>by
  induction l with
  |nil=>rfl
  |cons y l ih=>
   cases hy:gvP ps v y<;>simp only [List.filter_cons,hy,List.length_cons,ih]<;>simp<;>omega
 have hti:(r.take i).length=i:=by rw [List.length_take];omega
 have h1:=hsplit (r.take i)
 rw [hti]at h1
 have hp:(r.filter (gvP ps v)).length=((r.take i).filter (gvP ps v)).length+((r.drop (i+1)).filter (gvP ps v)).length:=by
  conv=>lhs;rw [hr]
  rw [List.filter_append,List.filter_cons,if_neg (by rw [hx];decide),List.length_append]
 have hq:r.filter (fun x=> !gvP ps v x)=(r.take i).filter (fun x=> !gvP ps v x)++gi r i::(r.drop (i+1)).filter (fun x=> !gvP ps v x):=by
  conv=>lhs;rw [hr]
  rw [List.filter_append,List.filter_cons,if_pos (by rw [hx];rfl)]
 refine⟨(r.filter (gvP ps v)).length+((r.take i).filter (fun x=> !gvP ps v x)).length,by omega,?_,?_,?_⟩
 ·rw [zDp,List.length_append,hq,List.length_append,List.length_cons]
  omega
 ·rw [zDp]
  unfold gi
  rw [List.getD_eq_getElem?_getD,List.getElem?_append_right (by omega),Nat.add_sub_cancel_left,hq,List.getElem?_append_right (Nat.le_refl _),Nat.sub_self]
  rfl
 ·rintro⟨m,h2,h3,h4⟩
  have h5:gi r m∈(r.drop (i+1)).filter (gvP ps v):=by
   refine List.mem_filter.2 ⟨?_,h4⟩
   rw [QP h3]
   refine List.mem_iff_getElem.2 ⟨m - (i+1),by rw [List.length_drop];omega,?_⟩
   rw [List.getElem_drop]
   congr 1
   omega
  have h6:0<((r.drop (i+1)).filter (gvP ps v)).length:=List.length_pos_of_mem h5
  omega
structure vF (ps:List Pr)(L:Nat)(rec:Nat→List Int)(v:Nat→Int):Prop where
 pos:0<L
 ok: ∀t,vh (rec t) ps.length=true
 next: ∀t,rec (t+1)=nxL ps (rec t) (v t)
 perR: ∀t,rec (t+L)=rec t
 perV: ∀t,v (t+L)=v t
section
variable {ps:List Pr} {L:Nat} {rec:Nat→List Int} {v:Nat→Int}
theorem vF.len (h:vF ps L rec v)(t:Nat):(rec t).length=ps.length:=by have :=(qU (h.ok t)).1;omega
theorem vF.inj (h:vF ps L rec v){t i j:Nat}(hi:i<ps.length)(hj:j<ps.length)(e:gi (rec t) i=gi (rec t) j):i=j:=by
 have hf:=(qU (h.ok t)).2
 have hl:=h.len t
 rcases Nat.lt_trichotomy i j with h1|h1|h1
 ·exact absurd e ((hf j (by omega)).2 i h1)
 ·exact h1
 ·exact absurd e.symm ((hf i (by omega)).2 j h1)
theorem vF.mono (h:vF ps L rec v){T i:Nat}(hi:i<ps.length): ∀d,(∀s,s<d→gvP ps (v (T+s)) (gi (rec T) i)=false)→∃j,i≤j∧j<ps.length∧gi (rec (T+d)) j=gi (rec T) i
 |0,_=>⟨i,Nat.le_refl _,hi,rfl⟩
 |d+1,hg=>by
  obtain⟨j,h1,h2,h3⟩:=vF.mono h hi d fun s hs=>hg s (by omega)
  have hgd:=hg d (by omega)
  rw [←h3]at hgd
  obtain⟨m,k1,k2,k3,-⟩:=zIg (r:=rec (T+d)) (i:=j) (by rw [h.len];exact h2) hgd
  rw [←h.next]at k2 k3
  rw [h.len]at k2
  exact⟨m,by omega,k2,k3.trans h3⟩
theorem vF.perR' (h:vF ps L rec v)(t:Nat): ∀m,rec (t+m*L)=rec t∧v (t+m*L)=v t
 |0=>by simp
 |m+1=>by
  have ih:=vF.perR' h t m
  rw [show t+(m+1)*L=(t+m*L)+L from by rw [Nat.succ_mul];omega,h.perR,h.perV]
  exact ih
theorem vF.mod (h:vF ps L rec v)(t:Nat):rec t=rec (t%L)∧v t=v (t%L):=by
 have :=h.perR' (t%L) (t / L)
 rw [show t%L+t / L*L=t from by rw [Nat.mul_comm];exact Nat.mod_add_div t L]at this
 exact this
theorem vF.never (h:vF ps L rec v){t i:Nat}(hi:i<ps.length)(hn: ∀s,gvP ps (v s) (gi (rec t) i)=false){m:Nat}(hm:m<ps.length)(hg:gvP ps (v t) (gi (rec t) m)=true):m<i:=by
 rcases Nat.lt_trichotomy m i with h1|h1|h1
 ·exact h1
 ·subst h1;rw [hn t]at hg;cases hg
 ·exfalso
  have hl:=h.len t
  obtain⟨j,k1,k2,k3,k4⟩:=zIg (r:=rec t) (i:=i) (by omega) (hn t)
  have k5:=k4 ⟨m,h1,by omega,hg⟩
  rw [←h.next]at k2 k3
  rw [h.len]at k2
  obtain⟨q,q1,q2,q3⟩:=h.mono (T:=t+1) k2 (L - 1) fun s _=>by rw [k3];exact hn _
  rw [show t+1+(L - 1)=t+L from by have :=h.pos;omega,h.perR,k3]at q3
  have :=h.inj q2 hi q3
  omega
theorem giveP {x:Int}(v:Int):gvP ps v x=zr (gp ps x.toNat).give v:=rfl
theorem vF.at (h:vF ps L rec v)(t:Nat){x:Nat}(hx:x<ps.length): ∃i,i<ps.length∧gi (rec t) i=(x:Int):=by
 have hf:=Xd (h.ok t)
 have hp:=zDx ps.length (rec t) hf.2.2 hf.2.1 (h.len t)
 have hm:(x:Int)∈rec t:=hp.mem_iff.2 (List.mem_map.2 ⟨x,List.mem_range.2 hx,rfl⟩)
 obtain⟨i,hi,e⟩:=zFo hm
 exact⟨i,by rw [h.len]at hi;exact hi,e⟩
theorem vF.law (h:vF ps L rec v){M:Int}(h1: ∃T,T<L∧qD ps (rec T) (v T)=M)(h2: ∀t,t<L→qD ps (rec t) (v t)≤M):
  M%2=0↔∀x,x<ps.length→(∃t,t<L∧zr (gp ps x).ask (v t)=true)→∃t,t<L∧zr (gp ps x).give (v t)=true:=by
 have hmax: ∀t,qD ps (rec t) (v t)≤M:=fun t=>by
  have :=h.mod t
  rw [this.1,this.2]
  exact h2 _ (Nat.mod_lt _ h.pos)
 obtain⟨T,hT,hM⟩:=h1
 constructor
 ·intro hev x hx ⟨t,ht,ha⟩
  rcases Classical.em (∃t,t<L∧zr (gp ps x).give (v t)=true)with hc|hc
  ·exact hc
  ·exfalso
   have hnv: ∀s,zr (gp ps x).give (v s)=false:=fun s=>by
    cases hb:zr (gp ps x).give (v s)with
    |false=>rfl
    |true=>exact absurd ⟨s%L,Nat.mod_lt _ h.pos,by rw [←(h.mod s).2];exact hb⟩ hc
   -- its place is the same at all times
   obtain⟨c,hcl,hcx⟩:=h.at t hx
   have hng: ∀s,gvP ps (v s) (gi (rec t) c)=false:=fun s=>by rw [hcx];exact hnv s
   have ha2:akB ps (rec t) (v t) c=true:=by unfold akB;rw [hcx];exact ha
   have hlt:=h.len t
   have a1:=zFR ps (rec t) (v t) (rec t).length c (by omega) ha2
   have g1:gvI ps (rec t) (v t) (rec t).length<c:=by
    rcases zDS ps (rec t) (v t) (rec t).length with e|⟨m,m1,m2,m3⟩
    ·omega
    ·have :=h.never hcl hng (m:=m) (by omega) m3
     omega
   have hp:2*(c:Int)+1≤qD ps (rec t) (v t):=by
    unfold qD prV
    rw [if_neg (by omega),if_pos (by omega)]
    omega
   have hM1:=hmax t
   -- at T
   obtain⟨b,hbl,hbx⟩:=h.at T hx
   have hngT: ∀s,gvP ps (v s) (gi (rec T) b)=false:=fun s=>by rw [hbx];exact hnv s
   have hbc:b=c:=by
    -- from t to T (a later turn),and back
    obtain⟨q,q1,q2,q3⟩:=h.mono (T:=t) hcl (T+L - t) fun s _=>hng _
    rw [show t+(T+L - t)=T+L from by omega,h.perR,hcx,←hbx]at q3
    have e1:=h.inj q2 hbl q3
    obtain⟨q',p1,p2,p3⟩:=h.mono (T:=T) hbl (t+L - T) fun s _=>hngT _
    rw [show T+(t+L - T)=t+L from by omega,h.perR,hbx,←hcx]at p3
    have e2:=h.inj p2 hcl p3
    omega
   have g2:gvI ps (rec T) (v T) (rec T).length<c:=by
    have hlT:=h.len T
    rcases zDS ps (rec T) (v T) (rec T).length with e|⟨m,m1,m2,m3⟩
    ·omega
    ·have :=h.never hbl hngT (m:=m) (by omega) m3
     omega
   rw [←hM]at hev hM1
   unfold qD prV at hev hM1 hp
   split at hev
   ·rename_i e;rw [if_pos e]at hM1;split at hp<;>omega
   ·rename_i e
    rw [if_neg e]at hM1
    split at hev
    ·omega
    ·rename_i e2
     rw [if_neg e2]at hM1
     split at hp
     ·omega
     ·split at hp<;>omega
 ·intro hall
  rcases Int.emod_two_eq M with h0|h0
  ·exact h0
  ·exfalso
   have hodd: ∃a,0≤a∧akI ps (rec T) (v T) (rec T).length=a∧M=2*a+1:=by
    rw [←hM]at h0⊢
    unfold qD prV at h0⊢
    split at h0
    ·omega
    ·rename_i e
     rw [if_neg e]
     split at h0
     ·rename_i e2
      rw [if_pos e2]
      have :=KP ps (rec T) (v T) (rec T).length
      exact⟨_,by omega,rfl,rfl⟩
     ·omega
   obtain⟨a,ha0,ha1,ha2⟩:=hodd
   have hlT:=h.len T
   rcases zHd ps (rec T) (v T) (rec T).length with e|⟨i,i1,i2,i3⟩
   ·omega
   have hfT:=(qU (h.ok T)).2 i i1
   obtain⟨x,hx⟩: ∃x:Nat,gi (rec T) i=x:=⟨_,(Int.toNat_of_nonneg hfT.1.1).symm⟩
   have hxl:x<ps.length:=by omega
   unfold akB at i3
   rw [hx,Int.toNat_natCast]at i3
   obtain⟨s,hs,hgs⟩:=hall x hxl ⟨T,hT,i3⟩
   -- the first time from T on at which it is given
   have hex: ∃d,zr (gp ps x).give (v (T+d))=true:=⟨s+L - T,by rw [show T+(s+L - T)=s+L from by omega,h.perV];exact hgs⟩
   have key: ∀n,(∃d,d<n∧zr (gp ps x).give (v (T+d))=true∧∀q,q<d→zr (gp ps x).give (v (T+q))=false)∨∀q,q<n→zr (gp ps x).give (v (T+q))=false:=by
    intro n
    induction n with
    |zero=>exact .inr fun q hq=>absurd hq (Nat.not_lt_zero q)
    |succ n ih=>
     rcases ih with⟨d,d1,d2,d3⟩|ih
     ·exact .inl ⟨d,by omega,d2,d3⟩
     ·cases hb:zr (gp ps x).give (v (T+n))with
      |true=>exact .inl ⟨n,by omega,hb,ih⟩
      |false=>
       refine .inr fun q hq=> ?_
       rcases Nat.lt_or_ge q n with h9|h9
       ·exact ih q h9
       ·rw [show q=n by omega];exact hb
   obtain⟨d0,hd0⟩:=hex
   rcases key (d0+1)with⟨d,-,d2,d3⟩|hk
   ·obtain⟨j,j1,j2,j3⟩:=h.mono (T:=T) (i:=i) (by omega) d fun q hq=>by rw [hx,giveP,Int.toNat_natCast];exact d3 q hq
    have hlj:=h.len (T+d)
    have hgj:gvB ps (rec (T+d)) (v (T+d)) j=true:=by
     unfold gvB
     rw [j3,hx,Int.toNat_natCast]
     exact d2
    have g3:=zFg ps (rec (T+d)) (v (T+d)) (rec (T+d)).length j (by omega) hgj
    have hm:=hmax (T+d)
    unfold qD prV at hm
    split at hm
    ·omega
    ·split at hm<;>omega
   ·rw [hk d0 (by omega)]at hd0
    cases hd0
end
open Nat renaming reduceMod → zA, reduceMul → zB, reduceDiv → zC, reduceAdd → zD, reduceSub → zE, reduceEqDiff → zF, reduceBEq → zG, reduceLT → zH, reduceLeDiff → zI
theorem zEF {b:List Int}{n:Int}(hs:zv b n=true)(hn:0≤n):(b.length:Int)≤n:=by
 rcases Nat.eq_zero_or_pos b.length with h|h
 ·omega
 ·have h1:=zIt hs (b.length - 1) (by omega)
  have h2:=xl hs (k:=b.length - 1) (by omega)
  unfold xp at h2
  have h3:=of_decide_eq_true h2
  omega
def vg (a b:List Int):Bool:=a.any fun x=>zr b x
theorem JG (a b:List Int):vg a b=vg b a:=by
 rw [Bool.eq_iff_iff]
 unfold vg
 simp only [List.any_eq_true,yD]
 exact⟨fun⟨x,h1,h2⟩=>⟨x,h2,h1⟩,fun⟨x,h1,h2⟩=>⟨x,h2,h1⟩⟩
theorem zNq (a b:List Int):decide ((qX a b).length<a.length)=vg a b:=by
 rw [Bool.eq_iff_iff,decide_eq_true_eq]
 unfold qX vg
 rw [List.length_filter_lt_length_iff_exists,List.any_eq_true]
 simp
def bkB (ps:List Pr)(met:List Int)(i:Nat):Bool:=vg (gp ps i).ask met&& !vg (gp ps i).give met
theorem zM1 {ps:List Pr}{met:List Int}{i:Nat}(h:vg (gp ps i).ask met=false):bkB ps met i=false:=by unfold bkB;rw [h];rfl
theorem zM2 {ps:List Pr}{met:List Int}{i:Nat}(h:vg (gp ps i).give met=true):bkB ps met i=false:=by unfold bkB;rw [h];simp
theorem zM3 {ps:List Pr}{met:List Int}{i:Nat}(h:vg (gp ps i).ask met=true)(h2:vg (gp ps i).give met=false):bkB ps met i=true:=by unfold bkB;rw [h,h2];rfl
def bkN (ps:List Pr)(met:List Int)(k:Nat):List Int:=((List.range k).filter (bkB ps met)).map fun(i:Nat)=>(i:Int)
theorem zLI {ps:List Pr}{met:List Int}{k:Nat}(h:bkB ps met k=true):bkN ps met (k+1)=bkN ps met k++ [(k:Int)]:=by unfold bkN;rw [List.range_succ,List.filter_append,List.map_append];simp [h]
theorem zM0 {ps:List Pr}{met:List Int}{k:Nat}(h:bkB ps met k=false):bkN ps met (k+1)=bkN ps met k:=by unfold bkN;rw [List.range_succ,List.filter_append];simp [h]
theorem zMz (ps:List Pr)(met:List Int)(k:Nat):(bkN ps met k).length≤k:=by unfold bkN;rw [List.length_map];exact Nat.le_trans (List.length_filter_le _ _) (by simp)
set_option maxRecDepth 20000 in
set_option maxHeartbeats 4000000 in
theorem Yx (a b:List Int)(ha:a.length≤1048576)(hb:b.length≤1048576)(n:Int)(hs:zv b n=true):Fn Tryz.prog tyT 119 [.c (DI a), .c (DI b)] [.c (.bool (vg a b))]:=by
 have hL:=KX a b ha hb n hs
 have hm:=zNq a b
 unfold qX at hm
 refine θH (ts:= [4]) Tryz.func119 Tryz.ntmps119 ?_
 push_cast
 refine θA ?_
 refine θL fun K hK=> ?_
 refine θD 3 ?_
 refine θE hK ?_
 refine zY ⟨Or.inl rfl,?_⟩
 push_cast [zd]
 first|exact hm|(rw [←hm];simp;done)|(rw [←hm];done)
set_option maxRecDepth 20000 in
set_option maxHeartbeats 4000000 in
theorem zEb (ps:List Pr)(ha:PLn 1048576 ps)(n:Int):Fn Tryz.prog tyT 57 [.c (.lst 93 (dII (ilv ps))), .c (.int .i64 n)] [.c (.bool (vy ps n))]:=by
 have hl:=ha.1
 have hg:=fun k=>Xy ha k
 have hga: ∀k,(gp ps k).ask.length≤1048576:=fun k=>(hg k).ask
 have hgg: ∀k,(gp ps k).give.length≤1048576:=fun k=>(hg k).give
 have hli:=xV ps
 have hA:=Vf ps ha n
 refine θH (ts:= [4]) Tryz.func57 Tryz.ntmps57 ?_
 push_cast [↓zK,↓zJ]
 refine θA ?_
 refine zL fun K hK=> ?_
 refine zc false zQ zN ?_ rfl ?_
 ·kernel_rfl
 all_goals refine zm 10 fun K9 hK9=> ?_
 all_goals push_cast [↓zK,↓zJ]
 all_goals repeat'(first|(apply zO<;>(intro hg;(try push_cast at hg)))|(refine⟨_,hA,?_⟩;push_cast [↓zK,↓zJ])|apply And.intro|(intro hg;(try push_cast at hg)))
 all_goals try exact gA
 all_goals(refine hK9 _ ?_;clear hK9 K9)
 all_goals push_cast [↓zK,↓zJ]
 all_goals repeat'(first|(apply zO<;>(intro hg;(try push_cast at hg)))|(refine⟨_,hA,?_⟩;push_cast [↓zK,↓zJ])|apply And.intro|(intro hg;(try push_cast at hg)))
 all_goals try exact gA
 all_goals(refine hK _ ?_;clear hK K)
 all_goals(
   refine zY ⟨Or.inl rfl,?_⟩
   push_cast [zd,↓zK,↓zJ]
   all_goals first|exact(zD1 (by omega)).symm|exact(JV (by omega)).symm)
set_option maxRecDepth 20000 in
set_option maxHeartbeats 4000000 in
theorem Vj (ps:List Pr)(ha:PLn 1048576 ps)(n:Int)(hs: ∀i,i<ps.length→zv (gp ps i).ask n=true∧zv (gp ps i).give n=true)(met:List Int)(hm:met.length≤1048576):Fn Tryz.prog tyT 60 [.c (.lst 93 (dII (ilv ps))), .c (DI met)] [.c (DI (bkN ps met ps.length))]:=by
 have hl:=ha.1
 have hg:=fun k=>Xy ha k
 have hga: ∀k,(gp ps k).ask.length≤1048576:=fun k=>(hg k).ask
 have hgg: ∀k,(gp ps k).give.length≤1048576:=fun k=>(hg k).give
 have hli:=xV ps
 refine θH (ts:= [4]) Tryz.func60 Tryz.ntmps60 ?_
 push_cast [↓zK,↓zJ]
 refine θA ?_
 refine θA ?_
 refine zL fun K1 hK1=> ?_
 refine θA ?_
 refine zV ?_
 refine zh [5,6,7,11,12,13,14,15,16,17,18,19,20,21,22,23,24,25,26,27,28,29,30,31] [80] (fun(k:Nat)=> [(11, .int .i64 k),(5, .sl 80 [] 0 (bkN ps met k).length 2)]) (fun k=> []) (fun k=> [(80,⟨.ex,2,dI (bkN ps met k),none⟩)]) (fun k=>k≤ps.length) (fun k=>ps.length - k) 0 ?_ (by omega) ?_
 ·
  rw [show bkN ps met 0= []from rfl,show dI ([]:List Int)= []from rfl]
  exact θX
 ·rintro k hk KL0 hL0
  have hbl:=zMz ps met k
  push_cast [↓zK,↓zJ]
  refine θA ?_
  refine zL fun K2 hK2=> ?_
  refine θU (fun hc=> ?_) fun hc=> ?_
  ·
   refine zW (hK2 _ ?_)
   refine zL fun K3 hK3=> ?_
   refine zV ?_
   refine θA ?_
   refine zL fun K hK=> ?_
   refine zc false zQ zN ?_ rfl ?_
   ·kernel_rfl
   all_goals refine zm 4 fun K9 hK9=> ?_
   all_goals push_cast [↓zK,↓zJ]
   all_goals repeat'(first|(apply zO<;>(intro hg;(try push_cast at hg)))|(refine⟨_,Yx met (gp ps k).ask hm (hga k) n (hs k (by omega)).1,?_⟩;push_cast [↓zK,↓zJ])|(refine⟨_,Yx met (gp ps k).give hm (hgg k) n (hs k (by omega)).2,?_⟩;push_cast [↓zK,↓zJ])|apply And.intro|(intro hg;(try push_cast at hg)))
   all_goals first|exact gA|(exact zP (by simp only [push_cast];omega))|(exact zP (by omega))|skip
   all_goals(refine hK9 _ ?_;clear hK9 K9)
   all_goals refine zm 5 fun K9 hK9=> ?_
   all_goals push_cast [↓zK,↓zJ]
   all_goals repeat'(first|(apply zO<;>(intro hg;(try push_cast at hg)))|(refine⟨_,Yx met (gp ps k).ask hm (hga k) n (hs k (by omega)).1,?_⟩;push_cast [↓zK,↓zJ])|(refine⟨_,Yx met (gp ps k).give hm (hgg k) n (hs k (by omega)).2,?_⟩;push_cast [↓zK,↓zJ])|apply And.intro|(intro hg;(try push_cast at hg)))
   all_goals first|exact gA|(exact zP (by simp only [push_cast];omega))|(exact zP (by omega))|skip
   all_goals(refine hK9 _ ?_;clear hK9 K9)
   all_goals push_cast [↓zK,↓zJ]
   all_goals repeat'(first|(apply zO<;>(intro hg;(try push_cast at hg)))|(refine⟨_,Yx met (gp ps k).ask hm (hga k) n (hs k (by omega)).1,?_⟩;push_cast [↓zK,↓zJ])|(refine⟨_,Yx met (gp ps k).give hm (hgg k) n (hs k (by omega)).2,?_⟩;push_cast [↓zK,↓zJ])|apply And.intro|(intro hg;(try push_cast at hg)))
   all_goals first|exact gA|(exact zP (by simp only [push_cast];omega))|(exact zP (by omega))|skip
   all_goals(refine hK _ ?_;clear hK K)
   all_goals refine zU rfl (fun hc=> ?_) (fun hc=> ?_)
   all_goals(first|(cases hc;done)|skip)
   all_goals(try simp only [push_cast]at hc)
   all_goals first
    |(
      refine zW (hK3 _ ?_)
      refine θB ?_
      refine hL0 _ ⟨k+1,by omega,by omega,?_⟩
      rw [zM0 (by first|exact zM1 (by rw [JG];with_reducible assumption)|exact zM2 (by rw [JG];with_reducible assumption))]
      exact θX
      all_goals(try(rw [List.length_append];rfl))
      done)
    |(
      refine θB ?_
      refine hK3 _ ?_
      refine θB ?_
      refine hL0 _ ⟨k+1,by omega,by omega,?_⟩
      (try rw [List.take_of_length_le (l:=bkN ps met k) (by omega)])
      rw [zLI (zM3 (by rw [JG];with_reducible assumption) (by rw [JG];with_reducible assumption))]
      refine zX rfl ?_ ?_ ?_<;>push_cast [zf,ze,↓zK,↓zJ]
      all_goals(try(rw [List.length_append];rfl))
      done)
  ·
   refine zi ?_
   have hkk:k=ps.length:=by omega
   subst hkk
   refine hK1 _ ?_
   refine θA ?_
   refine zY ⟨Or.inl rfl,?_⟩
   push_cast [zd,↓zK,↓zJ]
   all_goals first|rfl|exact⟨rfl,rfl⟩
set_option maxRecDepth 20000 in
set_option maxHeartbeats 4000000 in
theorem zA6 (a b:List Int)(ha:a.length≤500000)(hb:b.length≤500000)(n:Int)(hs:zv a n=true):Fn Tryz.prog tyT 58 [.c (DI a), .c (DI b)] [.c (DI (zz (a++qX b a)))]:=by
 have hL:=KX b a (by omega) (by omega) n hs
 have hll:=JC b a
 have hSo:=jA (a++qX b a) (by rw [List.length_append];omega)
 have hsl:=xJ (a++qX b a)
 unfold qX at hll hSo hsl⊢
 refine θH (ts:= [4]) Tryz.func58 Tryz.ntmps58 ?_
 push_cast
 refine θA ?_
 refine θL fun K hK=> ?_
 refine θD 6 ?_
 refine θE hK ?_
 (try rw [List.take_of_length_le (l:=a) (Nat.le_refl _)])
 (try rw [List.take_of_length_le (Nat.le_refl _)])
 (try simp only [←List.length_append])
 refine zL fun K hK=> ?_
 refine jt 14 [0] [(0,2,dI (zz (a++b.filter fun x=> !zr a x)))] zQ zN [] rfl ?_
 push_cast
 all_goals repeat'(first|(apply zO<;>(intro hg;push_cast at hg))|(refine⟨_,hSo,?_⟩;push_cast)|apply And.intro|(intro hg;push_cast at hg))
 all_goals try exact gA
 refine hK _ ?_;clear hK K
 refine θA ?_
 refine zY ⟨Or.inl rfl,?_⟩
 push_cast [zd]
 first|rfl|exact⟨rfl,rfl⟩|exact⟨rfl,hsl.symm⟩|(simp [hsl];done)
set_option maxRecDepth 20000 in
set_option maxHeartbeats 4000000 in
theorem kI (p:Plc)(hp:p.record.length≤1048576)(u:Int)(r:List Int)(hr:r.length≤1048576):FnX Tryz.prog tyT 180 [.v (.agg [.int .i64 p.at_,DI p.record]), .ref (.lst 2 [.int .i64 u]), .ref (.lst 2 [DI r])] [.c (.bool (yw u r p))]:=by
 have hE:=kT p.record r hp hr
 refine YJ (fn:=Tryz.f180) (rs:= [.tmp 4]) zQ zN Tryz.func180 (by kernel_rfl) rfl rfl (by rw [Tryz.ntmps180];exact Nat.le_of_ble_eq_true rfl) rfl (by simp only [szX,List.mem_cons,List.not_mem_nil,or_false,forall_eq_or_imp,forall_eq,XT.cells,VT.cells,szL];try decide) ?_
 rw [Tryz.ntmps180]
 push_cast [↓zK,↓zJ]
 refine θA ?_
 refine zL fun K hK=> ?_
 refine zc false zQ zN ?_ rfl ?_
 ·kernel_rfl
 all_goals refine zm 9 fun K9 hK9=> ?_
 all_goals push_cast [↓zK,↓zJ]
 all_goals repeat'(first|(apply zO<;>(intro hg;(try push_cast at hg)))|(refine⟨_,hE,?_⟩;push_cast [↓zK,↓zJ])|apply And.intro|(intro hg;(try push_cast at hg)))
 all_goals try exact gA
 all_goals(refine hK9 _ ?_;clear hK9 K9)
 all_goals push_cast [↓zK,↓zJ]
 all_goals repeat'(first|(apply zO<;>(intro hg;(try push_cast at hg)))|(refine⟨_,hE,?_⟩;push_cast [↓zK,↓zJ])|apply And.intro|(intro hg;(try push_cast at hg)))
 all_goals try exact gA
 all_goals(refine hK _ ?_;clear hK K)
 all_goals(
   refine zY ⟨Or.inl rfl,?_⟩
   push_cast [zd,zt,yH,↓zK,↓zJ]
   all_goals first|exact(zBm (by omega)).symm|(unfold yw;rw [decide_eq_true (by with_reducible assumption)];rfl)|(unfold yw;simp_all;done))
set_option maxRecDepth 20000 in
set_option maxHeartbeats 4000000 in
theorem Jg (ps:List Plc)(ha:QLn 1048576 ps)(g:FuncId)(d1 d2:D)(c1 c2:List D)(q:Plc→Bool)(hp: ∀k,k<ps.length→FnX Tryz.prog tyT g [.v (.agg [.int .i64 (gq ps k).at_,DI (gq ps k).record]), .ref (.lst 2 (d1::c1)), .ref (.lst 2 (d2::c2))] [.c (.bool (q (gq ps k)))]):FnX Tryz.prog tyT 179 [.v (.c (.lst 112 (yy ps))), .clo g [.lst 2 (d1::c1), .lst 2 (d2::c2)]] [.c (.int .i64 (ixQ q ps))]:=by
 have hl:=ha.1
 have hgl:=fun k=>Wu ha k
 refine YJ (fn:=Tryz.f179) (rs:= [.tmp 4]) zQ zN Tryz.func179 (by kernel_rfl) rfl rfl (by rw [Tryz.ntmps179];exact Nat.le_of_ble_eq_true rfl) rfl (by simp only [szX,List.mem_cons,List.not_mem_nil,or_false,forall_eq_or_imp,forall_eq,XT.cells,VT.cells,szL];try decide) ?_
 rw [Tryz.ntmps179]
 push_cast [↓zK,↓zJ]
 refine θA ?_
 refine zL fun K1 hK1=> ?_
 refine θA ?_
 refine zV ?_
 refine zh [4,5,8,9,10,11,12,13,14,15,16,17,18] [] (fun(k:Nat)=> [(8, .int .i64 k)]) (fun k=> []) (fun k=> []) (fun k=>k≤ps.length∧∀j,j<k→q (gq ps j)=false) (fun k=>ps.length - k) 0 ?_ ⟨by omega,fun j hj=>by omega⟩ ?_
 ·
  exact θX
 ·rintro k ⟨hk,hall⟩ KL0 hL0
  push_cast [↓zK,↓zJ]
  refine θA ?_
  refine zL fun K2 hK2=> ?_
  refine θU (fun hc=> ?_) fun hc=> ?_
  ·
   refine zW (hK2 _ ?_)
   refine zL fun K3 hK3=> ?_
   refine zV ?_
   refine θA ?_
   refine zL fun K hK=> ?_
   refine vu 16 2 rfl zQ zN [] rfl ?_
   push_cast [↓zK,↓zJ]
   repeat' apply And.intro
   all_goals(try push_cast [↓zK,↓zJ])
   all_goals repeat'(first|(apply zO<;>(intro hg;(try push_cast at hg)))|(refine⟨_,hp k (by omega),?_⟩;push_cast [↓zK,↓zJ])|apply And.intro|(intro hg;(try push_cast at hg)))
   all_goals first|exact gA|(exact zZ (by omega))|skip
   all_goals(refine hK _ ?_;clear hK K)
   refine θU (fun hc=> ?_) fun hc=> ?_
   ·
    refine θA ?_
    refine zY ⟨Or.inl rfl,?_⟩
    push_cast [zd,zt,yH,↓zK,↓zJ]
    rw [zBU (k:=k) (by omega) (fun j hj=>hall j hj) hc]
   ·
    refine zW (hK3 _ ?_)
    refine θB ?_
    refine hL0 _ ⟨k+1,⟨by omega,fun j hj=>(by
      by_cases hjk:j=k
      ·subst hjk;exact hc
      ·exact hall j (by omega))⟩,by omega,?_⟩
    exact θX
  ·
   refine zi (hK1 _ ?_)
   refine θA ?_
   refine zY ⟨Or.inl rfl,?_⟩
   push_cast [zd,zt,yH,↓zK,↓zJ]
   rw [kv fun j hj=>hall j (by omega)]
set_option maxRecDepth 20000 in
set_option maxHeartbeats 4000000 in
theorem QD (ps:List Plc)(ha:QLn 1048576 ps)(u:Int)(r:List Int)(hr:r.length≤1048576):Fn Tryz.prog tyT 156 [.c (.lst 112 (yy ps)), .c (.int .i64 u), .c (DI r)] [.c (.int .i64 (ixQ (yw u r) ps))]:=by
 refine θH (ts:= [6]) Tryz.func156 Tryz.ntmps156 ?_
 push_cast [↓zK,↓zJ]
 refine θA ?_
 refine zL fun K hK=> ?_
 refine vu 9 2 rfl zQ zN [] rfl ?_
 push_cast [↓zK,↓zJ]
 repeat' apply And.intro
 all_goals(try push_cast [↓zK,↓zJ])
 all_goals repeat'(first|(apply zO<;>(intro hg;(try push_cast at hg)))|(refine⟨_,Jg ps ha _ (.int .i64 u) (DI r) [] [] (yw u r) (fun k hk=>kI (gq ps k) (Wu ha k) u r hr),?_⟩;push_cast [↓zK,↓zJ])|apply And.intro|(intro hg;(try push_cast at hg)))
 all_goals first|exact gA|decide|skip
 all_goals(refine hK _ ?_;clear hK K)
 refine zY ⟨Or.inl rfl,?_⟩
 push_cast [zd,↓zK,↓zJ]
set_option maxRecDepth 20000 in
set_option maxHeartbeats 4000000 in
theorem Uo (f:Fm)(hf:f.Ln 1048576)(p:Plc)(hp:p.record.length≤1048576)(hv:wW f p.record=true):FnX Tryz.prog tyT 111 [.v (.agg [.int .i64 p.at_,DI p.record]), .ref (.lst 2 [DI f.names,DII f.sets])] [.c (DI (ye p.record p.at_))]:=by
 have hN:=zBz f hf p.record hp p.at_ hv
 unfold dFm at hN
 refine YJ (fn:=Tryz.f111) (rs:= [.tmp 3]) zQ zN Tryz.func111 (by kernel_rfl) rfl rfl (by rw [Tryz.ntmps111];exact Nat.le_of_ble_eq_true rfl) rfl (by simp only [szX,List.mem_cons,List.not_mem_nil,or_false,forall_eq_or_imp,forall_eq,XT.cells,VT.cells,szL];try decide) ?_
 rw [Tryz.ntmps111]
 push_cast
 refine θA ?_
 refine θL fun K hK=> ?_
 refine θD 6 ?_
 refine θE hK ?_
 refine zY ⟨Or.inl rfl,?_⟩
 push_cast [zd,zt,yH]
set_option maxRecDepth 20000 in
set_option maxHeartbeats 4000000 in
theorem Up (f:Fm)(hf:f.Ln 1048576)(p:Plc)(hp:p.record.length≤1048576)(hv:wW f p.record=true):FnX Tryz.prog tyT 113 [.v (.agg [.int .i64 p.at_,DI p.record]), .ref (.lst 2 [DI f.names,DII f.sets])] [.c (.int .i64 (xZ f p.record p.at_))]:=by
 have hN:=zES f hf p.record hp p.at_ hv
 unfold dFm at hN
 refine YJ (fn:=Tryz.f113) (rs:= [.tmp 3]) zQ zN Tryz.func113 (by kernel_rfl) rfl rfl (by rw [Tryz.ntmps113];exact Nat.le_of_ble_eq_true rfl) rfl (by simp only [szX,List.mem_cons,List.not_mem_nil,or_false,forall_eq_or_imp,forall_eq,XT.cells,VT.cells,szL];try decide) ?_
 rw [Tryz.ntmps113]
 push_cast
 refine θA ?_
 refine θL fun K hK=> ?_
 refine θD 6 ?_
 refine θE hK ?_
 refine zY ⟨Or.inl rfl,?_⟩
 push_cast [zd,zt,yH]
section
variable {P:Program} {τ:Ty} {st:St}
def Xh :List (Nat×zq)→List (Nat×zq)
 | []=> []
 |(d,R)::l=>(d,{R with pin:=none})::Xh l
def St.unpin (st:St):St:=⟨st.n,st.s,st.b,Xh st.r⟩
theorem Xb : ∀(l:List (Nat×zq)) (d:Nat) (R':zq),lk (Xh l) d=some R'→∃R,lk l d=some R∧R'={R with pin:=none}
 | [],d,R',h=>by simp [Xh,lk]at h
 |(k,R)::l,d,R',h=>by
  simp only [Xh,lk]at h⊢
  split at h
  ·rename_i e
   rw [if_pos e]
   cases h
   exact⟨R,rfl,rfl⟩
  ·rename_i e
   rw [if_neg e]
   exact Xb l d R' h
mutual
theorem zAw {w:World}{rr:List (Nat×zq)}{bb:List (Nat×List AV)}{hd:Nat→Value}{bk:Nat→Nat}: ∀(v:AV) (z:Value),AvR τ w rr bb hd bk v z→AvR τ w (Xh rr) bb hd bk v z
 | .int k n,z,h=>by simp only [AvR]at h⊢;exact h
 | .bool b,z,h=>by simp only [AvR]at h⊢;exact h
 | .sl d p off len e,z,h=>by
  simp only [AvR]at h⊢
  refine⟨h.1,fun R' hR' hp=> ?_⟩
  obtain⟨R,hR,rfl⟩:=Xb _ _ _ hR'
  exact h.2 R hR hp
 | .nil,z,h=>by simp only [AvR]at h⊢;exact h
 | .ep d p i,z,h=>by
  simp only [AvR]at h⊢
  refine⟨h.1,fun R' hR' hp=> ?_⟩
  obtain⟨R,hR,rfl⟩:=Xb _ _ _ hR'
  exact h.2 R hR hp
 | .bp t i,z,h=>by simp only [AvR]at h⊢;exact h
 | .agg vs,z,h=>by
  simp only [AvR]at h⊢
  obtain⟨cs,h1,h2⟩:=h
  exact⟨cs,h1,YI vs cs h2⟩
 | .tup vs,z,h=>by
  simp only [AvR]at h⊢
  obtain⟨cs,h1,h2⟩:=h
  exact⟨cs,h1,YI vs cs h2⟩
 | .fn f vs,z,h=>by
  simp only [AvR]at h⊢
  obtain⟨cs,h1,h2⟩:=h
  exact⟨cs,h1,YI vs cs h2⟩
 | .dead,z,h=>by simp only [AvR]
 | .raw u,z,h=>by simpa only [AvR]using h
theorem YI {w:World}{rr:List (Nat×zq)}{bb:List (Nat×List AV)}{hd:Nat→Value}{bk:Nat→Nat}: ∀(vs:List AV) (zs:List Value),za τ w rr bb hd bk vs zs→za τ w (Xh rr) bb hd bk vs zs
 | [],zs,h=>by simp only [za]at h⊢;exact h
 |x::xs,zs,h=>by
  simp only [za]at h⊢
  obtain⟨v,vs',h1,h2,h3⟩:=h
  exact⟨v,vs',h1,zAw x v h2,YI xs vs' h3⟩
end
theorem zHk {c:Code}{Q:Exit→St→Prop}(hK:awp P τ c Q st.unpin):awp P τ c Q st:=fun lo w0 a w hr=>by
 obtain⟨ow,hd,bk,h⟩:=hr
 refine hK lo w0 a w ⟨ow,hd,bk,h.big,h.defers,h.size,h.low,h.below,h.ge,h.new,fun k v hv=>zAw v _ (h.slot k v hv),fun d R' hR'=> ?_,fun t vs hv=> ?_,fun d R' i hR' hp=> ?_⟩
 ·obtain⟨R,hR,rfl⟩:=Xb _ _ _ hR'
  exact h.root d R hR
 ·obtain⟨cs,ty,h1,h2,h3⟩:=h.box t vs hv
  exact⟨cs,ty,h1,h2,YI vs cs h3⟩
 ·obtain⟨R,hR,rfl⟩:=Xb _ _ _ hR'
  cases hp
end
attribute [push_cast] St.unpin Xh
set_option maxRecDepth 20000 in
set_option maxHeartbeats 4000000 in
theorem Jl (g:Pa)(hg:g.Ln 1000000)(o p:Int)(nx:List Int)(hx:nx.length≤1000000):FnG Tryz.prog tyT 157 [.agg (dPa g), .c (.int .i64 o), .c (.int .i64 p), .c (DI nx)] [0,1,2,48] [] [.agg (dPa ⟨⟨g.a.owner++ [o],g.a.next++ [nx]⟩,g.prio++ [p]⟩)]:=by
 have h1:=hg.a.owner
 have h2:=hg.a.next.1
 have h3:=hg.prio
 unfold LnI at h1 h3
 unfold dPa
 refine zMg (fn:=Tryz.f157) (rs:= [.cell 8 80]) (own:= [0,1,2,48]) (outs:= []) zQ zN Tryz.func157 (by kernel_rfl) rfl rfl (by rw [Tryz.ntmps157];exact Nat.le_of_ble_eq_true rfl) rfl (by simp only [szA,List.mem_cons,List.not_mem_nil,or_false,forall_eq_or_imp,forall_eq,VT.cells,szL];try decide) ?_
 rw [Tryz.ntmps157]
 push_cast
 refine θA ?_
 refine zHk ?_
 push_cast
 refine θA ?_
 refine θN ?_
 refine θA ?_
 refine θA ?_
 refine zY ⟨Or.inl rfl,?_⟩
 push_cast [zd,zt,yH]
 exact⟨by decide,by simp,by simp,by simp⟩
def jM :Nat→List AV→List (Nat×AV)
 |_,[]=> []
 |i,v::vs=>(i,v)::jM (i+1) vs
theorem zDf : ∀(vs:List AV) (i k:Nat) (v:AV),lk (jM i vs) k=some v→∃j,vs[j]? =some v∧k=i+j
 | [],i,k,v,h=>by simp [jM,lk]at h
 |u::vs,i,k,v,h=>by
  simp only [jM,zg]at h
  split at h
  ·rename_i e
   cases h
   exact⟨0,rfl,by omega⟩
  ·obtain⟨j,h1,h2⟩:=zDf vs (i+1) k v h
   exact⟨j+1,by simpa using h1,by omega⟩
def VF :Nat→Bool:=fun _=>true
def Yi (T:Nat):Nat→Bool:=fun t=>t==T||t==1000000
def othB (T:Nat):Nat→Bool:=fun t=> !(t==T)
def covR (r':List (Nat×zq)):List (Nat×zq)→Prop
 | []=>True
 |(d,R)::l=>(lk r' d=some R∧R.pin=none)∧covR r' l
theorem jH {r':List (Nat×zq)}: ∀{l:List (Nat×zq)},covR r' l→∀d R,lk l d=some R→lk r' d=some R∧R.pin=none
 | [],_,d,R,h=>by simp [lk]at h
 |(k,R0)::l,h,d,R,hl=>by
  rw [zg]at hl
  split at hl
  ·rename_i e;subst e;cases hl;exact h.1
  ·exact jH h.2 d R hl
def zG6 (r:List (Nat×zq)):Bool:=r.all fun x=>match x.2.pin with|some i=>i !=999999|none=>true
def RetI (τ:Ty)(rs:List ResultVar)(K:AV→List AV→List (Nat×zq)→Prop)(e:Exit)(st:St):Prop:=(e= .ret∨e= .normal)∧
 match zt τ st rs,lk st.b 1000000 with
 |some (vs,ob),some cs=>ob∧∃r,covR st.r r∧K (qo vs) cs r
 |_,_=>False
def ut (T:Nat)(st:St)(cs:List AV)(r:List (Nat×zq)):St:=⟨st.n,vx (AV.kill VF (othB T)) st.s,[(T,AV.killL noB VF cs)],r⟩
def WY (n T:Nat)(vs cells:List AV)(st:St):St:=⟨n,jM 0 (AV.killL noB (Yi T) vs),(1000000,AV.killL noB (Yi T) cells)::vx (AV.killL noB (Yi T)) (rm (Yi T) st.b),st.r⟩
def Qb (P:Program)(τ:Ty)(T:Nat)(o:Oper)(K:St→Prop)(st:St):Prop:=
 match yG o,lk st.b T with
 |some (f,args,_),some cells=>T≠1000000∧zG6 st.r=true∧∃(fn:Func) (rs:List ResultVar),P.funcs[f]? =some fn∧(fn.name== "runtime.NumGoroutine")=false∧fn.body.isSome=true∧fn.results=rs.toArray∧args.toList.length≤fn.ntmps∧
   awp P τ (fn.body.getD .skip) (RetI τ rs fun v cs r=>K ((ut T st cs r).put o.dst (AV.kill noB VF v))) (WY fn.ntmps T (args.toList.map (ev st)) cells st)
 |_,_=>False
theorem zA2 {P:Program}{τ:Ty}{T:Nat}{o:Oper}{K:St→Prop}{st:St}{fn:Func}{rs:List ResultVar}{f:FuncId}{args:Array Operand}{ts:Array TypeId}{cells:List AV}(h1:yG o=some (f,args,ts))(h2:lk st.b T=some cells)(h3:T≠1000000)(h4:zG6 st.r=true)(h5:P.funcs[f]? =some fn)(h6:(fn.name== "runtime.NumGoroutine")=false)(h7:fn.body.isSome=true)(h8:fn.results=rs.toArray)(h9:args.toList.length≤fn.ntmps)
  (h:awp P τ (fn.body.getD .skip) (RetI τ rs fun v cs r=>K ((ut T st cs r).put o.dst (AV.kill noB VF v))) (WY fn.ntmps T (args.toList.map (ev st)) cells st)):Qb P τ T o K st:=by
 unfold Qb
 rw [h1,h2]
 exact⟨h3,h4,fn,rs,h5,h6,h7,h8,h9,h⟩
theorem zIL {P:Program}{τ:Ty}{fn:Func}{c:Code}{Q:Exit→St→Prop}{st:St}(hb:fn.body=some c)(h:awp P τ c Q st):awp P τ (fn.body.getD .skip) Q st:=by rw [hb];exact h
section
variable {P:Program} {τ:Ty} {lo:Nat} {w0:Fz} {st:St} {a:Act} {w:World}
theorem Js (hτ:yA P τ)(hpos:yR τ){T:Nat}{o:Oper}{K:St→Prop}{Q:Exit→Act→World→Prop}{K':Act→World→Prop}(hd: ∀k,o.dst=some k→k<a.tmps.size)(h:Rel τ lo w0 st a w)(ha:Qb P τ T o K st)
  (hK: ∀st' x w',K st'→Rel τ lo w0 st' (a.put o.dst x) w'→K' (a.put o.dst x) w'):o.wp P a w K' Q:=by
 obtain⟨ow,hd',bk,hr⟩:=h
 unfold Qb at ha
 split at ha
 rotate_left
 ·exact ha.elim
 rename_i f args ts cells hc hT
 obtain⟨hT6,hpin,fn,rs,hfn,hname,hb,hres,hn,hbody⟩:=ha
 obtain⟨bcs,bty,g1,g2,g3⟩:=hr.box T cells hT
 have hglt:bk T<w.heap.size:=(Array.getElem?_eq_some_iff.1 g1).1
 have hpinD: ∀d R i,lk st.r d=some R→R.pin=some i→i≠999999:=fun d R i hR hi=>by
  have :=List.all_eq_true.1 hpin _ (WP hR)
  simp only [hi]at this
  simpa using this
 have hev:za τ w st.r st.b hd' bk (args.toList.map (ev st)) (args.toList.map a.eval):=zp.2 ⟨by simp,fun i v x hv hx=>by
  rw [List.getElem?_map]at hv hx
  cases hk:args.toList[i]? with
  |none=>rw [hk]at hv;cases hv
  |some p=>rw [hk]at hv hx;cases hv;cases hx;exact zl hr p⟩
 generalize hvs:args.toList.map a.eval=vs at hev
 have hvl:vs.length=args.toList.length:=by rw [←hvs,List.length_map]
 -- the callee's frame,owners and boxes
 obtain⟨w1,hw1⟩: ∃w1:Fz,w1=⟨w0.w,w0.kp,fun i=>if i=999999 then some (.pointer (some ⟨bk T,0,none⟩))else w0.pin i⟩:=⟨_,rfl⟩
 have hkeep1: ∀{w},xS w0 w→xS w1 w:=fun h=>by subst hw1;exact⟨h.os,h.tape,h.output,h.size,h.block⟩
 have hkeep0: ∀{w},xS w1 w→xS w0 w:=fun h=>by subst hw1;exact⟨h.os,h.tape,h.output,h.size,h.block⟩
 have hfre: ∀b,w1.fre b↔w0.fre b:=fun b=>by subst hw1;exact Iff.rfl
 obtain⟨bk1,hbk1⟩: ∃f:Nat→Nat,f=upd bk 1000000 (bk T):=⟨_,rfl⟩
 have hboxes: ∀t cs,lk (WY fn.ntmps T (args.toList.map (ev st)) cells st).b t=some cs→(t=1000000∧cs=AV.killL noB (Yi T) cells)∨(t≠1000000∧t≠T∧∃cs0,lk st.b t=some cs0∧cs=AV.killL noB (Yi T) cs0):=fun t cs h=>by
  have h2:lk ((1000000,AV.killL noB (Yi T) cells)::vx (AV.killL noB (Yi T)) (rm (Yi T) st.b)) t=some cs:=h
  rw [zg]at h2
  split at h2
  ·rename_i e
   cases h2
   exact .inl ⟨e.symm,rfl⟩
  ·rename_i e
   rw [yE,xX]at h2
   by_cases h3:Yi T t=true
   ·rw [if_pos h3]at h2;cases h2
   ·rw [if_neg h3]at h2
    have h4:t≠T:=fun e=>h3 (by subst e;simp [Yi])
    cases hx:lk st.b t with
    |none=>rw [hx]at h2;cases h2
    |some cs0=>rw [hx]at h2;cases h2;exact .inr ⟨fun e2=>e e2.symm,h4,cs0,rfl,rfl⟩
 have hB: ∀t,Yi T t=false→xL st.b (WY fn.ntmps T (args.toList.map (ev st)) cells st).b bk bk1 t:=fun t ht ⟨cs,hcs⟩=>by
  have h1:t≠1000000:=fun e=>by subst e;simp [Yi]at ht
  rcases hboxes t cs hcs with⟨e,-⟩|⟨-,-,cs0,h2,-⟩
  ·exact absurd e h1
  ·exact⟨⟨cs0,h2⟩,by rw [hbk1];exact yn _ _ h1⟩
 have hDs: ∀d,noB d=false→xM w w st.r st.r hd' hd' d:=fun d _ R hR=>⟨R,hR,rfl,fun p hp=>⟨hp,rfl⟩⟩
 have hown1: ∀(m:Md) b,rel m (ow b)→upd ow (bk T) (some (.box 1000000)) b=ow b:=fun m b hrl=>by
  by_cases e:b=bk T
  ·subst e
   rw [g2]at hrl
   cases m<;>simp [rel]at hrl
  ·exact yn _ _ e
 have hstart:Rel τ lo w1 (WY fn.ntmps T (args.toList.map (ev st)) cells st) {tmps:=vs.toArray++Array.replicate (fn.ntmps - vs.toArray.size) undef,defers:= []} w:=by
  refine⟨upd ow (bk T) (some (.box 1000000)),hd',bk1,fun ad had=> ?_,rfl,?_,hr.low,hkeep1 hr.below,fun b p hlt hb hp=> ?_,fun b hb=> ?_,fun k v hv=> ?_,fun d R hR=> ?_,fun t cs hcs=> ?_,fun d R i hR hi=> ?_⟩
  ·subst hw1
   simp only [if_true]at had
   cases had
   rw [hbk1,yB]
  ·show(vs.toArray++Array.replicate (fn.ntmps - vs.toArray.size) undef).size=fn.ntmps
   simp only [Array.size_append,List.size_toArray,Array.size_replicate]
   omega
  ·by_cases e:b=bk T
   ·subst e
    have :=hr.ge _ _ hglt g2 (by simp)
    exact⟨this.1,(hfre _).2 this.2⟩
   ·rw [yn _ _ e]at hb
    have :=hr.ge b p hlt hb hp
    exact⟨this.1,(hfre _).2 this.2⟩
  ·rw [yn _ _ (by omega)]
   exact hr.new b hb
  ·obtain⟨j,hj,hkj⟩:=zDf _ _ _ _ hv
   rw [Nat.zero_add]at hkj
   subst hkj
   have hevk:=yF (τ:=τ) hDs hB _ _ hev
   obtain⟨h1,h2⟩:=zp.1 hevk
   have hlt:k<vs.length:=by rw [h1];exact(List.getElem?_eq_some_iff.1 hj).1
   have hget:(vs.toArray++Array.replicate (fn.ntmps - vs.toArray.size) undef).getD k undef=vs[k]:=by
    rw [Array.getD_eq_getD_getElem?,Array.getElem?_append_left (by simpa using hlt)]
    simp [hlt]
   show AvR τ w st.r _ hd' bk1 v ((vs.toArray++Array.replicate (fn.ntmps - vs.toArray.size) undef).getD k undef)
   rw [hget]
   exact h2 k v _ hj (List.getElem?_eq_getElem hlt)
  ·exact yL _ _ (Nat.le_refl _) _ _ _ (fun b hb hrl=>⟨rfl,hown1 _ b hrl⟩) (hr.root d R hR)
  ·rcases hboxes t cs hcs with⟨rfl,rfl⟩|⟨h1,h2,cs0,h3,rfl⟩
   ·exact⟨bcs,bty,by rw [hbk1,yB];exact g1,by rw [hbk1,yB,yB],yF hDs hB _ _ g3⟩
   ·obtain⟨ds,dty,q1,q2,q3⟩:=hr.box t cs0 h3
    have hne:bk t≠bk T:=fun e=>by
     rw [e,g2]at q2
     cases q2
     exact h2 rfl
    exact⟨ds,dty,by rw [hbk1,yn _ _ h1];exact q1,by rw [hbk1,yn _ _ h1,yn _ _ hne];exact q2,yF hDs hB _ _ q3⟩
  ·subst hw1
   have :=hpinD d R i hR hi
   simp only [if_neg this]
   exact hr.pin d R i hR hi
 have hC:Calls P f vs.toArray w (fun e w'=> ∃z,e= .returned z∧∃st',K st'∧Rel τ lo w0 st' (a.put o.dst z) w'):=by
  obtain⟨c,hbc⟩:=Option.isSome_iff_exists.1 hb
  have hget:fn.body.getD .skip=c:=by rw [hbc];rfl
  rw [hget]at hbody
  refine calls_of_wp hfn hbc (Go.wp_mono (hbody lo w1 _ w hstart) fun e a' w' ⟨st',⟨ow2,hd2,bk2,hr2⟩,he,hret⟩=> ?_)
  have hpost:a'.defers= []∧∃v,(results fn a'.tmps).run P w'= .ok v w'∧(∃z,Ending.returned v= .returned z∧∃st',K st'∧Rel τ lo w0 st' (a.put o.dst z) w'):=by
   split at hret
   ·rename_i avs ob0 cs hrv hcs
    obtain⟨hob0,r,hcov,hK0⟩:=hret
    obtain⟨xs,hrun,hv⟩:=qn hτ hpos hr2 hres hrv hob0
    refine⟨hr2.defers,_,hrun,_,rfl,_,hK0,?_⟩
    have hbig:bk2 1000000=bk T:=hr2.big ⟨bk T,0,none⟩ (by subst hw1;simp)
    obtain⟨ds,dty,q1,q2,q3⟩:=hr2.box 1000000 cs hcs
    rw [hbig]at q1 q2
    have hown2: ∀(m:Md) b,rel m (ow2 b)→upd ow2 (bk T) (some (.box T)) b=ow2 b:=fun m b hrl=>by
     by_cases e:b=bk T
     ·subst e
      rw [q2]at hrl
      cases m<;>simp [rel]at hrl
     ·exact yn _ _ e
    have hsz:w.heap.size≤w'.heap.size∨True:= .inr trivial
    have hlt2:bk T<w'.heap.size:=(Array.getElem?_eq_some_iff.1 q1).1
    have hD2: ∀d,noB d=false→xM w' w' st'.r r hd2 hd2 d:=fun d _ R hR=>⟨R,(jH hcov d R hR).1,rfl,fun p hp=>⟨hp,rfl⟩⟩
    have hB2: ∀t,VF t=false→xL st'.b (ut T st cs r).b bk2 bk t:=fun t h=>by cases h
    have hback:zk τ lo w0 (upd ow2 (bk T) (some (.box T))) hd2 bk (ut T st cs r) a w':=by
     refine⟨hr.big,hr.defers,hr.size,hr2.low,hkeep0 hr2.below,fun b p hlt hb hp=> ?_,fun b hb=> ?_,fun k v hv=> ?_,fun d R hR=> ?_,fun t us hus=> ?_,fun d R i hR hi=> ?_⟩
     ·by_cases e:b=bk T
      ·subst e
       exact hr.ge _ _ hglt g2 (by simp)
      ·rw [yn _ _ e]at hb
       have :=hr2.ge b p hlt hb hp
       exact⟨this.1,(hfre _).1 this.2⟩
     ·rw [yn _ _ (by omega)]
      exact hr2.new b hb
     ·have hv2:lk (vx (AV.kill VF (othB T)) st.s) k=some v:=hv
      rw [yE]at hv2
      cases hk:lk st.s k with
      |none=>rw [hk]at hv2;cases hv2
      |some v0=>
       rw [hk]at hv2
       cases hv2
       refine xF (fun d h=>(by cases h)) (fun t h=> ?_) v0 _ (hr.slot k v0 hk)
       have e:t=T:=by simpa [othB]using h
       subst e
       exact fun _=>⟨⟨cells,hT⟩,rfl⟩
     ·exact yL _ _ (Nat.le_refl _) _ _ _ (fun b hb hrl=>⟨rfl,hown2 _ b hrl⟩) (hr2.root d R (jH hcov d R hR).1)
     ·have hus2:lk [(T,AV.killL noB VF cs)] t=some us:=hus
      rw [zg]at hus2
      split at hus2
      ·rename_i e
       subst e
       cases hus2
       exact⟨ds,dty,q1,yB _ _ _,yF hD2 hB2 _ _ q3⟩
      ·cases hus2
     ·rw [(jH hcov d R hR).2]at hi
      cases hi
    exact xW hback hd (xF hD2 hB2 _ _ (QG hv))
   ·exact hret.elim
  rcases he with rfl|rfl<;>exact hpost
 unfold Oper.wp
 rw [YV hr hc ⟨fn,hfn,hname,by cases hbb:fn.body with|none=>rw [hbb]at hb;cases hb|some c=>rfl⟩,hvs]
 simp only [Oper.upon]
 refine hC.mono fun e w' hpost=> ?_
 obtain⟨z,rfl,st',hK1,hrel⟩:=hpost
 exact hK _ z w' hK1 hrel
def Wl (P:Program)(τ:Ty)(al:List Nat)(t T:Nat)(K:St→Prop):List Oper→St→Prop
 | [],st=>K st
 |o::os,st=>
  match o.guard with
  |none=>
   match mkF o with
   |some (f,caps)=>Wl P τ al t T K os (st.put o.dst (.fn f (caps.map (ev st))))
   |none=>if o.dst=some t then Qb P τ T o (Wl P τ al t T K os) st else aop P τ al o (Wl P τ al t T K os) st
  |some (j,want)=>False
theorem XH (hτ:yA P τ)(hpos:yR τ){al:List Nat}{t T:Nat}{all:List Oper}{K:St→Prop}{Q:Exit→Act→World→Prop}(hQ: ∀st a w,K st→Rel τ lo w0 st a w→Q .normal a w):
  ∀(os:List Oper) (st:St) (a:Act) (w:World),yr a.tmps.size os=true→Rel τ lo w0 st a w→Wl P τ al t T K os st→wpList P all.toArray Q os a w
 | [],st,a,w,_,h,ha=>wpList_nil (hQ st a w ha h)
 |o::os,st,a,w,hd,h,ha=>by
  have hd1: ∀k,o.dst=some k→k<a.tmps.size:=fun k hk=>by
   have :=List.all_eq_true.1 hd o (by simp)
   rw [hk]at this
   simpa using this
  have hd2:yr a.tmps.size os=true:=List.all_eq_true.2 fun x hx=>List.all_eq_true.1 hd x (by simp [hx])
  refine wpList_step fun K' hK'=> ?_
  simp only [Wl]at ha
  split at ha
  ·rename_i hg
   rw [if_pos (by simp [Region.wanted,hg])]
   split at ha
   ·rename_i f caps hm
    obtain⟨ow,hd',bk,hr⟩:=h
    obtain⟨z,hz,hv⟩:=Ke (P:=P) hr hm
    unfold Oper.wp
    rw [hz]
    exact hK' _ _ (XH hτ hpos hQ os _ _ w (by rw [xB];exact hd2) (xW hr hd1 hv) ha)
   ·split at ha
    ·exact Js hτ hpos hd1 h ha fun st' x w' h2 h3=>hK' _ _ (XH hτ hpos hQ os st' _ w' (by rw [xB];exact hd2) h3 h2)
    ·exact wN hτ hpos hd1 h ha fun st' x w' h2 h3=>hK' _ _ (XH hτ hpos hQ os st' _ w' (by rw [xB];exact hd2) h3 h2)
  ·exact ha.elim
end
theorem zEj {P:Program}{τ:Ty}{Q:Exit→St→Prop}{st:St}(t T:Nat)(hτ:yA P τ)(hpos:yR τ)(al:List Nat){id:Nat}{ops:List Oper}(hd:yr st.n ops=true)(h:Wl P τ al t T (Q .normal) ops st):awp P τ (.region id ops.toArray false) Q st:=fun lo w0 a w hr=>by
 have hn:a.tmps.size=st.n:=by obtain⟨ow,hd,bk,h⟩:=hr;exact h.size
 refine wp_region_lit (XH hτ hpos (fun st a w h1 h2=>⟨st,h2,h1⟩) ops st a w (by rw [hn];exact hd) hr h)
mutual
def AV.rnb (t T:Nat):AV→AV
 | .int k n=> .int k n
 | .bool b=> .bool b
 | .sl d p off len e=> .sl d p off len e
 | .nil=> .nil
 | .ep d p i=> .ep d p i
 | .bp k i=>if k=t then .bp T i else if k=T then .dead else .bp k i
 | .agg vs=> .agg (AV.rnbL t T vs)
 | .tup vs=> .tup (AV.rnbL t T vs)
 | .fn f vs=> .fn f (AV.rnbL t T vs)
 | .dead=> .dead
 | .raw u=> .raw u
def AV.rnbL (t T:Nat):List AV→List AV
 | []=> []
 |v::vs=>AV.rnb t T v::AV.rnbL t T vs
end
def Km (t T:Nat):List (Nat×List AV)→List (Nat×List AV)
 | []=> []
 |(k,vs)::l=>(if k=t then T else k,AV.rnbL t T vs)::Km t T l
def St.renB (t T:Nat)(st:St):St:=⟨st.n,vx (AV.rnb t T) st.s,Km t T st.b,st.r⟩
theorem zAU {t T:Nat}(hne:t≠T): ∀{l:List (Nat×List AV)} {k:Nat} {cs:List AV},lk l T=none→lk (Km t T l) k=some cs→(k=T∧∃cs0,lk l t=some cs0∧cs=AV.rnbL t T cs0)∨(k≠T∧k≠t∧∃cs0,lk l k=some cs0∧cs=AV.rnbL t T cs0)
 | [],k,cs,_,h=>by simp [Km,lk]at h
 |(j,vs)::l,k,cs,hn,h=>by
  rw [zg]at hn
  split at hn
  ·cases hn
  rename_i hjT
  simp only [Km,zg]at h
  by_cases hj:j=t
  ·rw [if_pos hj]at h
   split at h
   ·rename_i e
    cases h
    exact .inl ⟨e.symm,vs,by rw [zg,if_pos hj],rfl⟩
   ·rename_i e
    rcases zAU hne hn h with⟨e1,-⟩|⟨h1,h2,cs0,h3,h4⟩
    ·exact absurd e1.symm e
    ·exact .inr ⟨h1,h2,cs0,by rw [zg,if_neg (fun e2=>h2 (by rw [←e2,hj]))];exact h3,h4⟩
  ·rw [if_neg hj]at h
   split at h
   ·rename_i e
    cases h
    exact .inr ⟨fun e2=>hjT (e.trans e2),fun e2=>hj (e.trans e2),vs,by rw [zg,if_pos e],rfl⟩
   ·rename_i e
    rcases zAU hne hn h with⟨e1,cs0,h3,h4⟩|⟨h1,h2,cs0,h3,h4⟩
    ·exact .inl ⟨e1,cs0,by rw [zg,if_neg hj];exact h3,h4⟩
    ·exact .inr ⟨h1,h2,cs0,by rw [zg,if_neg e];exact h3,h4⟩
section
variable {P:Program} {τ:Ty} {lo:Nat} {w0:Fz} {st:St} {w:World} {rr:List (Nat×zq)} {bb bb':List (Nat×List AV)} {hd:Nat→Value} {bk bk':Nat→Nat} {t T:Nat}
mutual
theorem zFK (h1:(∃cs,lk bb' T=some cs)→(∃cs,lk bb t=some cs)∧bk' T=bk t)(h2: ∀k,k≠t→k≠T→(∃cs,lk bb' k=some cs)→(∃cs,lk bb k=some cs)∧bk' k=bk k): ∀(v:AV) (x:Value),AvR τ w rr bb hd bk v x→AvR τ w rr bb' hd bk' (v.rnb t T) x
 | .int k n,x,h=>by simpa only [AV.rnb,AvR]using h
 | .bool b,x,h=>by simpa only [AV.rnb,AvR]using h
 | .sl d p off len e,x,h=>by simpa only [AV.rnb,AvR]using h
 | .nil,x,h=>by simpa only [AV.rnb,AvR]using h
 | .ep d p i,x,h=>by simpa only [AV.rnb,AvR]using h
 | .bp k i,x,h=>by
  simp only [AV.rnb]
  split
  ·rename_i e
   subst e
   simp only [AvR]at h⊢
   exact⟨h.1,fun hl=>by rw [(h1 hl).2];exact h.2 (h1 hl).1⟩
  ·rename_i e
   split
   ·simp only [AvR]
   ·rename_i e2
    simp only [AvR]at h⊢
    exact⟨h.1,fun hl=>by rw [(h2 k e e2 hl).2];exact h.2 (h2 k e e2 hl).1⟩
 | .agg vs,x,h=>by
  simp only [AV.rnb,AvR]at h⊢
  obtain⟨cs,e,h⟩:=h
  exact⟨cs,e,Yj h1 h2 vs cs h⟩
 | .tup vs,x,h=>by
  simp only [AV.rnb,AvR]at h⊢
  obtain⟨cs,e,h⟩:=h
  exact⟨cs,e,Yj h1 h2 vs cs h⟩
 | .fn f vs,x,h=>by
  simp only [AV.rnb,AvR]at h⊢
  obtain⟨cs,e,h⟩:=h
  exact⟨cs,e,Yj h1 h2 vs cs h⟩
 | .dead,x,h=>by simp only [AV.rnb,AvR]
 | .raw u,x,h=>by simpa only [AV.rnb,AvR]using h
theorem Yj (h1:(∃cs,lk bb' T=some cs)→(∃cs,lk bb t=some cs)∧bk' T=bk t)(h2: ∀k,k≠t→k≠T→(∃cs,lk bb' k=some cs)→(∃cs,lk bb k=some cs)∧bk' k=bk k): ∀(vs:List AV) (xs:List Value),za τ w rr bb hd bk vs xs→za τ w rr bb' hd bk' (AV.rnbL t T vs) xs
 | [],xs,h=>by simpa only [AV.rnbL,za]using h
 |v::vs,xs,h=>by
  simp only [AV.rnbL,za]at h⊢
  obtain⟨x,xs',e,h3,h4⟩:=h
  exact⟨x,xs',e,zFK h1 h2 v x h3,Yj h1 h2 vs xs' h4⟩
end
theorem zCu (t T:Nat){c:Code}{Q:Exit→St→Prop}(hn:(t==T||T==1000000||t==1000000)=false)(hT:lk st.b T=none)(h:awp P τ c Q (st.renB t T)):awp P τ c Q st:=fun lo w0 a w hr=>by
 obtain⟨ow,hd,bk,hr⟩:=hr
 simp only [Bool.or_eq_false_iff,beq_eq_false_iff_ne]at hn
 obtain⟨⟨n1,n2⟩,n3⟩:=hn
 have hsh:=fun{k cs} h=>zAU n1 (l:=st.b) (k:=k) (cs:=cs) hT h
 have h1:(∃cs,lk (Km t T st.b) T=some cs)→(∃cs,lk st.b t=some cs)∧upd bk T (bk t) T=bk t:=fun⟨cs,hcs⟩=>by
  rcases hsh hcs with⟨-,cs0,h3,-⟩|⟨h1,-⟩
  ·exact⟨⟨cs0,h3⟩,yB _ _ _⟩
  ·exact absurd rfl h1
 have h2: ∀k,k≠t→k≠T→(∃cs,lk (Km t T st.b) k=some cs)→(∃cs,lk st.b k=some cs)∧upd bk T (bk t) k=bk k:=fun k hkt hkT ⟨cs,hcs⟩=>by
  rcases hsh hcs with⟨e,-⟩|⟨-,-,cs0,h3,-⟩
  ·exact absurd e hkT
  ·exact⟨⟨cs0,h3⟩,yn _ _ hkT⟩
 obtain⟨ow',how⟩: ∃f:Nat→Option Pl,f=fun b=>match ow b with|some (.box k)=>if k=t then some (.box T)else some (.box k)|p=>p:=⟨_,rfl⟩
 have hsame: ∀(m:Md) b,rel m (ow b)→ow' b=ow b:=fun m b hrl=>by
  rw [how]
  simp only
  split
  ·rename_i e
   rw [e]at hrl
   cases m<;>simp [rel]at hrl
  ·rfl
 refine h lo w0 a w ⟨ow',hd,upd bk T (bk t),fun ad had=> ?_,hr.defers,hr.size,hr.low,hr.below,fun b p hlt hb hp=> ?_,fun b hb=> ?_,fun k v hv=> ?_,fun d R hR=> ?_,fun k cs hcs=> ?_,hr.pin⟩
 ·rw [yn _ _ (Ne.symm n2)]
  exact hr.big ad had
 ·rw [how]at hb
  simp only at hb
  split at hb
  ·rename_i e
   exact hr.ge b _ hlt e (by simp)
  ·exact hr.ge b p hlt hb hp
 ·rw [how]
  simp only [hr.new b hb]
 ·have hv2:lk (vx (AV.rnb t T) st.s) k=some v:=hv
  rw [yE]at hv2
  cases hk:lk st.s k with
  |none=>rw [hk]at hv2;cases hv2
  |some v0=>rw [hk]at hv2;cases hv2;exact zFK h1 h2 v0 _ (hr.slot k v0 hk)
 ·exact yL _ _ (Nat.le_refl _) _ _ _ (fun b hb hrl=>⟨rfl,hsame _ b hrl⟩) (hr.root d R hR)
 ·rcases hsh hcs with⟨rfl,cs0,h3,rfl⟩|⟨e1,e2,cs0,h3,rfl⟩
  ·obtain⟨ds,dty,q1,q2,q3⟩:=hr.box t cs0 h3
   exact⟨ds,dty,by rw [yB];exact q1,by rw [yB,how];simp only [q2];rfl,Yj h1 h2 _ _ q3⟩
  ·obtain⟨ds,dty,q1,q2,q3⟩:=hr.box k cs0 h3
   refine⟨ds,dty,by rw [yn _ _ e1];exact q1,?_,Yj h1 h2 _ _ q3⟩
   rw [yn _ _ e1,how]
   simp only
   rw [q2]
   exact if_neg e2
end
attribute [push_cast] AV.rnb AV.rnbL Km St.renB
attribute [push_cast] Wl jM WY ut VF Yi othB covR zG6
end Go.Proofs.YthepmdkpbjfdcaaGreat
