/- A drawn region parted at an operation that is ordered to all others; function values made and called in drawn regions. -/
import Derived.Test.YtcleaokoimhedaaGreatB9zmo
import Derived.Lib.SliceRun
import Derived.ArgAppend
import Derived.MapKept
import Derived.Test.YtcleaokoimhedaaGreatB7zmo
import Derived.Test.YtcleaokoimhedaaGreatB8zmo
import Derived.Test.YtcleaokoimhedaaGreatB6zmo
import Derived.Test.YtcleaokoimhedaaGreatGDzmo
namespace Go.Proofs.YtcleaokoimhedaaGreat
open Go.RowKit
set_option linter.unusedVariables false
set_option linter.unusedSimpArgs false
section
variable {P:Program} {all:List Oper} {T:List (List Nat)} {c:Nat} {Q':Exit→Act→World→Prop}
def zBv (all:List Oper)(T:List (List Nat))(c:Nat):Bool:=(List.range all.length).all fun j=>decide (j<c)||(List.range c).all fun i=>KG T j i
def jZ (all:List Oper):Bool:=all.all fun o=>o.guard.isNone
def jK (all:List Oper):Bool:=(List.range all.length).all fun j=>match all[j]? with|some o=>o.after.toList.all fun e=> !(Region.binds .any e)||decide (e.on<j)|none=>true
def xm (N:Nat)(l:Array Bool):Array Bool:=l++Array.replicate (N - l.size) false
theorem Qj {N:Nat}{l:Array Bool}(i:Nat):(xm N l).getD i false=l.getD i false:=by
 unfold xm
 rw [Array.getD_eq_getD_getElem?,Array.getD_eq_getD_getElem?]
 rcases Nat.lt_or_ge i l.size with h|h
 ·rw [Array.getElem?_append_left h]
 ·rw [Array.getElem?_append_right h,Array.getElem?_eq_none h,Array.getElem?_replicate]
  split<;>rfl
theorem zNC {N:Nat}{l:Array Bool}{i:Nat}(h:i<l.size):(xm N l).getD i true=l.getD i true:=by
 unfold xm
 rw [Array.getD_eq_getD_getElem?,Array.getD_eq_getD_getElem?,Array.getElem?_append_left h]
theorem zCw {N:Nat}{l:Array Bool}{i:Nat}(h:i<l.size):(xm N l).setIfInBounds i true=xm N (l.setIfInBounds i true):=by
 unfold xm
 refine Array.ext_getElem? fun j=> ?_
 rw [Array.getElem?_setIfInBounds]
 have e1:(l.setIfInBounds i true).size=l.size:=Array.size_setIfInBounds ..
 rw [e1,Array.getElem?_append,Array.getElem?_append,e1]
 rcases Nat.lt_or_ge j l.size with hj|hj
 ·rw [if_pos hj,if_pos hj,Array.getElem?_setIfInBounds]
  split
  ·rename_i e
   rw [if_pos (by rw [Array.size_append];omega)]
  ·rfl
 ·rw [if_neg (by omega),if_neg (by omega),if_neg (by omega)]
theorem zKP {l:Array Bool}{i:Nat}(h:i<l.size):l.getD i true=l.getD i false:=by
 rw [Array.getD_eq_getD_getElem?,Array.getD_eq_getD_getElem?,Array.getElem?_eq_getElem h]
 rfl
theorem jJ (hlt:jK all=true){j:Nat}{o:Oper}(ho:all[j]? =some o){e:Edge}(he:e∈o.after)(hb:Region.binds .any e=true):e.on<j:=by
 have hj:=(List.getElem?_eq_some_iff.1 ho).1
 have h1:=List.all_eq_true.1 hlt j (List.mem_range.2 hj)
 rw [ho]at h1
 have h2:=List.all_eq_true.1 h1 e (by simpa using he)
 simpa [hb]using h2
theorem zEA {md:Region.Mode}{ops:Array Oper}{Q:Exit→Act→World→Prop}: ∀(f:Nat) (l:Array Bool) (a:Act) (w:World),wpAny P md ops Q f l a w→wpAny P md ops Q (f+1) l a w
 |0,l,a,w,h=>⟨fun _=>h.2,fun i hi=>by rw [h.1]at hi;cases hi⟩
 |f+1,l,a,w,h=>⟨h.1,fun i hi=>wpOp_mono (fun a w h=>zEA f _ a w h) (h.2 i hi)⟩
theorem zBe {md:Region.Mode}{ops:Array Oper}{Q:Exit→Act→World→Prop}{f:Nat}{l:Array Bool}{a:Act}{w:World}(h:wpAny P md ops Q f l a w): ∀k,wpAny P md ops Q (f+k) l a w
 |0=>h
 |k+1=>zEA _ _ _ _ (zBe h k)
def jl (P:Program)(all:List Oper)(Q':Exit→Act→World→Prop)(f:Nat)(l:Array Bool):Exit→Act→World→Prop
 | .normal,a,w=>wpAny P .any all.toArray Q' f l a w
 |e,a,w=>Q' e a w
theorem zMY {o:Oper}{a:Act}{w:World}{K:Act→World→Prop}{f:Nat}{l:Array Bool}(h:o.wp P a w K (jl P all Q' f l)):o.wp P a w K Q':=by
 unfold Oper.wp at*
 generalize (execOp a.eval o).run P w=r at*
 cases r with
 |ok n w'=>cases n<;>exact h
 |halt b w'=>cases b<;>exact h
theorem Ub (hng:jZ all=true){l1:Array Bool}(hs:l1.size=c){j:Nat}(hj:j<c)(hc:c≤all.length):j∈Region.ready .any all.toArray (xm all.length l1)↔j∈Region.ready .any (all.take c).toArray l1:=by
 rw [mem_ready,mem_ready,zNC (by omega)]
 simp only [Qj,List.getElem?_toArray,List.getElem?_take,if_pos hj]
theorem zGl (hA:VE all T=true)(hc:c≤all.length)(hcut:zBv all T c=true)(hng:jZ all=true)(hlt:jK all=true){f2:Nat}:
  ∀(f1:Nat) (l1:Array Bool) (a:Act) (w:World),l1.size=c→kZ all (xm all.length l1)→wpAny P .any (all.take c).toArray (jl P all Q' f2 (xm all.length (Array.replicate c true))) f1 l1 a w→wpAny P .any all.toArray Q' (f1+f2) (xm all.length l1) a w:=by
 have full: ∀l1:Array Bool,l1.size=c→(∀i,i<c→l1.getD i false=true)→l1=Array.replicate c true:=fun l1 hs h=>by
  refine Array.ext_getElem? fun i=> ?_
  rw [Array.getElem?_replicate]
  split
  ·rename_i hi
   have h1:=h i hi
   rw [Array.getD_eq_getD_getElem?]at h1
   cases hx:l1[i]? with
   |none=>rw [hx]at h1;simp at h1
   |some b=>rw [hx]at h1;simp at h1;rw [h1]
  ·rw [Array.getElem?_eq_none (by omega)]
 have least: ∀l1:Array Bool,l1.size=c→¬(∀i,i<c→l1.getD i false=true)→∃i,i<c∧l1.getD i false=false∧∀k,k<i→l1.getD k false=true:=fun l1 hs h=>by
  have key: ∀n,n≤c→(∀i,i<n→l1.getD i false=true)∨∃i,i<c∧l1.getD i false=false∧∀k,k<i→l1.getD k false=true:=by
   intro n
   induction n with
   |zero=>exact fun _=> .inl fun i hi=>absurd hi (Nat.not_lt_zero i)
   |succ n ih=>
    intro hn
    rcases ih (by omega)with h1|h1
    ·cases hx:l1.getD n false with
     |true=>
      refine .inl fun i hi=> ?_
      by_cases e:i=n
      ·rw [e];exact hx
      ·exact h1 i (by omega)
     |false=>exact .inr ⟨n,by omega,hx,h1⟩
    ·exact .inr h1
  exact(key c (Nat.le_refl _)).resolve_left h
 have rdy: ∀l1:Array Bool,l1.size=c→∀i,i<c→l1.getD i false=false→(∀k,k<i→l1.getD k false=true)→i∈Region.ready .any (all.take c).toArray l1:=fun l1 hs i hi h0 hk=>by
  rw [mem_ready,zKP (by omega)]
  have ho:all[i]? =some (all[i]'(by omega)):=List.getElem?_eq_getElem (by omega)
  exact⟨h0,_,by rw [List.getElem?_toArray,List.getElem?_take,if_pos hi];exact ho,fun e he hb=>hk _ (jJ hlt ho he hb)⟩
 intro f1
 induction f1 with
 |zero=>
  intro l1 a w hs hdn h
  by_cases hall: ∀i,i<c→l1.getD i false=true
  ·rw [full l1 hs hall,Nat.zero_add]
   exact h.2
  ·obtain⟨i,hi,h0,hk⟩:=least l1 hs hall
   have :=rdy l1 hs i hi h0 hk
   rw [h.1]at this
   cases this
 |succ f1 ih=>
  intro l1 a w hs hdn h
  by_cases hall: ∀i,i<c→l1.getD i false=true
  ·have hn:Region.ready .any (all.take c).toArray l1= []:=by
    refine List.eq_nil_iff_forall_not_mem.2 fun j hj=> ?_
    obtain⟨h1,o,h2,-⟩:=mem_ready.1 hj
    have hjc:j<c:=by
     rw [List.getElem?_toArray]at h2
     have :=(List.getElem?_eq_some_iff.1 h2).1
     rw [List.length_take]at this
     omega
    rw [zKP (by omega),hall j hjc]at h1
    cases h1
   have h3:=h.1 hn
   have h4:wpAny P .any all.toArray Q' f2 (xm all.length (Array.replicate c true)) a w:=h3
   rw [full l1 hs hall,show f1+1+f2=f2+(f1+1)from by omega]
   exact zBe h4 _
  ·obtain⟨i,hi,h0,hk⟩:=least l1 hs hall
   rw [show f1+1+f2=(f1+f2)+1 from by omega]
   refine⟨fun hn=> ?_,fun j hj=> ?_⟩
   ·have :=(Ub hng hs hi hc).2 (rdy l1 hs i hi h0 hk)
    rw [hn]at this
    cases this
   ·have hjc:j<c:=by
     rcases Nat.lt_or_ge j c with h1|h1
     ·exact h1
     ·exfalso
      obtain⟨-,o,ho,-⟩:=mem_ready.1 hj
      rw [List.getElem?_toArray]at ho
      have hjl:=(List.getElem?_eq_some_iff.1 ho).1
      have h2:=List.all_eq_true.1 hcut j (List.mem_range.2 hjl)
      rw [Bool.or_eq_true,decide_eq_true_eq]at h2
      have h3:=List.all_eq_true.1 (h2.resolve_left (by omega)) i (List.mem_range.2 hi)
      have h4:=JA hA hdn j i (.inr hj) h3
      rw [Qj,h0]at h4
      cases h4
    have hjA:=(Ub hng hs hjc hc).1 hj
    have h5:=h.2 j hjA
    have ho:all[j]? =some (all[j]'(by omega)):=List.getElem?_eq_getElem (by omega)
    have hg:(all[j]'(by omega)).guard=none:=by
     have :=List.all_eq_true.1 hng _ (List.mem_of_getElem? ho)
     simpa using this
    unfold wpOp at h5⊢
    rw [List.getElem?_toArray,List.getElem?_take,if_pos hjc,ho]at h5
    rw [List.getElem?_toArray,ho]
    simp only at h5⊢
    rw [if_pos (by simp [Region.wanted,hg])]at h5⊢
    have hnext: ∀a w,wpAny P .any (all.take c).toArray (jl P all Q' f2 (xm all.length (Array.replicate c true))) f1 (l1.setIfInBounds j true) a w→wpAny P .any all.toArray Q' (f1+f2) ((xm all.length l1).setIfInBounds j true) a w:=fun a w h6=>by
     rw [zCw (by omega)]
     refine ih _ a w (by simpa using hs) ?_ h6
     rw [←zCw (by omega)]
     exact kl hdn hj
    rcases h5 with h5|⟨h5,h6⟩
    ·exact .inl (zMY (Oper.wp_mono hnext h5))
    ·exact .inr ⟨h5,h6⟩
theorem zIW (hA:VE all T=true)(hcut:zBv all T (c+1)=true)(hng:jZ all=true)(hlt:jK all=true){oc:Oper}(hoc:all[c]? =some oc){f:Nat}{a:Act}{w:World}
  (h:oc.wp P a w (wpAny P .any all.toArray Q' f (xm all.length (Array.replicate (c+1) true))) Q'):wpAny P .any all.toArray Q' (f+1) (xm all.length (Array.replicate c true)) a w:=by
 have hcl:=(List.getElem?_eq_some_iff.1 hoc).1
 have hl: ∀i,i<c→(xm all.length (Array.replicate c true)).getD i false=true:=fun i hi=>by
  rw [Qj,Array.getD_eq_getD_getElem?,Array.getElem?_replicate,if_pos hi];rfl
 have hu:(xm all.length (Array.replicate c true)).getD c true=false:=by
  unfold xm
  rw [Array.getD_eq_getD_getElem?,Array.getElem?_append_right (by simp),Array.getElem?_replicate,if_pos (by simp;omega)]
  rfl
 have hset:(xm all.length (Array.replicate c true)).setIfInBounds c true=xm all.length (Array.replicate (c+1) true):=by
  unfold xm
  refine Array.ext_getElem? fun j=> ?_
  rw [Array.getElem?_setIfInBounds,Array.getElem?_append,Array.getElem?_append]
  simp only [Array.size_replicate,Array.getElem?_replicate,Array.size_append]
  repeat' split
  all_goals first|rfl|omega
 have hr:c∈Region.ready .any all.toArray (xm all.length (Array.replicate c true)):=by
  rw [mem_ready]
  exact⟨hu,oc,by rw [List.getElem?_toArray];exact hoc,fun e he hb=>hl _ (jJ hlt hoc he hb)⟩
 refine⟨fun hn=>(by rw [hn]at hr;cases hr),fun j hj=> ?_⟩
 have hdn:kZ all (xm all.length (Array.replicate c true)):=fun k o ho hk e he hb=>by
  rw [Qj,Array.getD_eq_getD_getElem?,Array.getElem?_replicate]at hk
  split at hk
  ·have :=jJ hlt ho he hb
   exact hl _ (by omega)
  ·simp at hk
 have hjc:j=c:=by
  obtain⟨h1,o,ho,-⟩:=mem_ready.1 hj
  rw [List.getElem?_toArray]at ho
  have hjl:=(List.getElem?_eq_some_iff.1 ho).1
  rcases Nat.lt_trichotomy j c with h2|h2|h2
  ·have h3:=jM (hl j h2)
   rw [h1]at h3;cases h3
  ·exact h2
  ·have h3:=List.all_eq_true.1 hcut j (List.mem_range.2 hjl)
   rw [Bool.or_eq_true,decide_eq_true_eq]at h3
   have h4:=List.all_eq_true.1 (h3.resolve_left (by omega)) c (List.mem_range.2 (by omega))
   have h5:=jM (JA hA hdn j c (.inr hj) h4)
   rw [hu]at h5;cases h5
 subst hjc
 have hg:oc.guard=none:=by
  have :=List.all_eq_true.1 hng _ (List.mem_of_getElem? hoc)
  simpa using this
 unfold wpOp
 rw [List.getElem?_toArray,hoc]
 simp only
 rw [if_pos (by simp [Region.wanted,hg]),hset]
 exact .inl h
end
section
variable {P:Program} {τ:Ty} {lo:Nat} {w0:Fz} {st:St} {a:Act} {w:World}
def zKg (npA npB:Bool)(ops:List Oper)(c:Nat):Bool:=
 Yj npA (ops.take c) (Zb (ops.take c))&&(VE ops (Zb ops)&&(vw npB ops&&(decide (c<ops.length)&&(zBv ops (Zb ops) c&&(zBv ops (Zb ops) (c+1)&&(jZ ops&&(jK ops&&QL ops (ops.drop (c+1)).length (c+1) (xm ops.length (Array.replicate (c+1) true)))))))))
theorem zEL (npA npB:Bool)(c:Nat)(XA:Oper→St→(Dl→Prop)→Prop)(tA:List Nat)(hXA: ∀o st K,XA o st K→∃δ,qT P npA τ o st δ∧K δ)(X:Oper→(St→Prop)→St→Prop)
  (hX: ∀(lo:Nat) (w0:Fz) (st:St) (a:Act) (w:World) (o:Oper) (K:St→Prop) (Q:Exit→Act→World→Prop) (K':Act→World→Prop),(∀k,o.dst=some k→k<a.tmps.size)→Rel τ lo w0 st a w→X o K st→(∀st' x w',K st'→Rel τ lo w0 st' (a.put o.dst x) w'→K' (a.put o.dst x) w')→o.wp P a w K' Q)
  (hτ:zz P τ) (hpos:yW τ) (hmix:P.follows .mixedOrders=true) {Q:Exit→St→Prop} {id:Nat} {ops:List Oper} (hs:zKg npA npB ops c=true) (hd:yv st.n ops=true) {oc:Oper} (hoc:ops[c]? =some oc)
  (h: ∀EA:List Rec→St→Prop,(∀cs st1,chk (ops.take c) (Zb (ops.take c)) cs=true→yv st1.n ops=true→X oc (fun st2=> ∀EB:List Rec→St→Prop,(∀cs st3,chk ops (Zb ops) cs=true→Q .normal st3→EB cs st3)→vI P npB τ ops EB (ops.drop (c+1)) (c+1) [] (st2.start npB (ops.drop (c+1)))) st1→EA cs st1)→
   wD XA P npA τ tA (ops.take c) EA (ops.take c) 0 [] (st.start npA (ops.take c))):awp P τ (.region id ops.toArray true) Q st:=fun lo w0 a w hr=>by
 simp only [zKg,Yj,Bool.and_eq_true,decide_eq_true_eq]at hs
 obtain⟨⟨a1,a2,a3⟩,b1,b2,hcl,c1,c2,hng,hlt,b3⟩:=hs
 have hn:a.tmps.size=st.n:=by obtain⟨ow,hd,bk,h⟩:=hr;exact h.size
 have hdr:Rel τ lo w0 st a {w with drawn:=w.drawn+1}:=by
  obtain⟨ow,hd,bk,h⟩:=hr
  exact⟨ow,hd,bk,Jz h⟩
 have hr':=YA (np:=npA) hdr (ops.take c)
 refine wp_region_any hmix ?_
 have htake:(ops.take c).length=c:=by rw [List.length_take];omega
 have hdsub: ∀(l:List Oper),(∀o∈l,o∈ops)→∀m,yv m ops=true→yv m l=true:=fun l hl m hm=>List.all_eq_true.2 fun o ho=>List.all_eq_true.1 hm o (hl o ho)
 -- the first part
 have hlex:=(Kb hXA (A:=Zb (ops.take c)) (Q:=fun st1=>yv st1.n ops=true∧X oc (fun st2=> ∀EB:List Rec→St→Prop,(∀cs st3,chk ops (Zb ops) cs=true→Q .normal st3→EB cs st3)→vI P npB τ ops EB (ops.drop (c+1)) (c+1) [] (st2.start npB (ops.drop (c+1)))) st1) (ops.take c) 0 [] _ (h _ fun cs st h1 h2 h3=>⟨h1,h2,h3⟩)).2
 have hany:=Qa (fun st st' he ⟨s,h1,h2⟩=>⟨s,he.symm.trans h1,h2⟩) a1 (ops.take c) 0 [] (Array.replicate (ops.take c).length false) _ (by simp) (fun j o _ hj=>by
  rw [Array.getD_eq_getD_getElem?,Array.getElem?_replicate]at hj
  split at hj<;>simp at hj) a3 hlex
 have hfirst:=YU (Q':=jl P ops (fun e a' w'=> ∃st',Rel τ lo w0 st' a' w'∧Q e st') (ops.length - c) (xm ops.length (Array.replicate c true))) hτ hpos a2 (fun st1 a1 w1 hq hr1=>by
   obtain⟨s,he,hds,hx⟩:=hq
   have hrs:Rel τ lo w0 s a1 w1:=xg hr1 he.cov
   show wpAny P .any ops.toArray _ (ops.length - c) _ a1 w1
   rw [show ops.length - c=(ops.length - c - 1)+1 from by omega]
   refine zIW b1 c2 hng hlt hoc ?_
   have hna:a1.tmps.size=s.n:=by obtain⟨ow,hd,bk,h⟩:=hrs;exact h.size
   have hdo: ∀k,oc.dst=some k→k<a1.tmps.size:=fun k hk=>by
    have :=List.all_eq_true.1 hds oc (List.mem_of_getElem? hoc)
    rw [hk]at this
    rw [hna]
    simpa using this
   refine hX lo w0 s a1 w1 oc _ _ _ hdo hrs hx fun st2 x w2 hK hr2=> ?_
   have hr2':=YA (np:=npB) hr2 (ops.drop (c+1))
   have hB:=hK (fun cs st=>chk ops (Zb ops) cs=true∧Q .normal st) fun cs st h1 h2=>⟨h1,h2⟩
   rw [zAM (fun cs=>chk ops (Zb ops) cs=true) (Q .normal)]at hB
   have hlexB:=(Ka (ops.drop (c+1)) (c+1) [] _ _ (Eqv.refl _) hB).2
   have hlf: ∀i,i<c+1→(xm ops.length (Array.replicate (c+1) true)).getD i false=true:=fun i hi=>by
    rw [Qj,Array.getD_eq_getD_getElem?,Array.getElem?_replicate,if_pos hi];rfl
   have hanyB:=Qa (fun st st' he ⟨s,h1,h2⟩=>⟨s,he.symm.trans h1,h2⟩) b1 (ops.drop (c+1)) (c+1) [] (xm ops.length (Array.replicate (c+1) true)) _ (fun j=>by rw [List.getElem?_drop]) (fun j o ho hj e he hb=>by
    rw [Qj,Array.getD_eq_getD_getElem?,Array.getElem?_replicate]at hj
    split at hj
    ·have :=jJ hlt ho he hb
     exact hlf _ (by omega)
    ·simp at hj) b3 hlexB
   have hlast:=YU (Q':=fun e a' w'=> ∃st',Rel τ lo w0 st' a' w'∧Q e st') hτ hpos b2 (fun st' a w ⟨s,he,hq⟩ hr=>⟨s,xg hr he.cov,hq⟩) (ops.drop (c+1)).length [] (xm ops.length (Array.replicate (c+1) true)) (st2.start npB (ops.drop (c+1))) (a1.put oc.dst x) w2 (by rw [yw,hna];exact hds) (fun j o ho hj hm=>by
    have hjc:c+1≤j:=by
     rcases Nat.lt_or_ge j (c+1)with h1|h1
     ·have :=jM (hlf j h1)
      rw [hj]at this;cases this
     ·exact h1
    exact ZX (j:=j - (c+1)) (by rw [List.getElem?_drop,show c+1+(j - (c+1))=j from by omega];exact ho) hm) (fun e=>by unfold St.start;rw [if_pos e];exact Qi _) hr2' hanyB
   rw [show ops.length - c - 1=(ops.drop (c+1)).length from by rw [List.length_drop];omega]
   exact hlast) (ops.take c).length [] (Array.replicate (ops.take c).length false) (st.start npA (ops.take c)) a {w with drawn:=w.drawn+1} (by rw [hn];exact hdsub _ (fun o ho=>List.mem_of_mem_take ho) _ hd) (fun j o ho _ hm=>ZX ho hm) (fun e=>by unfold St.start;rw [if_pos e];exact Qi _) hr' hany
 have hpart:=zGl (P:=P) (Q':=fun e a' w'=> ∃st',Rel τ lo w0 st' a' w'∧Q e st') b1 (by omega) c1 hng hlt (f2:=ops.length - c) c (Array.replicate c false) a {w with drawn:=w.drawn+1} (by simp) (fun k o ho hk=>by
  rw [Qj,Array.getD_eq_getD_getElem?,Array.getElem?_replicate]at hk
  split at hk<;>simp at hk) (by rw [htake]at hfirst;exact hfirst)
 rw [show c+(ops.length - c)=ops.length from by omega]at hpart
 have hrep:xm ops.length (Array.replicate c false)=Array.replicate ops.toArray.size false:=by
  unfold xm
  refine Array.ext_getElem? fun j=> ?_
  rw [Array.getElem?_append]
  simp only [Array.size_replicate,Array.getElem?_replicate,List.size_toArray]
  repeat' split
  all_goals first|rfl|omega
 rw [hrep]at hpart
 simpa using hpart
variable {np:Bool} {ow:Nat→Option Pl} {hd:Nat→Value} {bk:Nat→Nat} {st':St}
def zDc :AV→Bool
 | .fn _ _=>false
 | .bp _ _=>false
 |_=>true
theorem zF2 {e1:TypeId}{t:TypeId}{v:AV}(hp:zDc v=true)(h:AgV st st' v):Ys τ e1 st' t v=Ys τ e1 st t v:=by
 cases v<;>simp only [Ys]<;>first|(cases hp;done)|skip
 all_goals first
  |(rw [Uu h];done)
  |(
   rename_i d p i
   simp only [ZM]
   have :=h.1 d (by simp [AV.nm])
   cases p with
   |cons _ _=>rfl
   |nil=>cases i with
    |succ _=>rfl
    |zero=>simp only [this])
theorem zG7 {e1:TypeId}{v:AV}(h:AgV st st' v)(hb: ∀T i cs,v= .bp T i→lk st.b T=some cs→AgV st st' (.agg cs)):ZM τ e1 st' v=ZM τ e1 st v:=by
 cases v<;>simp only [ZM]
 ·rename_i d p i
  have :=h.1 d (by simp [AV.nm])
  cases p with
  |cons _ _=>rfl
  |nil=>cases i with
   |succ _=>rfl
   |zero=>simp only [this]
 ·rename_i T i
  have h2:=h.2 T (by simp [AV.nm])
  cases i with
  |succ _=>rfl
  |zero=>
   simp only [h2]
   cases hx:lk st.b T with
   |none=>rfl
   |some cs=>simp only [Ya (hb T 0 cs rfl hx)]
theorem zIu {e1:TypeId}{t:TypeId}{v:AV}(hf:(match v with| .fn _ _=>false|_=>true)=true)(h:AgV st st' v)(hb: ∀T i cs,v= .bp T i→lk st.b T=some cs→AgV st st' (.agg cs)):Ys τ e1 st' t v=Ys τ e1 st t v:=by
 cases v<;>simp only [Ys]<;>first|(cases hf;done)|skip
 all_goals first
  |(rw [Uu h];done)
  |(rw [zG7 h hb])
theorem ul {e1:TypeId}: ∀{vs:List AV} {ts:List TypeId},(∀v∈vs,∀t,Ys τ e1 st' t v=Ys τ e1 st t v)→ZL τ e1 st' ts vs=ZL τ e1 st ts vs
 | [],ts,_=>rfl
 |v::vs,ts,h=>by
  simp only [ZL]
  rw [h v List.mem_cons_self,ul (vs:=vs) fun u hu=>h u (List.mem_cons_of_mem _ hu)]
def uc (P:Program)(τ:Ty)(e1:TypeId)(o:Oper)(st:St)(K:Dl→Prop):Prop:=
 match mkF o with
 |some (f,caps)=>K ⟨.fn f (caps.map (ev st)),[],[],[]⟩
 |none=>
  match yH o with
  |some _=>False
  |none=>
   match Zq st o with
   |some (f,vs,ts)=>
    match ZL τ e1 st ts vs with
    |some (as9,ob)=>vs.all (fun v=>match v with| .fn _ _=>false|_=>true)=true∧((vs.take (vs.length - (vc o st).length)).all zDc=true)∧ob∧∃k n,FnX P τ f as9 [.c (.int k n)]∧K ⟨.int k n,[],[],[]⟩
    |none=>False
   |none=>False
theorem zIz {o:Oper}{f:FuncId}{vs:List AV}{ts:List TypeId}(hc:Zq st o=some (f,vs,ts)): ∃(args:List Operand),vs=args.map (ev st)++vc o st∧(∀x∈args,x∈vW o.op):=by
 unfold Zq at hc
 unfold vc
 cases ho:o.op with
 |call c=>
  rw [ho]at hc
  obtain⟨callee,args,ats⟩:=c
  cases callee with
  |value x=>
   simp only at hc⊢
   split at hc
   ·rename_i f' us hx
    cases hc
    rw [hx]
    exact⟨args.toList,rfl,fun y hy=>by simp [vW,Op.operands,Call.operands];exact .inr (by simpa using hy)⟩
   ·cases hc
  |_=>simp at hc
 |_=>rw [ho]at hc;simp at hc
theorem zK4 {o:Oper}(h:qA o st st'):Zq st' o=Zq st o:=by
 have he:=h.e
 unfold Zq
 cases ho:o.op with
 |call c=>
  rw [ho]at he
  obtain⟨callee,args,ats⟩:=c
  cases callee with
  |value x=>
   simp only
   rw [he x (by simp [Op.operands,Call.operands]),List.map_congr_left fun y hy=>he y (by simp [Op.operands,Call.operands];exact .inr (by simpa using hy))]
  |_=>rfl
 |_=>rfl
theorem zAu {e1:TypeId}(h1:sz τ e1=1){o:Oper}{K:Dl→Prop}(h:uc P τ e1 o st K): ∃δ,qT P np τ o st δ∧K δ:=by
 unfold uc at h
 cases hm:mkF o with
 |some y=>
  obtain⟨f,caps⟩:=y
  rw [hm]at h
  have hops: ∀x∈caps,x∈vW o.op:=fun x hx=>by
   unfold mkF at hm
   split at hm
   ·rename_i f' first caps' ho
    split at hm
    ·cases hm
     rw [ho]
     simp only [vW,Op.operands,Array.toList_append,List.mem_append]
     exact .inr hx
    ·cases hm
   ·cases hm
  refine⟨_, .inl ⟨trivial,trivial, .inr ⟨f,caps,rfl,hops⟩,rfl,rfl, .inl rfl,fun st' hag hpf lo w0 a w Q K' hdn hrel hK'=> ?_⟩,h⟩
  obtain⟨ow,hd,bk,hr⟩:=hrel
  obtain⟨z,hz,hv⟩:=Kh (P:=P) hr hm
  rw [List.map_congr_left fun x hx=>hag.e x (VP (hops x hx))]at hv
  exact zCt hdn ⟨z,w,ow,hd,bk, .inl hz,hr,hv⟩ (ZB _) hK'
 |none=>
  rw [hm]at h
  simp only at h
  cases hc:yH o with
  |some _=>rw [hc]at h;exact h.elim
  |none=>
   rw [hc]at h
   simp only at h
   cases hx:Zq st o with
   |none=>rw [hx]at h;exact h.elim
   |some y=>
    obtain⟨f,vs,ts⟩:=y
    rw [hx]at h
    simp only at h
    cases ha:ZL τ e1 st ts vs with
    |none=>rw [ha]at h;exact h.elim
    |some z=>
     obtain⟨as9,ob⟩:=z
     rw [ha]at h
     obtain⟨hnf,hpl,hob,k,n,hF,hK⟩:=h
     obtain⟨args,hvs,hargs⟩:=zIz hx
     refine⟨_, .inl ⟨trivial,trivial, .inl ⟨k,n,rfl⟩,rfl,rfl, .inl rfl,fun st' hag hpf lo w0 a w Q K' hdn hrel hK'=> ?_⟩,hK⟩
     have hax:ZL τ e1 st' ts vs=some (as9,ob):=by
      rw [←ha]
      refine ul fun v hv t=> ?_
      have hnfv:=List.all_eq_true.1 hnf v hv
      rw [hvs,List.mem_append]at hv
      rcases hv with hv|hv
      ·refine zF2 ?_ ?_
       ·refine List.all_eq_true.1 hpl v ?_
        rw [hvs,List.length_append,Nat.add_sub_cancel,List.take_append_of_le_length (Nat.le_refl _),List.take_length]
        exact hv
       ·obtain⟨x,hx1,rfl⟩:=List.mem_map.1 hv
        exact hag.v (hargs x hx1)
      ·refine zIu hnfv ?_ fun T i cs e hcs=> ?_
       ·obtain⟨x,hx1,f2,us,he,hu⟩:=ut hv
        have h2:=hag.v hx1
        rw [he]at h2
        exact⟨fun d hd=>h2.1 d (by simp only [AV.nm];exact yG.2 ⟨v,hu,hd⟩),fun t ht=>h2.2 t (by simp only [AV.nm];exact yG.2 ⟨v,hu,ht⟩)⟩
       ·subst e
        exact hag.cap hc hv hcs
     have hcall:WG P τ e1 o (fun s=>s=st'.put o.dst (.int k n)) st':=by
      unfold WG
      rw [zK4 hag,hx]
      simp only
      rw [hax]
      exact⟨hob,_,hF,by simp [szL,zr,VT.cells],rfl⟩
     exact KB h1 hdn hrel hcall fun s x w' hs hr=>hK' x w' (xg (by rw [hs]at hr;exact hr) (ZB _))
def St.cutI (ids:List Nat)(st:St):St:={st with s:=vx (AV.cut ids) st.s,b:=vx (AV.cutL ids) st.b}
theorem kf {ids:List Nat}(t:Nat)(hl: ∃cs,lk (st.cutI ids).b t=some cs): ∃cs,lk st.b t=some cs:=by
 obtain⟨cs,hcs⟩:=hl
 simp only [St.cutI,yC]at hcs
 cases hx:lk st.b t with
 |none=>rw [hx]at hcs;cases hcs
 |some u=>exact⟨u,rfl⟩
theorem zGt (h:zl τ lo w0 ow hd bk st a w)(ids:List Nat):zl τ lo w0 ow hd bk (st.cutI ids) a w:=by
 refine⟨h.big,h.defers,h.size,h.low,h.below,h.ge,h.new,fun k v hv'=> ?_,h.root,fun t vs hv'=> ?_,h.pin⟩
 ·simp only [St.cutI,yC]at hv'
  cases hx:lk st.s k with
  |none=>rw [hx]at hv';cases hv'
  |some u=>rw [hx]at hv';cases hv';exact VG (fun t=>kf t) u _ (h.slot k u hx)
 ·simp only [St.cutI,yC]at hv'
  cases hx:lk st.b t with
  |none=>rw [hx]at hv';cases hv'
  |some u=>
   rw [hx]at hv';cases hv'
   obtain⟨cs,ty,h1,h2,h3⟩:=h.box t u hx
   exact⟨cs,ty,h1,h2,wJ (fun t=>kf t) u cs h3⟩
theorem zGB {ids:List Nat}{d:Nat}(hd:d∈ids):YO d (st.cutI ids):=by
 have hc:ids.contains d=true:=by simpa using hd
 refine⟨fun k v hv hm=> ?_,fun k cs hcs hm=> ?_⟩
 ·simp only [St.cutI,yC]at hv
  cases hx:lk st.s k with
  |none=>rw [hx]at hv;cases hv
  |some u=>rw [hx]at hv;cases hv;rw [zCo u d hm]at hc;cases hc
 ·simp only [St.cutI,yC]at hcs
  cases hx:lk st.b k with
  |none=>rw [hx]at hcs;cases hcs
  |some u=>rw [hx]at hcs;cases hcs;rw [QJ u d hm]at hc;cases hc
theorem KZ {ids:List Nat}{vs:List AV}{outs:List Out}: ∀{own:List Nat},xv τ (st.cutI ids) vs outs own=xv τ st vs outs own
 | []=>rfl
 |id::own=>by
  have ih:=KZ (ids:=ids) (vs:=vs) (outs:=outs) (own:=own)
  simp only [xv,ih]
  rfl
def WE (P:Program)(τ:Ty)(own:List Nat)(outs:List Out)(o:Oper)(K:St→Prop)(st:St):Prop:=
 match yH o with
 |some (f,args,ts)=>
  match yu τ st ts.toList (args.toList.map (ev st)),xv τ st (args.toList.map (ev st)) outs own with
  |some (as9,ob),some (ls,ob2)=>apart (ZD own 0 (args.toList.map (ev st))) ls=true∧Xa own=true∧few as9=true∧ob∧ob2∧vE ls∧
    ∃ress,FnG P τ f as9 own outs ress∧szL τ (zr ress)∧(zr ress).length≤1000000∧K ((yf (zw o) 0 (zr ress) (xw (st.cutI (ls.map (·.d))) ls)).put o.dst (qJ (xO τ (zw o) 0 ress)))
  |_,_=>False
 |none=>False
theorem Jo {own:List Nat}{outs:List Out}{o:Oper}{K:St→Prop}{Q:Exit→Act→World→Prop}{K':Act→World→Prop}(hd: ∀k,o.dst=some k→k<a.tmps.size)(h:Rel τ lo w0 st a w)(ha:WE P τ own outs o K st)
  (hK: ∀st' x w',K st'→Rel τ lo w0 st' (a.put o.dst x) w'→K' (a.put o.dst x) w'):o.wp P a w K' Q:=by
 obtain⟨ow,hd',bk,hr⟩:=h
 unfold WE at ha
 split at ha
 ·rename_i f args ts hc
  split at ha
  ·rename_i as9 ob ls ob2 hargs hlends
   obtain⟨hap,hnd,hfew,hob,hob2,hsep,ress,⟨hcl,hcall⟩,hsz,hfl,hK1⟩:=ha
   have hev:ze τ w st.r st.b hd' bk (args.toList.map (ev st)) (args.toList.map a.eval):=zp.2 ⟨by simp,fun i v x hv hx=>by
    rw [List.getElem?_map]at hv hx
    cases hk:args.toList[i]? with
    |none=>rw [hk]at hv;cases hv
    |some p=>rw [hk]at hv hx;cases hv;cases hx;exact zk hr p⟩
   have hA:=Vg hr hev hargs hob hlends hob2 hsep hap hfew
   have hC:=hcall lo w (yx ow ls) _ hr.low (fun b p hb=>by
    obtain⟨d,q,ho,x,hx,-,q',-,hp⟩:=qR hb
    have hlt:b<w.heap.size:=by
     rcases Nat.lt_or_ge b w.heap.size with h'|h'
     ·exact h'
     ·rw [hr.new b h']at ho;cases ho
    exact⟨hlt,(hr.ge b _ hlt ho (by simp)).1,_,_,hp⟩) hA
   unfold Oper.wp
   rw [YZ hr hc hcl]
   simp only [Oper.upon]
   refine hC.mono fun e w' hpost=> ?_
   have hev2:ze τ w (st.cutI (ls.map (·.d))).r (st.cutI (ls.map (·.d))).b hd' bk (args.toList.map (ev st)) (args.toList.map a.eval):=by
    have :=yE (τ:=τ) (w:=w) (w':=w) (rr:=st.r) (rr':=st.r) (bb:=st.b) (bb':=(st.cutI (ls.map (·.d))).b) (hd:=hd') (hd':=hd') (bk:=bk) (bk':=bk) (ds:=noB) (bs:=noB) (fun d _ R hR=>⟨R,hR,rfl,fun p hp=>⟨hp,rfl⟩⟩) (fun t _ hl=>⟨kf t hl,rfl⟩) _ _ hev
    rwa [xG]at this
   obtain⟨z,ow',hd2,he,r1,r2⟩:=Kp (zGt hr (ls.map (·.d))) hev2 (fun d ⟨x,hx,e⟩=>zGB (List.mem_map.2 ⟨x,hx,e⟩)) (by rw [KZ];exact hlends) hob2 hsep (Zm hnd) (t:=zw o) hsz hfl hpost
   subst he
   exact hK _ z w' hK1 (xQ r1 hd r2)
  ·exact ha.elim
 ·exact ha.elim
def WI (P:Program)(τ:Ty)(al:List Nat)(t:Nat)(own:List Nat)(outs:List Out)(all:List Oper)(K:St→Prop):List Oper→St→Prop
 | [],st=>K st
 |o::os,st=>
  match o.guard with
  |none=>if o.dst=some t then WE P τ own outs o (WI P τ al t own outs all K os) st else aop P τ al o (WI P τ al t own outs all K os) st
  |some (j,want)=>False
theorem Qb (hτ:zz P τ)(hpos:yW τ){al:List Nat}{t:Nat}{own:List Nat}{outs:List Out}{all:List Oper}{K:St→Prop}{Q:Exit→Act→World→Prop}(hQ: ∀st a w,K st→Rel τ lo w0 st a w→Q .normal a w):
  ∀(os:List Oper) (st:St) (a:Act) (w:World),yv a.tmps.size os=true→Rel τ lo w0 st a w→WI P τ al t own outs all K os st→wpList P all.toArray Q os a w
 | [],st,a,w,_,h,ha=>wpList_nil (hQ st a w ha h)
 |o::os,st,a,w,hd,h,ha=>by
  have hd1: ∀k,o.dst=some k→k<a.tmps.size:=fun k hk=>by
   have :=List.all_eq_true.1 hd o (by simp)
   rw [hk]at this
   simpa using this
  have hd2:yv a.tmps.size os=true:=List.all_eq_true.2 fun x hx=>List.all_eq_true.1 hd x (by simp [hx])
  refine wpList_step fun K' hK'=> ?_
  simp only [WI]at ha
  split at ha
  ·rename_i hg
   rw [if_pos (by simp [Region.wanted,hg])]
   split at ha
   ·exact Jo hd1 h ha fun st' x w' h1 h2=>hK' _ _ (Qb hτ hpos hQ os st' _ w' (by rw [yw];exact hd2) h2 h1)
   ·exact wo hτ hpos hd1 h ha fun st' x w' h1 h2=>hK' _ _ (Qb hτ hpos hQ os st' _ w' (by rw [yw];exact hd2) h2 h1)
  ·exact ha.elim
theorem zCb {Q:Exit→St→Prop}(t:Nat)(own:List Nat)(outs:List Out)(hτ:zz P τ)(hpos:yW τ)(al:List Nat){id:Nat}{ops:List Oper}(hd:yv st.n ops=true)(h:WI P τ al t own outs ops (Q .normal) ops st):awp P τ (.region id ops.toArray false) Q st:=fun lo w0 a w hr=>by
 have hn:a.tmps.size=st.n:=by obtain⟨ow,hd,bk,h⟩:=hr;exact h.size
 refine wp_region_lit (Qb hτ hpos (fun st a w h1 h2=>⟨st,h2,h1⟩) ops st a w (by rw [hn];exact hd) hr h)
end
attribute [push_cast] St.cutI WE WI xw uc zDc Zq ZL Ys ZM XX mkF
section
variable {P:Program} {τ:Ty} {lo:Nat} {w0:Fz} {ow:Nat→Option Pl} {hd:Nat→Value} {bk:Nat→Nat} {st:St} {a:Act} {w:World}
def jC (P:Program)(τ:Ty)(al:List Nat)(X:Oper→(St→Prop)→St→Prop)(t:Option Nat)(K:St→Prop):List Oper→St→Prop
 | [],st=>K st
 |o::os,st=>
  match o.guard with
  |none=>if o.dst=t then X o (jC P τ al X t K os) st else aop P τ al o (jC P τ al X t K os) st
  |some (j,want)=>False
def uX (P:Program)(τ:Ty)(X:Oper→(St→Prop)→St→Prop):Prop:=
 ∀{lo:Nat} {w0:Fz} {st:St} {a:Act} {w:World} {o:Oper} {K:St→Prop} {Q:Exit→Act→World→Prop} {K':Act→World→Prop},(∀k,o.dst=some k→k<a.tmps.size)→Rel τ lo w0 st a w→X o K st→
  (∀st' x w',K st'→Rel τ lo w0 st' (a.put o.dst x) w'→K' (a.put o.dst x) w')→o.wp P a w K' Q
theorem Vd (hτ:zz P τ)(hpos:yW τ){al:List Nat}{X:Oper→(St→Prop)→St→Prop}(hX:uX P τ X){t:Option Nat}{all:List Oper}{K:St→Prop}{Q:Exit→Act→World→Prop}(hQ: ∀st a w,K st→Rel τ lo w0 st a w→Q .normal a w):
  ∀(os:List Oper) (st:St) (a:Act) (w:World),yv a.tmps.size os=true→Rel τ lo w0 st a w→jC P τ al X t K os st→wpList P all.toArray Q os a w
 | [],st,a,w,_,h,ha=>wpList_nil (hQ st a w ha h)
 |o::os,st,a,w,hd,h,ha=>by
  have hd1: ∀k,o.dst=some k→k<a.tmps.size:=fun k hk=>by
   have :=List.all_eq_true.1 hd o (by simp)
   rw [hk]at this
   simpa using this
  have hd2:yv a.tmps.size os=true:=List.all_eq_true.2 fun x hx=>List.all_eq_true.1 hd x (by simp [hx])
  refine wpList_step fun K' hK'=> ?_
  simp only [jC]at ha
  split at ha
  ·rename_i hg
   rw [if_pos (by simp [Region.wanted,hg])]
   split at ha
   ·exact hX hd1 h ha fun st' x w' h2 h3=>hK' _ _ (Vd hτ hpos @hX hQ os st' _ w' (by rw [yw];exact hd2) h3 h2)
   ·exact wo hτ hpos hd1 h ha fun st' x w' h2 h3=>hK' _ _ (Vd hτ hpos @hX hQ os st' _ w' (by rw [yw];exact hd2) h3 h2)
  ·exact ha.elim
end
theorem Qf {P:Program}{τ:Ty}{Q:Exit→St→Prop}{st:St}(X:Oper→(St→Prop)→St→Prop)(hX:uX P τ X)(t:Option Nat)(hτ:zz P τ)(hpos:yW τ)(al:List Nat){id:Nat}{ops:List Oper}(hd:yv st.n ops=true)(h:jC P τ al X t (Q .normal) ops st):awp P τ (.region id ops.toArray false) Q st:=fun lo w0 a w hr=>by
 have hn:a.tmps.size=st.n:=by obtain⟨ow,hd,bk,h⟩:=hr;exact h.size
 refine wp_region_lit (Vd hτ hpos @hX (fun st a w h1 h2=>⟨st,h2,h1⟩) ops st a w (by rw [hn];exact hd) hr h)
attribute [push_cast] jC
section
variable {P:Program} {τ:Ty} {lo:Nat} {w0:Fz} {ow:Nat→Option Pl} {hd:Nat→Value} {bk:Nat→Nat} {st:St} {a:Act} {w:World}
theorem zK6 {w:World}{g i:Nat}{cur:Array Value}{e:TypeId}(h:w.heap[g]? =some (.cells cur e (0,0)))(hi:i<cur.size):(w.cell? ⟨g,i,none⟩).isSome=true∧w.frozen? ⟨g,i,none⟩=false:=by
 constructor
 ·simp [World.cell?,h,hi]
 ·simp [World.frozen?,h]
theorem zKD (hτ:zz P τ)(h:zl τ lo w0 ow hd bk st a w){d k:Nat}{e:TypeId}{xs:List D}{pin:Option Nat}(hR:lk st.r d=some ⟨.ex,e,xs,pin⟩){off len m:Nat}{v:Value}(hsub:Sub (sz τ e) (hd d) off len v)(hfull:off+len=xs.length){t ty:TypeId}{bt by_:Nat}{ck:CK}(ht:tk τ t=some (.sc (.sl e),bt))(he:tk τ e=some (.sc ck,by_))(hall:xs.all xj=true)
  (newD:List D) (news:List Value) (src:Value) (hsrc: ∃ad c2,src= .slice (some ad) m c2∧∀(j:Nat) (u:Value),news[j]? =some u→w.cell? (ad.add j)=some u) (hm:0<m) (hnl:news.length=m) (hdl:newD.length=m) (h1: ∀u∈news,u.oneCell'=true)
  (hN: ∀(i:Nat) (x:D) (u:Value),newD[i]? =some x→news[i]? =some u→xj x=true∧∃mo,Rp (sz τ) lo w ow mo x u) (h63:len+m≤1073741824) (hoff:xs.length≤1073741824) (hby:by_≤64):
  ∃v' w' ow' hd' pre,(pre= []∨pre=xs.take off)∧(Builtin.append_ #[t,t] ty #[v,src]).run P w= .ok v' w'∧zl τ lo w0 ow' hd' bk (st.appG St.delR d k ⟨.ex,e,pre++(xs.drop off++newD),none⟩) a w'∧
   AvR τ w' (st.appG St.delR d k ⟨.ex,e,pre++(xs.drop off++newD),none⟩).r (st.appG St.delR d k ⟨.ex,e,pre++(xs.drop off++newD),none⟩).b hd' bk (.sl k [] pre.length (len+m) e) v':=by
 have hsz:sz τ e=1:=XR he
 have hu:P.underlying t=some (.slice e):=(ye hτ ht).1
 obtain⟨i0,hi0,hs0,hz0,hb0⟩:=QM hτ he
 obtain⟨A,n,c,A',c',hnw,hhd,hval,hle,hlc,hmx,hf0,hA⟩:=hsub
 obtain⟨vs,⟨k1,N,k2,k3⟩,k5⟩:=(zy _ _).1 (h.root d _ hR)
 have hH0:Hd (sz τ) lo w ow (md .ex d) e (hd d) xs.length vs:=⟨k1,N,k2,k3⟩
 have k1:vs.length=xs.length:=k1
 have k2:xs.length=N*sz τ e:=k2
 simp only [md]at k3
 obtain⟨hown,hlab⟩:=k3
 rw [hsz,Nat.mul_one]at k2
 rw [hhd]at hown hlab
 rw [hsz]at hown hnw hA
 have hNn:N=n:=by
  rcases hown.2 with⟨hv,h0⟩|⟨g,cap,cur,hv,_⟩
  ·cases hv;exact h0
  ·cases hv;rfl
 subst hNn
 by_cases hroom:len+m≤c'
 ·-- there is room
  obtain⟨g,cap,cur,hv,hg,hb,hnc,hcm,hcs,htk⟩: ∃g cap cur,Value.slice A N c= .slice (some ⟨g,0,none⟩) N cap∧lo≤g∧w.heap[g]? =some (.cells cur e (0,0))∧N≤cap∧cap≤maxLen∧cur.size=cap*1∧cur.toList.take (N*1)=vs:=by
   rcases hown.2 with⟨hv,h0⟩|h9
   ·cases hv;exfalso;omega
   ·exact h9
  cases hv
  have hA':=hnw.2 g 0 rfl (by omega)
  rw [Nat.zero_add,Nat.mul_one]at hA'
  subst hA'
  have hw9:=hnw.1
  have hNm:N+m≤c:=by omega
  obtain⟨ad,c2,rfl,hcells⟩:=hsrc
  have hcells2: ∀j,j<news.length→(w.cell? ⟨g,N+j,none⟩).isSome=true∧w.frozen? ⟨g,N+j,none⟩=false:=fun j hj=>zK6 hb (by omega)
  obtain⟨v1,w1,ow1,hrun1,hrel⟩:=XG (P:=P) hτ h (Zz h d) (by simp [St.delR,xU,is1]) (k:=k) (len:=N) (d:=d) hR (by simp) hhd (Nat.le_refl _) (ty:=ty) ht he (by show 0<sz τ e;omega) newD news (.slice (some ad) m c2) (m:=m) (.inl ⟨ad,c2,rfl,hcells⟩) (by rw [hsz,Nat.mul_one];exact hnl) (by omega) h1 (fun i x u hx hu=>by
   obtain⟨s1,mo,s2⟩:=hN i x u hx hu
   exact Xo s1 s2) (by omega) (by
   have :(N+m)*by_≤2147483648*64:=Nat.mul_le_mul (by omega) hby
   omega)
  have hr1:=run_append_room_cells (P:=P) (w:=w) t ty e i0 hu hi0 g 0 N c ad m c2 news (by rw [hs0,Nat.mul_one];exact hnl) hcells h1 (by omega) (fun j hj=>by rw [hs0,Nat.mul_one,Nat.zero_add];exact(hcells2 j hj).1) (fun j hj=>by rw [hs0,Nat.mul_one,Nat.zero_add];exact(hcells2 j hj).2)
  have hr2:=run_append_room_cells (P:=P) (w:=w) t ty e i0 hu hi0 g off len c' ad m c2 news (by rw [hs0,Nat.mul_one];exact hnl) hcells h1 hroom (fun j hj=>by rw [hs0,Nat.mul_one,show off+len=N by omega];exact(hcells2 j hj).1) (fun j hj=>by rw [hs0,Nat.mul_one,show off+len=N by omega];exact(hcells2 j hj).2)
  rw [hs0,Nat.mul_one,Nat.zero_add]at hr1
  rw [hs0,Nat.mul_one,show off+len=N by omega]at hr2
  rw [hr1]at hrun1
  cases hrun1
  have exs:xs.take off++(xs.drop off++newD)=xs.take (N*sz τ e)++newD:=by
   rw [←List.append_assoc,List.take_append_drop,hsz,Nat.mul_one,List.take_of_length_le (by omega)]
  refine⟨_,_,_,_,xs.take off, .inr rfl,by rw [hval];exact hr2,by rw [exs];exact hrel,?_⟩
  have hlo:(xs.take off).length=off:=by rw [List.length_take];omega
  rw [hlo]
  simp only [AvR]
  refine⟨⟨_,_,_,rfl⟩,fun R' hR' hp=>⟨.slice (some ⟨g,0,none⟩) (N+m) c,by simp only [yK,yB],some ⟨g,0,none⟩,N+m,c,some ⟨g,off,none⟩,c',⟨hnw.1,fun b o e9 _=> ?_⟩,rfl,rfl,by omega,hroom,hmx,hf0,fun _=>⟨g,0,rfl,by rw [hsz,Nat.mul_one,Nat.zero_add]⟩⟩⟩
  cases e9
  rw [hsz,Nat.mul_one,Nat.zero_add]
 ·-- a new row
  have hdr:(vs.drop off).length=len:=by rw [List.length_drop];omega
  obtain⟨v',w',hrun,hown',hg⟩: ∃v' w',(Builtin.append_ #[t,t] ty #[v,src]).run P w= .ok v' w'∧w'.ownsRow w.heap.size e 1 v' (len+m) (vs.drop off++news)∧w.grownBy w' none:=by
   obtain⟨ad,c2,rfl,hcells⟩:=hsrc
   have hbytes:(len+m)*by_≤140737488355328:=by
    have :(len+m)*by_≤1073741824*64:=Nat.mul_le_mul h63 hby
    omega
   have hmax:len+m≤maxLen:=by unfold maxLen;omega
   rw [hval]
   cases A' with
   |some ad'=>
    refine run_append_arg_grows (P:=P) (w:=w) t ty e i0 ck.zero 1 by_ hu hi0 hz0 hs0 hb0 (by cases ck<;>rfl) (by decide) ad' len c' (vs.drop off) (by rw [Nat.mul_one];exact hdr) (fun j u hj=> ?_) ad m c2 news (by rw [Nat.mul_one];exact hnl) hcells (by omega) hmax hbytes
    have hjl:=(List.getElem?_eq_some_iff.1 hj).1
    rw [List.getElem?_drop]at hj
    obtain⟨b1,o1,n1,c1,hv1,-,-,-,hc1⟩:=qM hH0 hj
    rw [hhd]at hv1
    cases hv1
    obtain⟨b2,o2,e1,e2⟩:=hA (by omega)
    cases e1
    rw [Nat.mul_one]at e2
    cases e2
    rw [Addr.add_lit,Nat.add_assoc]
    exact hc1
   |none=>
    have hl0:len=0:=by
     rcases Nat.eq_zero_or_pos len with h9|h9
     ·exact h9
     ·obtain⟨b2,o2,e1,e2⟩:=hA (by omega)
      cases e2
    have hc0:c'=0:=by
     rcases Nat.eq_zero_or_pos c' with h9|h9
     ·exact h9
     ·rcases hown.2 with⟨hv,h0⟩|⟨g,cap,cur,hv,_⟩
      ·cases hv;omega
      ·cases hv
       have :=hnw.2 g 0 rfl (by omega)
       cases this
    subst hl0
    subst hc0
    have hnil:vs.drop off= []:=List.eq_nil_of_length_eq_zero hdr
    rw [hnil]
    obtain⟨v',w',r1,r2,r3,-,r5⟩:=run_append_own_at (P:=P) w w.heap.size t ty e i0 ck.zero 1 by_ hu hi0 hz0 hs0 hb0 (by cases ck<;>rfl) (by decide) (.slice none 0 0) 0 [] ⟨rfl, .inl ⟨rfl,rfl⟩⟩ ad m c2 news (by rw [Nat.mul_one];exact hnl) hcells h1 hmax hbytes (Nat.le_refl _)
    exact⟨v',w',r1,r2,r3⟩
  have hvlt: ∀b,v'.ownBlock=some b→w.heap.size≤b∧b<w'.heap.size:=fun b hb=>⟨(hown'.lt b hb).1,(hown'.lt b hb).2⟩
  have s1:=Zz (Zz h d) k
  have hnew: ∀b,b<w.heap.size→¬v'.ownBlock=some b:=fun b hb e9=>by have :=(hvlt b e9).1;omega
  have s2:=VA s1 (w':=w') (ow':=fun b=>if v'.ownBlock=some b then some (.root k [])else ow b) hg.size (fun b hb=>⟨hg.block b hb (by simp),if_neg (hnew b hb)⟩) (h.below.grown hg (fun b hb=>by cases hb)) (fun b p hle hp hne=>by
   refine⟨Nat.le_trans h.low hle,fun hlt=>by have :=h.below.size;omega⟩) (fun b hle=>by
   have h9: ¬v'.ownBlock=some b:=fun e9=>by have :=(hvlt b e9).2;omega
   simp only [h9,if_false]
   exact h.new b (by have :=hg.size;omega))
  have hxl:(xs.drop off).length=len:=by rw [List.length_drop];omega
  have hownlo:w'.ownsRow lo e 1 v' (len+m) (vs.drop off++news):=⟨hown'.1,hown'.2.imp id fun⟨g,cap,cur,q1,q2,q3⟩=>⟨g,cap,cur,q1,Nat.le_trans h.low q2,q3⟩⟩
  have hroot:Rp (sz τ) lo w' (fun b=>if v'.ownBlock=some b then some (.root k [])else ow b) (md .ex k) (.lst e (xs.drop off++newD)) v':=by
   refine(zy _ _).2 ⟨vs.drop off++news,⟨by rw [List.length_append,List.length_append,hdr,hxl,hnl,hdl],len+m,by rw [hsz,Nat.mul_one,List.length_append,hxl,hdl],?_⟩,fun i x u hx hu=> ?_⟩
   ·simp only [md]
    rw [hsz]
    exact⟨hownlo,fun b hb=>by simp only [hb,if_true]⟩
   ·rcases Nat.lt_or_ge i len with hi|hi
    ·rw [List.getElem?_append_left (by omega),List.getElem?_drop]at hx hu
     exact Xo (List.all_eq_true.1 hall x (List.mem_of_getElem? hx)) (k5 _ x u hx hu)
    ·rw [List.getElem?_append_right (by omega)]at hx hu
     rw [hxl]at hx
     rw [hdr]at hu
     obtain⟨s3,mo,s4⟩:=hN _ x u hx hu
     exact Xo s3 s4
  have s3:=qn s2 k ⟨.ex,e,xs.drop off++newD,none⟩ v' hroot
  refine⟨v',w',_,_,[], .inl rfl,hrun,s3,?_⟩
  obtain⟨A2,n2,c2,hv',hlen',hnc2,hm2⟩:=xI hroot
  have hn2:n2=len+m:=by
   rw [List.length_append,hxl,hdl,hsz,Nat.mul_one]at hlen'
   omega
  subst hn2
  subst hv'
  simp only [AvR,List.length_nil,List.nil_append]
  refine⟨⟨_,_,_,rfl⟩,fun R' hR' hp=>⟨.slice A2 (len+m) c2,by simp only [yK,yB],A2,len+m,c2,A2,c2,nw0,rfl,rfl,by omega,hnc2,hm2,fun _=>⟨rfl,rfl⟩,fun hne0=> ?_⟩⟩
  rcases hown'.2 with⟨hv9,h0⟩|⟨g,cap,cur,hv9,_⟩
  ·omega
  ·cases hv9
   exact⟨g,0,rfl,by rw [Nat.zero_mul]⟩
def zCO (τ:Ty)(o:Oper)(K:St→Prop)(st:St):Prop:=
 match o.op,o.dst with
 | .call c,some t=>
  match c.callee with
  | .builtin .append=>
   match c.args.toList,c.argTypes.toList with
   | [X,Y],[t1,t2]=>
    match ev st X,ev st Y,tk τ t1 with
    | .sl d [] off len e, .sl d2 p2 off2 len2 e2,some (.sc (.sl e'),_)=>
     match lk st.r d,lk st.r d2,tk τ e with
     |some R,some R2,some (.sc ck,by_)=>t1=t2∧e'=e∧e2=e∧R.o= .ex∧R.e=e∧(by_≤64)∧off+len=R.xs.length∧R.xs.all xj=true∧zn R2.xs p2∧vJ R2.e R2.xs p2=e∧(((yU R2.xs p2).drop off2).take len2).all xj=true∧0<len2∧len+len2≤1073741824∧R.xs.length≤1073741824∧
      ∀pre:List D,(pre= []∨pre=R.xs.take off)→K ((st.appG St.delR d (zc t 0) ⟨.ex,e,pre++(R.xs.drop off++((yU R2.xs p2).drop off2).take len2),none⟩).put (some t) (.sl (zc t 0) [] pre.length (len+len2) e))
     |_,_,_=>False
    |_,_,_=>False
   |_,_=>False
  |_=>False
 |_,_=>False
theorem uY (hτ:zz P τ):uX P τ (zCO τ):=by
 intro lo w0 st a w o K Q K' hd9 h ha hK
 obtain⟨ow,hd,bk,hr⟩:=h
 obtain⟨dst,op,oty,pos,after,guard⟩:=o
 unfold zCO at ha
 cases op<;>simp only at ha
 rename_i c
 obtain⟨callee,args,argTypes⟩:=c
 cases dst with
 |none=>simp only at ha
 |some t=>
 simp only at ha
 split at ha
 rotate_left
 ·exact ha.elim
 split at ha
 rotate_left
 ·exact ha.elim
 rename_i X Y t1 t2 h1 h2
 split at ha
 rotate_left
 ·exact ha.elim
 rename_i d off len e d2 p2 off2 len2 e2 e' bt hX hY ht1
 split at ha
 rotate_left
 ·exact ha.elim
 rename_i R R2 ck by_ hR hR2 hte
 obtain⟨rfl,rfl,rfl,hex,hRe,hb64,hfull,hall,hp2,hnode,hall2,hlen2,hbd,hbd2,hK1⟩:=ha
 obtain⟨ro,re,rx,rp⟩:=R
 simp only at hex hRe hfull hall hbd2 hK1
 subst hex;subst hRe
 have e1:args= #[X,Y]:=by cases args;simp at h1;subst h1;rfl
 have e2:argTypes= #[t1,t1]:=by cases argTypes;simp at h2;subst h2;rfl
 subst e1;subst e2
 have hx:=zk hr X
 have hy:=zk hr Y
 rw [hX]at hx
 rw [hY]at hy
 simp only [AvR]at hx hy
 obtain⟨hv,hin,hsub⟩:=hx.2 _ hR (by simp only [zn])
 simp only [yK,Option.some.injEq]at hin
 subst hin
 have hsz1:=XR hte
 obtain⟨hv2,hin2,hsub2⟩:=hy.2 R2 hR2 hp2
 have hview:=QF hr hR2 hp2 hin2 hsub2 hnode lo
 rw [hsz1,Nat.mul_one,Nat.mul_one]at hview
 obtain⟨vs,⟨k1,N,k2,A3,c3,k3,k4,k5,k6⟩,k7⟩:=(zy _ _).1 hview
 obtain⟨A4,n4,c4,A5,c5,hnw5,e4,e5,hle4,-⟩:=hsub2
 rw [k3]at e5
 cases e5
 rw [hsz1,Nat.mul_one]at k2
 obtain⟨b,oo,hA,hb,-,hcell⟩:=k6 (by omega)
 subst hA
 have hsc: ∀(i:Nat) (x:D) (u:Value),(((yU R2.xs p2).drop off2).take len2)[i]? =some x→vs[i]? =some u→xj x=true∧∃mo,Rp (sz τ) lo w ow mo x u:=fun i x u hx hu=>
  ⟨List.all_eq_true.1 hall2 x (List.mem_of_getElem? hx), .sh,Xo (m':= .sh) (List.all_eq_true.1 hall2 x (List.mem_of_getElem? hx)) (k7 i x u hx hu)⟩
 have hone: ∀u∈vs,u.oneCell'=true:=fun u hu=>by
  obtain⟨j,hj⟩:=List.getElem?_of_mem hu
  have hjl:=(List.getElem?_eq_some_iff.1 hj).1
  obtain⟨s1,mo,s2⟩:=hsc j _ u (List.getElem?_eq_getElem (by omega)) hj
  cases hd':(((yU R2.xs p2).drop off2).take len2)[j]'(by omega)with
  |int k n=>rw [hd']at s2;simp only [Rp]at s2;subst s2;rfl
  |bool b=>rw [hd']at s2;simp only [Rp]at s2;subst s2;rfl
  |hole=>rw [hd']at s1;cases s1
  |lst e xs=>rw [hd']at s1;cases s1
 obtain⟨v',w',ow',hd',pre,r1,r2,r3,r4⟩:=zKD (P:=P) hτ hr (k:=zc t 0) hR hsub hfull (ty:=oty) ht1 hte hall _ vs (a.eval Y) ⟨_,c3,k3,fun j u hu=>by rw [Addr.add_lit];exact hcell j u hu⟩ hlen2 (by rw [k1,k2]) k2 hone hsc hbd hbd2 hb64
 unfold Oper.wp
 have hexec:(execOp a.eval ⟨some t, .call ⟨.builtin .append,#[X,Y],#[t1,t1]⟩,oty,pos,after,guard⟩).run P w= .ok (.value v') w':=by
  simp [execOp,resolve,invoke,builtin,r2]
 rw [hexec]
 exact hK _ v' _ (hK1 pre r1) (xQ r3 hd9 r4)
end
attribute [push_cast] zCO
section
variable {P:Program} {τ:Ty} {lo:Nat} {w0:Fz} {ow:Nat→Option Pl} {hd:Nat→Value} {bk:Nat→Nat} {st:St} {a:Act} {w:World}
def FnA (P:Program)(τ:Ty)(f:FuncId)(d:D):Prop:=
 vp P f∧∀(w:World) (g v:Value),Rp (sz τ) 0 w (fun _=>none) .sh d v→Calls P f #[g,v] w fun e w'=>e= .returned (.tuple #[v, .int .i64 0])∧Below w.heap.size w w'
def uZ (P:Program)(τ:Ty)(o:Oper)(K:St→Prop)(st:St):Prop:=
 match yH o with
 |some (f,args,ts)=>
  match args.toList with
  | [X,Y]=>
   match cellsOf τ st (ev st Y)with
   |some (d,ob)=>ob∧FnA P τ f d∧K (st.put o.dst (.tup [ev st Y, .int .i64 0]))
   |none=>False
  |_=>False
 |none=>False
theorem zCP :uX P τ (uZ P τ):=by
 intro lo w0 st a w o K Q K' hd9 h ha hK
 obtain⟨ow,hd,bk,hr⟩:=h
 unfold uZ at ha
 split at ha
 rotate_left
 ·exact ha.elim
 rename_i f args ts hc
 split at ha
 rotate_left
 ·exact ha.elim
 rename_i X Y hXY
 split at ha
 rotate_left
 ·exact ha.elim
 rename_i d ob hcell
 obtain⟨hob,⟨hcl,hcall⟩,hK1⟩:=ha
 have hv:=zk hr Y
 have hrp:=ZO hr (ow':=fun _=>none) (fun _ _ _ _ _ _ _=>rfl) hv hcell hob 0
 have hC:=hcall w (a.eval X) _ hrp
 unfold Oper.wp
 rw [YZ hr hc hcl,hXY]
 simp only [Oper.upon]
 refine hC.mono fun e' w' hpost=> ?_
 obtain⟨he,hbl⟩:=hpost
 subst he
 have hgrow:=VA hr (w':=w') (ow':=ow) hbl.size (fun b hb=>⟨hbl.block b hb,rfl⟩) (hr.below.below hbl) (fun b p hle hp hne=>by rw [hr.new b hle]at hp;cases hp) (fun b hle=>hr.new b (by have :=hbl.size;omega))
 refine hK _ _ w' hK1 (xQ hgrow hd9 ?_)
 simp only [AvR]
 refine⟨[a.eval Y, .int .i64 0],rfl,?_⟩
 simp only [ze]
 exact⟨_,_,rfl,zk hgrow Y,_,_,rfl,by simp only [AvR],rfl⟩
def XW (τ:Ty)(n:Nat)(e:TypeId)(xs:List D):St:={n:=n,s:= [(1, .sl 16 [] 0 (xs.length / sz τ e) e),(0, .dead)],b:= [],r:= [(16,⟨.sh,e,xs,some 16⟩)]}
def RetA (e:TypeId)(xs:List D)(τ:Ty)(rs:List ResultVar)(ex:Exit)(st:St):Prop:=(ex= .ret∨ex= .normal)∧
 match zo τ st rs with
 |some ([.sl d [] 0 m e', .int .i64 0],ob)=>ob∧(match lk st.r d with|some R=>R.pin=some 16∧R.e=e'∧R.xs.length=m*sz τ e'∧sz τ e'≠0|none=>False)
 |_=>False
theorem zCW {n:Nat}{e:TypeId}{xs:List D}{g v:Value}(hn:2≤n)(hz:sz τ e≠0)(hv:Rp (sz τ) 0 w (fun _=>none) .sh (.lst e xs) v):
  zl τ w.heap.size ⟨w,fun _=>True,fun id=>if id=16 then some v else none⟩ (fun _=>none) (fun _=>v) (fun _=>0) (XW τ n e xs) {tmps:= #[g,v]++Array.replicate (n - #[g,v].size) undef,defers:= []} w:=by
 obtain⟨vs,⟨k1,N,k2,A,c,k3,k4,k5,k6⟩,k7⟩:=(zy _ _).1 hv
 have hN:xs.length / sz τ e=N:=by rw [k2];exact Nat.mul_div_cancel _ (Nat.pos_of_ne_zero hz)
 refine⟨fun j ad hj h=> ?_,rfl,?_,Nat.le_refl _,⟨rfl,rfl,rfl,Nat.le_refl _,fun b hb _=>rfl⟩,fun b p hb h=>(by cases h),fun b hb=>rfl,fun k u hk=> ?_,fun d R hd=> ?_,fun t us ht=> ?_,fun d R i hd hp=> ?_⟩
 ·have h2:(if 999999+j=16 then some v else none)=some (Value.pointer (some ad)):=h
  rw [if_neg (by omega)]at h2
  cases h2
 ·simp [XW];omega
 ·simp only [XW,zi,xA]at hk
  split at hk
  ·rename_i e1
   cases hk
   subst e1
   have h1:(#[g,v]++Array.replicate (n - #[g,v].size) undef).getD 1 undef=v:=by
    rw [Array.getD_eq_getD_getElem?,Array.getElem?_append_left (by simp)]
    rfl
   show AvR _ _ _ _ _ _ _ ((#[g,v]++Array.replicate (n - #[g,v].size) undef).getD 1 undef)
   rw [h1]
   simp only [AvR]
   refine⟨⟨A,N,c,k3⟩,fun R hR hp=>⟨v,by simp only [yK],A,N,c,A,c,nw0,k3,by rw [hN];exact k3,by omega,by omega,k5,fun _=>⟨rfl,rfl⟩,fun hne=> ?_⟩⟩
   obtain⟨b,o,e1,-⟩:=k6 (by omega)
   exact⟨b,o,e1,by rw [Nat.zero_mul];exact e1⟩
  ·split at hk
   ·cases hk;simp only [AvR]
   ·cases hk
 ·simp only [XW,zi,xA]at hd
  split at hd
  ·rename_i e1
   cases hd
   exact zBp hv
  ·cases hd
 ·simp only [XW,xA]at ht;cases ht
 ·simp only [XW,zi,xA]at hd
  split at hd
  ·cases hd;cases hp;simp
  ·cases hd
theorem zMa (hτ:zz P τ)(hpos:yW τ){f:FuncId}{fn:Func}{c:Code}{rs:List ResultVar}{e:TypeId}{xs:List D}(hfn:P.funcs[f]? =some fn)(hname:(fn.name== "runtime.NumGoroutine")=false)(hb:fn.body=some c)(hres:fn.results=rs.toArray)(hn:2≤fn.ntmps)(hz:sz τ e≠0)
  (h:awp P τ c (RetA e xs τ rs) (XW τ fn.ntmps e xs)):FnA P τ f (.lst e xs):=by
 refine⟨⟨fn,hfn,hname,by rw [hb];rfl⟩,fun w g v hv=> ?_⟩
 have hst0:=zCW (g:=g) hn hz hv
 refine calls_of_wp hfn hb (Go.wp_mono (h _ _ _ w ⟨_,_,_,hst0⟩) fun ex a' w' ⟨st',⟨ow,hd,bk,hr⟩,he,hret0⟩=> ?_)
 have hpost:a'.defers= []∧∃z,(results fn a'.tmps).run P w'= .ok z w'∧((Ending.returned z)= .returned (.tuple #[v, .int .i64 0])∧Below w.heap.size w w'):=by
  split at hret0
  rotate_left
  ·exact hret0.elim
  rename_i d m e' ob hrv
  obtain⟨hob,hR0⟩:=hret0
  cases hR:lk st'.r d with
  |none=>rw [hR]at hR0;exact hR0.elim
  |some R=>
   rw [hR]at hR0
   obtain⟨hp,hRe,hlen,hz'⟩:=hR0
   obtain⟨zs,hrun,hvs⟩:=vU hτ hpos hr hres hrv hob
   simp only [ze,AvR]at hvs
   obtain⟨x0,l0,rfl,⟨-,hx0⟩,x1,l1,rfl,rfl,rfl⟩:=hvs
   obtain⟨hv9,hin,hsub⟩:=hx0 R hR (by simp only [zn])
   simp only [yK,Option.some.injEq]at hin
   subst hin
   have hpin:=hr.pin d R 16 hR hp
   simp only [if_true,Option.some.injEq]at hpin
   obtain⟨A,n,c1,A',c',hnw,hhd,hval,hle2,hlc,hmx,hf0,hA⟩:=hsub
   obtain⟨rfl,rfl⟩:=hf0 rfl
   obtain⟨A3,n3,c3,e3,l3,-⟩:=xI (hr.root _ R hR)
   rw [hhd]at e3
   cases e3
   rw [hRe]at l3
   have hnm:n=m:=Nat.eq_of_mul_eq_mul_right (Nat.pos_of_ne_zero hz') (by rw [←l3,hlen])
   subst hnm
   refine⟨hr.defers,_,hrun,?_,⟨hr.below.os,hr.below.tape,hr.below.output,hr.below.size,fun b hb=>hr.below.block b hb trivial⟩⟩
   rw [hval,←hhd,←hpin]
   rfl
 rcases he with rfl|rfl<;>exact hpost
end
attribute [push_cast] uZ XW RetA
abbrev MD :=List ((Int×Int)×Int)
def mapE (x:(Int×Int)×Int)(i:Nat):MapEntry:={key:= .agg #[.int .i64 x.1.1, .int .i64 x.1.2],val:= .int .i64 x.2,born:=i}
def Xh :MD→Nat→List MapEntry
 | [],_=> []
 |x::xs,i=>mapE x i::Xh xs (i+1)
def UK (m:MD):Obj:= .map (Xh m 0).toArray m.length
theorem zDQ : ∀(m:MD) (x:(Int×Int)×Int) (i:Nat),Xh (m++ [x]) i=Xh m i++ [mapE x (i+m.length)]
 | [],x,i=>rfl
 |y::m,x,i=>by
  simp only [List.cons_append,Xh,zDQ m x (i+1),List.length_cons,List.cons.injEq,true_and]
  rw [show i+1+m.length=i+(m.length+1) by omega]
def lkM :MD→Int×Int→Option Int
 | [],_=>none
 |x::m,k=>if k=x.1 then some x.2 else lkM m k
def ixM :MD→Int×Int→Nat→Nat
 | [],_,i=>i
 |x::m,k,i=>if k=x.1 then i else ixM m k (i+1)
structure qU (P:Program)(ta te tm:TypeId):Prop where
 ua:P.underlying ta=some (.array 2 te)
 ue:P.underlying te=some (.int .i64)
 um:P.underlying tm=some (.map ta te)
 ia: ∃i,P.info? ta=some i∧i.size=2∧i.zero=some (.agg #[.int .i64 0, .int .i64 0])
 ie: ∃i,P.info? te=some i∧i.size=1∧i.zero=some (.int .i64 0)
section
variable {P:Program} {ta te tm:TypeId} {w:World}
theorem qU.agg (h:qU P ta te tm):(isAgg ta).run P w= .ok true w:=by
 unfold isAgg
 rw [Sem.run_bind,run_underlying h.ua,Result.andThen_ok]
 simp
theorem qU.eagg (h:qU P ta te tm):(isAgg te).run P w= .ok false w:=by
 unfold isAgg
 rw [Sem.run_bind,run_underlying h.ue,Result.andThen_ok]
 simp
theorem qU.size (h:qU P ta te tm):(sizeOf ta).run P w= .ok 2 w:=by
 obtain⟨i,hi,h1,-⟩:=h.ia
 simp [sizeOf,typeInfo,hi,h1]
theorem qU.esize (h:qU P ta te tm):(sizeOf te).run P w= .ok 1 w:=by
 obtain⟨i,hi,h1,-⟩:=h.ie
 simp [sizeOf,typeInfo,hi,h1]
theorem qU.zero (h:qU P ta te tm):(zeroValue ta).run P w= .ok (.agg #[.int .i64 0, .int .i64 0]) w:=by
 obtain⟨i,hi,-,h1⟩:=h.ia
 simp [zeroValue,typeInfo,hi,h1]
theorem qU.ezero (h:qU P ta te tm):(zeroValue te).run P w= .ok (.int .i64 0) w:=by
 obtain⟨i,hi,-,h1⟩:=h.ie
 simp [zeroValue,typeInfo,hi,h1]
theorem qU.part (h:qU P ta te tm){xs:Array Value}{i:Nat}{v:Value}(hx:xs[i]? =some v):(part te xs i).run P w= .ok v w:=by
 unfold Go.part
 rw [Sem.run_bind,h.eagg,Result.andThen_ok]
 simp [hx]
theorem qU.echeck (h:qU P ta te tm)(em:Bool)(n:Nat)(k:IntKind)(x:Int):(Instr.checkKey em (n+1) te (.int k x)).run P w= .ok () w:=by
 unfold Instr.checkKey
 rw [Sem.run_bind,run_underlying h.ue,Result.andThen_ok]
 simp
theorem qU.check (h:qU P ta te tm)(em:Bool)(a b:Int):(Instr.checkKey em 10000 ta (.agg #[.int .i64 a, .int .i64 b])).run P w= .ok () w:=by
 rw [show(10000:Nat)=9999+1 from rfl]
 unfold Instr.checkKey
 rw [Sem.run_bind,run_underlying h.ua,Result.andThen_ok]
 have p0:=h.part (w:=w) (i:=0) (v:= .int .i64 a) (xs:= #[.int .i64 a, .int .i64 b]) rfl
 have p1:=h.part (w:=w) (i:=1) (v:= .int .i64 b) (xs:= #[.int .i64 a, .int .i64 b]) rfl
 have c0:=h.echeck (w:=w) em 9998 .i64 a
 have c1:=h.echeck (w:=w) em 9998 .i64 b
 have es:=h.esize (w:=w)
 simp [show List.range' 0 2= [0,1]from rfl,Sem.run_bind,es,p0,p1,c0,c1,Result.andThen]
theorem qU.eq (h:qU P ta te tm)(a b c d:Int):(Op.equal ta (.agg #[.int .i64 a, .int .i64 b]) (.agg #[.int .i64 c, .int .i64 d])).run P w= .ok (decide ((a,b)=(c,d))) w:=by
 unfold Op.equal
 rw [show Op.maxDepth=9998+1+1 from rfl]
 unfold Op.equalIn
 rw [Sem.run_bind,run_underlying h.ua,Result.andThen_ok]
 have h1: ∀x y:Int,(Op.equalIn (9998+1) te (.int .i64 x) (.int .i64 y)).run P w= .ok (x==y) w:=fun x y=>run_equalIn_int w 9998 te .i64 .i64 x y h.ue
 simp [h.esize,h.part (i:=0) (v:= .int .i64 a) (xs:= #[.int .i64 a, .int .i64 b]) rfl,h.part (i:=1) (v:= .int .i64 b) (xs:= #[.int .i64 a, .int .i64 b]) rfl,h.part (i:=0) (v:= .int .i64 c) (xs:= #[.int .i64 c, .int .i64 d]) rfl,h.part (i:=1) (v:= .int .i64 d) (xs:= #[.int .i64 c, .int .i64 d]) rfl,h1,Result.andThen,show List.range' 0 2= [0,1]from rfl]
 have p1:=h.part (w:=w) (i:=1) (v:= .int .i64 b) (xs:= #[.int .i64 a, .int .i64 b]) rfl
 have p2:=h.part (w:=w) (i:=1) (v:= .int .i64 d) (xs:= #[.int .i64 c, .int .i64 d]) rfl
 have h2:(Op.equalIn 9999 te (.int .i64 b) (.int .i64 d)).run P w= .ok (b==d) w:=h1 b d
 by_cases hac:a=c
 ·subst hac
  by_cases hbd:b=d
  ·subst hbd
   rw [beq_self_eq_true]at h2
   simp [Sem.run_bind,p1,h2,Result.andThen]
  ·rw [beq_eq_false_iff_ne.2 hbd]at h2
   simp [Sem.run_bind,p1,p2,h2,hbd,Result.andThen]
 ·simp [hac,Sem.run_bind,Result.andThen]
theorem qU.asks (h:qU P ta te tm)(k:Int×Int): ∀(m:MD) (i j:Nat),(Instr.findAsking ta (.agg #[.int .i64 k.1, .int .i64 k.2]) (Xh m j) i).run P w= .ok ((lkM m k).map fun v=>(ixM m k i, .int .i64 v)) w
 | [],i,j=>by simp [Instr.findAsking,Xh,lkM]
 |x::m,i,j=>by
  simp only [Xh,Instr.findAsking,mapE]
  rw [Sem.run_bind,h.eq,Result.andThen_ok]
  simp only [lkM,ixM]
  by_cases e:k=x.1
  ·have :((k.1,k.2):Int×Int)=(x.1.1,x.1.2):=e
   rw [decide_eq_true this,if_pos e,if_pos e]
   simp
  ·have : ¬((k.1,k.2):Int×Int)=(x.1.1,x.1.2):=e
   rw [decide_eq_false this,if_neg e,if_neg e]
   simp only [Bool.false_eq_true,if_false]
   exact h.asks k m (i+1) (j+1)
theorem qU.finds (h:qU P ta te tm)(k:Int×Int)(m:MD)(j:Nat):(Instr.findKey ta (.agg #[.int .i64 k.1, .int .i64 k.2]) (Xh m j)).run P w= .ok ((lkM m k).map fun v=>(ixM m k 0, .int .i64 v)) w:=by
 unfold Instr.findKey
 rw [Sem.run_bind,run_underlying h.ua,Result.andThen_ok]
 cases m with
 |nil=>simp [Xh,Instr.findNow,lkM]
 |cons x m=>
  have :=h.asks (w:=w) k (x::m) 0 j
  simp only [Xh,Instr.findNow,Instr.sameNow]at this⊢
  exact this
theorem qU.look (h:qU P ta te tm){r:Nat}{m:MD}(hr:w.heap[r]? =some (UK m))(k:Int×Int):
  (Instr.lookup tm (.map (some r)) (.agg #[.int .i64 k.1, .int .i64 k.2]) true).run P w= .ok (.tuple #[.int .i64 ((lkM m k).getD 0), .bool (lkM m k).isSome]) w:=by
 have hf:=h.finds (w:=w) k m 0
 have hg:=MapKept.run_getObj_map (P:=P) hr
 have hc:=h.check (w:=w) (Xh m 0).toArray.isEmpty k.1 k.2
 unfold Instr.lookup
 rw [Sem.run_bind,run_underlying h.um,Result.andThen_ok]
 simp only [Sem.run_bind,hg,Result.andThen_ok,Sem.run_pure,hc,hf]
 cases hl:lkM m k with
 |none=>simp [h.ezero,Sem.run_bind,Result.andThen]
 |some v=>simp [Sem.run_bind,Result.andThen]
theorem qU.upd (h:qU P ta te tm){r:Nat}{m:MD}(hr:w.heap[r]? =some (UK m))(k:Int×Int)(v:Int)(hk:lkM m k=none):
  (Instr.mapUpdate tm (.map (some r)) (.agg #[.int .i64 k.1, .int .i64 k.2]) (.int .i64 v)).run P w= .ok () {w with heap:=w.heap.setIfInBounds r (UK (m++ [(k,v)]))}:=by
 have hf:=h.finds (w:=w) k m 0
 have hg:=MapKept.run_getObj_map (P:=P) hr
 have hc:=h.check (w:=w) false k.1 k.2
 have hs:=fun o=>MapKept.run_setObj_map (P:=P) o hr
 unfold Instr.mapUpdate
 rw [Sem.run_bind,run_underlying h.um,Result.andThen_ok]
 simp only [Sem.run_bind,hg,Result.andThen_ok,hc,hf,hk,Option.map_none]
 rw [hs]
 simp [UK,zDQ,mapE]
end
structure MmI (a:Ar)(m:Me)(s:Int):Prop where
 ar:yi a=true
 mem:memI a m=true
 st:0≤s∧s<a.owner.length
section
variable {a:Ar} {m:Me} {s:Int}
theorem zMA {xs:List Int}{n:Int}(h:xN xs n=true){u:Int}(hu:u∈xs):0≤u∧u<n:=by
 obtain⟨j,hj,rfl⟩:=List.mem_iff_getElem.1 hu
 have :=va h hj
 unfold qr at this
 have :=of_decide_eq_true this
 have e:gi xs j=xs[j]:=by
  unfold gi
  rw [List.getD_eq_getElem?_getD,List.getElem?_eq_getElem hj]
  rfl
 rw [e]at this
 exact⟨this.1,this.2.1⟩
end
theorem zG2 (ps:List Plc)(x t:Int):xF ps++ [D.int .i64 x,D.lst 2 [D.int .i64 t]]=xF (ps++ [⟨x,[t]⟩]):=zAz ps x [t]
attribute [push_cast] zG2
theorem zLU {c:List (List Int)}{v u:Nat}{x:List Int}(hv:v<c.length):gl (c.set v x) u=if u=v then x else gl c u:=by
 unfold gl
 rw [List.getD_eq_getElem?_getD,List.getD_eq_getElem?_getD,List.getElem?_set]
 by_cases e:v=u
 ·subst e;simp [hv]
 ·rw [if_neg e,if_neg (fun h=>e h.symm)]
theorem zJB {c:List Int}{v:Nat}(hv:v<c.length):c.set v (gi c v)=c:=by
 refine List.ext_getElem? fun i=> ?_
 rw [List.getElem?_set]
 by_cases e:v=i
 ·subst e;rw [if_pos rfl,if_pos hv,qk hv]
 ·rw [if_neg e]
theorem zLT (n:Nat)(x:List Int){v:Nat}(h:v<n):gl (List.replicate n x) v=x:=by
 unfold gl;rw [List.getD_eq_getElem?_getD,List.getElem?_replicate,if_pos h];rfl
def SqN (c n:Nat)(N:List (List Int)):Prop:=N.length=c∧∀i,i<c→(gl N i).length=n
theorem zEx (c n:Nat)(x:Int):SqN c n (List.replicate c (List.replicate n x)):=⟨by simp,fun i hi=>by rw [zLT c _ hi];simp⟩
theorem zKw {c n:Nat}{N:List (List Int)}(h:SqN c n N)(i v:Nat)(x:Int):SqN c n (N.set i ((gl N i).set v x)):=by
 refine⟨by rw [List.length_set];exact h.1,fun j hj=> ?_⟩
 by_cases hi:i<N.length
 ·rw [zLU hi]
  split
  ·rename_i e;subst e;rw [List.length_set];exact h.2 _ hj
  ·exact h.2 j hj
 ·rw [List.set_eq_of_length_le (by omega)];exact h.2 j hj
section
variable {P:Program} {np:Bool} {τ:Ty} {lo:Nat} {w0:Fz} {ow:Nat→Option Pl} {hd:Nat→Value} {bk:Nat→Nat} {st:St} {a:Act} {w:World}
end
def XJ (N j:Nat):List Int:=(List.range N).map fun i=>if i<j then -1 else 0
theorem zHK (N j:Nat):(XJ N j).length=N:=by simp [XJ]
theorem zLL (N:Nat):XJ N 0=List.replicate N 0:=by
 unfold XJ
 rw [List.eq_replicate_iff]
 refine⟨by simp,fun b hb=> ?_⟩
 obtain⟨i,-,rfl⟩:=List.mem_map.1 hb
 rw [if_neg (by omega)]
theorem zHM {N j:Nat}(h:j<N):(XJ N j).set j (-1)=XJ N (j+1):=by
 refine List.ext_getElem? fun i=> ?_
 rw [List.getElem?_set]
 unfold XJ
 rw [List.length_map,List.length_range,List.getElem?_map,List.getElem?_map]
 by_cases e:j=i
 ·subst e;rw [if_pos rfl,if_pos h,List.getElem?_range h];simp
 ·rw [if_neg e]
  by_cases h2:i<N
  ·rw [List.getElem?_range h2]
   simp only [Option.map_some]
   by_cases h3:i<j
   ·rw [if_pos h3,if_pos (by omega)]
   ·rw [if_neg h3,if_neg (by omega)]
  ·rw [List.getElem?_eq_none (by simp;omega)];rfl
structure Pa where
 a:Ar
 prio:List Int
 deriving DecidableEq
def dPa (x:Pa):List D:= [DI x.a.owner,DII x.a.next,DI x.prio]
def Pa.tot (x:Pa):Nat:=x.a.owner.length+wT x.a.next+x.prio.length
structure Pa.Ln (B:Nat)(x:Pa):Prop where
 a:x.a.Ln B
 prio:LnI B x.prio
theorem Pa.ln_of {B:Nat}{x:Pa}(h:x.tot≤B):x.Ln B:=by
 unfold Pa.tot at h
 exact⟨Ar.ln_of (by unfold Ar.tot;omega),XU (by omega)⟩
def Pa.cnt (x:Pa):Nat:=x.a.owner.length+yF x.a.next+x.prio.length
theorem Pa.ln_mono {B C:Nat}(hB:B≤C){x:Pa}(h:x.Ln B):x.Ln C:=⟨Ar.ln_mono hB h.a,LnI.mono hB h.prio⟩
theorem Pa.cnt_le {x:Pa}(h:x.Ln 1048576):x.cnt≤3298534883328:=by
 have h0:=Ar.cnt_le h.a
 have h1:=Qh h.prio
 unfold Pa.cnt
 try unfold Ar.cnt at*
 omega
end Go.Proofs.YtcleaokoimhedaaGreat
