/- A drawn region parted at an operation that is ordered to all others; function values made and called in drawn regions. -/
import Derived.Test.YtipplkjdmdlhpaaB15zvi
import Derived.Test.YtipplkjdmdlhpaaB13zvi
namespace Go.Proofs.Ytipplkjdmdlhpaa
open Go.RowKit
set_option linter.unusedVariables false
set_option linter.unusedSimpArgs false
section
variable {P:Program} {all:List Oper} {T:List (List Nat)} {c:Nat} {Q':Exit→Act→World→Prop}
def uv (all:List Oper)(T:List (List Nat))(c:Nat):Bool:=(List.range all.length).all fun j=>decide (j<c)||(List.range c).all fun i=>Vm T j i
def Ww (all:List Oper):Bool:=all.all fun o=>o.guard.isNone
def Wk (all:List Oper):Bool:=(List.range all.length).all fun j=>match all[j]? with|some o=>o.after.toList.all fun e=> !(Region.binds .any e)||decide (e.on<j)|none=>true
def xk (N:Nat)(l:Array Bool):Array Bool:=l++Array.replicate (N - l.size) false
theorem Yo {N:Nat}{l:Array Bool}(i:Nat):(xk N l).getD i false=l.getD i false:=by
 unfold xk
 rw [Array.getD_eq_getD_getElem?,Array.getD_eq_getD_getElem?]
 rcases Nat.lt_or_ge i l.size with h|h
 ·rw [Array.getElem?_append_left h]
 ·rw [Array.getElem?_append_right h,Array.getElem?_eq_none h,Array.getElem?_replicate]
  split<;>rfl
theorem zIb {N:Nat}{l:Array Bool}{i:Nat}(h:i<l.size):(xk N l).getD i true=l.getD i true:=by
 unfold xk
 rw [Array.getD_eq_getD_getElem?,Array.getD_eq_getD_getElem?,Array.getElem?_append_left h]
theorem Uv {N:Nat}{l:Array Bool}{i:Nat}(h:i<l.size):(xk N l).setIfInBounds i true=xk N (l.setIfInBounds i true):=by
 unfold xk
 refine Array.ext_getElem? fun j=> ?_
 rw [Array.getElem?_setIfInBounds]
 have e1:(l.setIfInBounds i true).size=l.size:=Array.size_setIfInBounds ..
 rw [e1,Array.getElem?_append,Array.getElem?_append,e1]
 rcases Nat.lt_or_ge j l.size with hj|hj
 ·rw [if_pos hj,if_pos hj,Array.getElem?_setIfInBounds]
  split
  ·rename_i e
   rw [if_pos (by rw [Array.size_append];omega)]
  ·rfl
 ·rw [if_neg (by omega),if_neg (by omega),if_neg (by omega)]
theorem zGU {l:Array Bool}{i:Nat}(h:i<l.size):l.getD i true=l.getD i false:=by
 rw [Array.getD_eq_getD_getElem?,Array.getD_eq_getD_getElem?,Array.getElem?_eq_getElem h]
 rfl
theorem Wj (hlt:Wk all=true){j:Nat}{o:Oper}(ho:all[j]? =some o){e:Edge}(he:e∈o.after)(hb:Region.binds .any e=true):e.on<j:=by
 have hj:=(List.getElem?_eq_some_iff.1 ho).1
 have h1:=List.all_eq_true.1 hlt j (List.mem_range.2 hj)
 rw [ho]at h1
 have h2:=List.all_eq_true.1 h1 e (by simpa using he)
 simpa [hb]using h2
theorem zA0 {md:Region.Mode}{ops:Array Oper}{Q:Exit→Act→World→Prop}: ∀(f:Nat) (l:Array Bool) (a:Act) (w:World),wpAny P md ops Q f l a w→wpAny P md ops Q (f+1) l a w
 |0,l,a,w,h=>⟨fun _=>h.2,fun i hi=>by rw [h.1]at hi;cases hi⟩
 |f+1,l,a,w,h=>⟨h.1,fun i hi=>wpOp_mono (fun a w h=>zA0 f _ a w h) (h.2 i hi)⟩
theorem uZ {md:Region.Mode}{ops:Array Oper}{Q:Exit→Act→World→Prop}{f:Nat}{l:Array Bool}{a:Act}{w:World}(h:wpAny P md ops Q f l a w): ∀k,wpAny P md ops Q (f+k) l a w
 |0=>h
 |k+1=>zA0 _ _ _ _ (uZ h k)
def JB (P:Program)(all:List Oper)(Q':Exit→Act→World→Prop)(f:Nat)(l:Array Bool):Exit→Act→World→Prop
 | .normal,a,w=>wpAny P .any all.toArray Q' f l a w
 |e,a,w=>Q' e a w
theorem zHt {o:Oper}{a:Act}{w:World}{K:Act→World→Prop}{f:Nat}{l:Array Bool}(h:o.wp P a w K (JB P all Q' f l)):o.wp P a w K Q':=by
 unfold Oper.wp at*
 generalize (execOp a.eval o).run P w=r at*
 cases r with
 |ok n w'=>cases n<;>exact h
 |halt b w'=>cases b<;>exact h
theorem jN (hng:Ww all=true){l1:Array Bool}(hs:l1.size=c){j:Nat}(hj:j<c)(hc:c≤all.length):j∈Region.ready .any all.toArray (xk all.length l1)↔j∈Region.ready .any (all.take c).toArray l1:=by
 rw [mem_ready,mem_ready,zIb (by omega)]
 simp only [Yo,List.getElem?_toArray,List.getElem?_take,if_pos hj]
theorem zDT (hA:XK all T=true)(hc:c≤all.length)(hcut:uv all T c=true)(hng:Ww all=true)(hlt:Wk all=true){f2:Nat}:
  ∀(f1:Nat) (l1:Array Bool) (a:Act) (w:World),l1.size=c→Jh all (xk all.length l1)→wpAny P .any (all.take c).toArray (JB P all Q' f2 (xk all.length (Array.replicate c true))) f1 l1 a w→wpAny P .any all.toArray Q' (f1+f2) (xk all.length l1) a w:=by
 have full: ∀l1:Array Bool,l1.size=c→(∀i,i<c→l1.getD i false=true)→l1=Array.replicate c true:=fun l1 hs h=>by
  refine Array.ext_getElem? fun i=> ?_
  rw [Array.getElem?_replicate]
  split
  ·rename_i hi
   have h1:=h i hi
   rw [Array.getD_eq_getD_getElem?]at h1
   cases hx:l1[i]? with
   |none=>rw [hx]at h1;simp at h1
   |some b=>rw [hx]at h1;simp at h1;rw [h1]
  ·rw [Array.getElem?_eq_none (by omega)]
 have least: ∀l1:Array Bool,l1.size=c→¬(∀i,i<c→l1.getD i false=true)→∃i,i<c∧l1.getD i false=false∧∀k,k<i→l1.getD k false=true:=fun l1 hs h=>by
  have key: ∀n,n≤c→(∀i,i<n→l1.getD i false=true)∨∃i,i<c∧l1.getD i false=false∧∀k,k<i→l1.getD k false=true:=by
   intro n
   induction n with
   |zero=>exact fun _=> .inl fun i hi=>absurd hi (Nat.not_lt_zero i)
   |succ n ih=>
    intro hn
    rcases ih (by omega)with h1|h1
    ·cases hx:l1.getD n false with
     |true=>
      refine .inl fun i hi=> ?_
      by_cases e:i=n
      ·rw [e];exact hx
      ·exact h1 i (by omega)
     |false=>exact .inr ⟨n,by omega,hx,h1⟩
    ·exact .inr h1
  exact(key c (Nat.le_refl _)).resolve_left h
 have rdy: ∀l1:Array Bool,l1.size=c→∀i,i<c→l1.getD i false=false→(∀k,k<i→l1.getD k false=true)→i∈Region.ready .any (all.take c).toArray l1:=fun l1 hs i hi h0 hk=>by
  rw [mem_ready,zGU (by omega)]
  have ho:all[i]? =some (all[i]'(by omega)):=List.getElem?_eq_getElem (by omega)
  exact⟨h0,_,by rw [List.getElem?_toArray,List.getElem?_take,if_pos hi];exact ho,fun e he hb=>hk _ (Wj hlt ho he hb)⟩
 intro f1
 induction f1 with
 |zero=>
  intro l1 a w hs hdn h
  by_cases hall: ∀i,i<c→l1.getD i false=true
  ·rw [full l1 hs hall,Nat.zero_add]
   exact h.2
  ·obtain⟨i,hi,h0,hk⟩:=least l1 hs hall
   have :=rdy l1 hs i hi h0 hk
   rw [h.1]at this
   cases this
 |succ f1 ih=>
  intro l1 a w hs hdn h
  by_cases hall: ∀i,i<c→l1.getD i false=true
  ·have hn:Region.ready .any (all.take c).toArray l1= []:=by
    refine List.eq_nil_iff_forall_not_mem.2 fun j hj=> ?_
    obtain⟨h1,o,h2,-⟩:=mem_ready.1 hj
    have hjc:j<c:=by
     rw [List.getElem?_toArray]at h2
     have :=(List.getElem?_eq_some_iff.1 h2).1
     rw [List.length_take]at this
     omega
    rw [zGU (by omega),hall j hjc]at h1
    cases h1
   have h3:=h.1 hn
   have h4:wpAny P .any all.toArray Q' f2 (xk all.length (Array.replicate c true)) a w:=h3
   rw [full l1 hs hall,show f1+1+f2=f2+(f1+1)from by omega]
   exact uZ h4 _
  ·obtain⟨i,hi,h0,hk⟩:=least l1 hs hall
   rw [show f1+1+f2=(f1+f2)+1 from by omega]
   refine⟨fun hn=> ?_,fun j hj=> ?_⟩
   ·have :=(jN hng hs hi hc).2 (rdy l1 hs i hi h0 hk)
    rw [hn]at this
    cases this
   ·have hjc:j<c:=by
     rcases Nat.lt_or_ge j c with h1|h1
     ·exact h1
     ·exfalso
      obtain⟨-,o,ho,-⟩:=mem_ready.1 hj
      rw [List.getElem?_toArray]at ho
      have hjl:=(List.getElem?_eq_some_iff.1 ho).1
      have h2:=List.all_eq_true.1 hcut j (List.mem_range.2 hjl)
      rw [Bool.or_eq_true,decide_eq_true_eq]at h2
      have h3:=List.all_eq_true.1 (h2.resolve_left (by omega)) i (List.mem_range.2 hi)
      have h4:=Qh hA hdn j i (.inr hj) h3
      rw [Yo,h0]at h4
      cases h4
    have hjA:=(jN hng hs hjc hc).1 hj
    have h5:=h.2 j hjA
    have ho:all[j]? =some (all[j]'(by omega)):=List.getElem?_eq_getElem (by omega)
    have hg:(all[j]'(by omega)).guard=none:=by
     have :=List.all_eq_true.1 hng _ (List.mem_of_getElem? ho)
     simpa using this
    unfold wpOp at h5⊢
    rw [List.getElem?_toArray,List.getElem?_take,if_pos hjc,ho]at h5
    rw [List.getElem?_toArray,ho]
    simp only at h5⊢
    rw [if_pos (by simp [Region.wanted,hg])]at h5⊢
    have hnext: ∀a w,wpAny P .any (all.take c).toArray (JB P all Q' f2 (xk all.length (Array.replicate c true))) f1 (l1.setIfInBounds j true) a w→wpAny P .any all.toArray Q' (f1+f2) ((xk all.length l1).setIfInBounds j true) a w:=fun a w h6=>by
     rw [Uv (by omega)]
     refine ih _ a w (by simpa using hs) ?_ h6
     rw [←Uv (by omega)]
     exact Jp hdn hj
    rcases h5 with h5|⟨h5,h6⟩
    ·exact .inl (zHt (Oper.wp_mono hnext h5))
    ·exact .inr ⟨h5,h6⟩
theorem zE5 (hA:XK all T=true)(hcut:uv all T (c+1)=true)(hng:Ww all=true)(hlt:Wk all=true){oc:Oper}(hoc:all[c]? =some oc){f:Nat}{a:Act}{w:World}
  (h:oc.wp P a w (wpAny P .any all.toArray Q' f (xk all.length (Array.replicate (c+1) true))) Q'):wpAny P .any all.toArray Q' (f+1) (xk all.length (Array.replicate c true)) a w:=by
 have hcl:=(List.getElem?_eq_some_iff.1 hoc).1
 have hl: ∀i,i<c→(xk all.length (Array.replicate c true)).getD i false=true:=fun i hi=>by
  rw [Yo,Array.getD_eq_getD_getElem?,Array.getElem?_replicate,if_pos hi];rfl
 have hu:(xk all.length (Array.replicate c true)).getD c true=false:=by
  unfold xk
  rw [Array.getD_eq_getD_getElem?,Array.getElem?_append_right (by simp),Array.getElem?_replicate,if_pos (by simp;omega)]
  rfl
 have hset:(xk all.length (Array.replicate c true)).setIfInBounds c true=xk all.length (Array.replicate (c+1) true):=by
  unfold xk
  refine Array.ext_getElem? fun j=> ?_
  rw [Array.getElem?_setIfInBounds,Array.getElem?_append,Array.getElem?_append]
  simp only [Array.size_replicate,Array.getElem?_replicate,Array.size_append]
  repeat' split
  all_goals first|rfl|omega
 have hr:c∈Region.ready .any all.toArray (xk all.length (Array.replicate c true)):=by
  rw [mem_ready]
  exact⟨hu,oc,by rw [List.getElem?_toArray];exact hoc,fun e he hb=>hl _ (Wj hlt hoc he hb)⟩
 refine⟨fun hn=>(by rw [hn]at hr;cases hr),fun j hj=> ?_⟩
 have hdn:Jh all (xk all.length (Array.replicate c true)):=fun k o ho hk e he hb=>by
  rw [Yo,Array.getD_eq_getD_getElem?,Array.getElem?_replicate]at hk
  split at hk
  ·have :=Wj hlt ho he hb
   exact hl _ (by omega)
  ·simp at hk
 have hjc:j=c:=by
  obtain⟨h1,o,ho,-⟩:=mem_ready.1 hj
  rw [List.getElem?_toArray]at ho
  have hjl:=(List.getElem?_eq_some_iff.1 ho).1
  rcases Nat.lt_trichotomy j c with h2|h2|h2
  ·have h3:=Wm (hl j h2)
   rw [h1]at h3;cases h3
  ·exact h2
  ·have h3:=List.all_eq_true.1 hcut j (List.mem_range.2 hjl)
   rw [Bool.or_eq_true,decide_eq_true_eq]at h3
   have h4:=List.all_eq_true.1 (h3.resolve_left (by omega)) c (List.mem_range.2 (by omega))
   have h5:=Wm (Qh hA hdn j c (.inr hj) h4)
   rw [hu]at h5;cases h5
 subst hjc
 have hg:oc.guard=none:=by
  have :=List.all_eq_true.1 hng _ (List.mem_of_getElem? hoc)
  simpa using this
 unfold wpOp
 rw [List.getElem?_toArray,hoc]
 simp only
 rw [if_pos (by simp [Region.wanted,hg]),hset]
 exact .inl h
end
section
variable {P:Program} {τ:Ty} {lo:Nat} {w0:Fz} {st:St} {a:Act} {w:World}
def zGj (npA npB:Bool)(ops:List Oper)(c:Nat):Bool:=
 QU npA (ops.take c) (ZJ (ops.take c))&&(XK ops (ZJ ops)&&(wn npB ops&&(decide (c<ops.length)&&(uv ops (ZJ ops) c&&(uv ops (ZJ ops) (c+1)&&(Ww ops&&(Wk ops&&Ye ops (ops.drop (c+1)).length (c+1) (xk ops.length (Array.replicate (c+1) true)))))))))
theorem JI (npA npB:Bool)(c:Nat)(XA:Oper→St→(Dl→Prop)→Prop)(tA:List Nat)(hXA: ∀o st K,XA o st K→∃δ,qv P npA τ o st δ∧K δ)(X:Oper→(St→Prop)→St→Prop)
  (hX: ∀(lo:Nat) (w0:Fz) (st:St) (a:Act) (w:World) (o:Oper) (K:St→Prop) (Q:Exit→Act→World→Prop) (K':Act→World→Prop),(∀k,o.dst=some k→k<a.tmps.size)→Rel τ lo w0 st a w→X o K st→(∀st' x w',K st'→Rel τ lo w0 st' (a.put o.dst x) w'→K' (a.put o.dst x) w')→o.wp P a w K' Q)
  (hτ:yH P τ) (hpos:yb τ) (hmix:P.follows .mixedOrders=true) {Q:Exit→St→Prop} {id:Nat} {ops:List Oper} (hs:zGj npA npB ops c=true) (hd:xG st.n ops=true) {oc:Oper} (hoc:ops[c]? =some oc)
  (h: ∀EA:List Rec→St→Prop,(∀cs st1,chk (ops.take c) (ZJ (ops.take c)) cs=true→xG st1.n ops=true→X oc (fun st2=> ∀EB:List Rec→St→Prop,(∀cs st3,chk ops (ZJ ops) cs=true→Q .normal st3→EB cs st3)→qc P npB τ ops EB (ops.drop (c+1)) (c+1) [] (st2.start npB (ops.drop (c+1)))) st1→EA cs st1)→
   Jy XA P npA τ tA (ops.take c) EA (ops.take c) 0 [] (st.start npA (ops.take c))):awp P τ (.region id ops.toArray true) Q st:=fun lo w0 a w hr=>by
 simp only [zGj,QU,Bool.and_eq_true,decide_eq_true_eq]at hs
 obtain⟨⟨a1,a2,a3⟩,b1,b2,hcl,c1,c2,hng,hlt,b3⟩:=hs
 have hn:a.tmps.size=st.n:=by obtain⟨ow,hd,bk,h⟩:=hr;exact h.size
 have hdr:Rel τ lo w0 st a {w with drawn:=w.drawn+1}:=by
  obtain⟨ow,hd,bk,h⟩:=hr
  exact⟨ow,hd,bk,kT h⟩
 have hr':=XI (np:=npA) hdr (ops.take c)
 refine wp_region_any hmix ?_
 have htake:(ops.take c).length=c:=by rw [List.length_take];omega
 have hdsub: ∀(l:List Oper),(∀o∈l,o∈ops)→∀m,xG m ops=true→xG m l=true:=fun l hl m hm=>List.all_eq_true.2 fun o ho=>List.all_eq_true.1 hm o (hl o ho)
 -- the first part
 have hlex:=(uI hXA (A:=ZJ (ops.take c)) (Q:=fun st1=>xG st1.n ops=true∧X oc (fun st2=> ∀EB:List Rec→St→Prop,(∀cs st3,chk ops (ZJ ops) cs=true→Q .normal st3→EB cs st3)→qc P npB τ ops EB (ops.drop (c+1)) (c+1) [] (st2.start npB (ops.drop (c+1)))) st1) (ops.take c) 0 [] _ (h _ fun cs st h1 h2 h3=>⟨h1,h2,h3⟩)).2
 have hany:=Qe (fun st st' he ⟨s,h1,h2⟩=>⟨s,he.symm.trans h1,h2⟩) a1 (ops.take c) 0 [] (Array.replicate (ops.take c).length false) _ (by simp) (fun j o _ hj=>by
  rw [Array.getD_eq_getD_getElem?,Array.getElem?_replicate]at hj
  split at hj<;>simp at hj) a3 hlex
 have hfirst:=YQ (Q':=JB P ops (fun e a' w'=> ∃st',Rel τ lo w0 st' a' w'∧Q e st') (ops.length - c) (xk ops.length (Array.replicate c true))) hτ hpos a2 (fun st1 a1 w1 hq hr1=>by
   obtain⟨s,he,hds,hx⟩:=hq
   have hrs:Rel τ lo w0 s a1 w1:=xl hr1 he.cov
   show wpAny P .any ops.toArray _ (ops.length - c) _ a1 w1
   rw [show ops.length - c=(ops.length - c - 1)+1 from by omega]
   refine zE5 b1 c2 hng hlt hoc ?_
   have hna:a1.tmps.size=s.n:=by obtain⟨ow,hd,bk,h⟩:=hrs;exact h.size
   have hdo: ∀k,oc.dst=some k→k<a1.tmps.size:=fun k hk=>by
    have :=List.all_eq_true.1 hds oc (List.mem_of_getElem? hoc)
    rw [hk]at this
    rw [hna]
    simpa using this
   refine hX lo w0 s a1 w1 oc _ _ _ hdo hrs hx fun st2 x w2 hK hr2=> ?_
   have hr2':=XI (np:=npB) hr2 (ops.drop (c+1))
   have hB:=hK (fun cs st=>chk ops (ZJ ops) cs=true∧Q .normal st) fun cs st h1 h2=>⟨h1,h2⟩
   rw [jq (fun cs=>chk ops (ZJ ops) cs=true) (Q .normal)]at hB
   have hlexB:=(WG (ops.drop (c+1)) (c+1) [] _ _ (Eqv.refl _) hB).2
   have hlf: ∀i,i<c+1→(xk ops.length (Array.replicate (c+1) true)).getD i false=true:=fun i hi=>by
    rw [Yo,Array.getD_eq_getD_getElem?,Array.getElem?_replicate,if_pos hi];rfl
   have hanyB:=Qe (fun st st' he ⟨s,h1,h2⟩=>⟨s,he.symm.trans h1,h2⟩) b1 (ops.drop (c+1)) (c+1) [] (xk ops.length (Array.replicate (c+1) true)) _ (fun j=>by rw [List.getElem?_drop]) (fun j o ho hj e he hb=>by
    rw [Yo,Array.getD_eq_getD_getElem?,Array.getElem?_replicate]at hj
    split at hj
    ·have :=Wj hlt ho he hb
     exact hlf _ (by omega)
    ·simp at hj) b3 hlexB
   have hlast:=YQ (Q':=fun e a' w'=> ∃st',Rel τ lo w0 st' a' w'∧Q e st') hτ hpos b2 (fun st' a w ⟨s,he,hq⟩ hr=>⟨s,xl hr he.cov,hq⟩) (ops.drop (c+1)).length [] (xk ops.length (Array.replicate (c+1) true)) (st2.start npB (ops.drop (c+1))) (a1.put oc.dst x) w2 (by rw [xV,hna];exact hds) (fun j o ho hj hm=>by
    have hjc:c+1≤j:=by
     rcases Nat.lt_or_ge j (c+1)with h1|h1
     ·have :=Wm (hlf j h1)
      rw [hj]at this;cases this
     ·exact h1
    exact Yb (j:=j - (c+1)) (by rw [List.getElem?_drop,show c+1+(j - (c+1))=j from by omega];exact ho) hm) (fun e=>by unfold St.start;rw [if_pos e];exact Vs _) hr2' hanyB
   rw [show ops.length - c - 1=(ops.drop (c+1)).length from by rw [List.length_drop];omega]
   exact hlast) (ops.take c).length [] (Array.replicate (ops.take c).length false) (st.start npA (ops.take c)) a {w with drawn:=w.drawn+1} (by rw [hn];exact hdsub _ (fun o ho=>List.mem_of_mem_take ho) _ hd) (fun j o ho _ hm=>Yb ho hm) (fun e=>by unfold St.start;rw [if_pos e];exact Vs _) hr' hany
 have hpart:=zDT (P:=P) (Q':=fun e a' w'=> ∃st',Rel τ lo w0 st' a' w'∧Q e st') b1 (by omega) c1 hng hlt (f2:=ops.length - c) c (Array.replicate c false) a {w with drawn:=w.drawn+1} (by simp) (fun k o ho hk=>by
  rw [Yo,Array.getD_eq_getD_getElem?,Array.getElem?_replicate]at hk
  split at hk<;>simp at hk) (by rw [htake]at hfirst;exact hfirst)
 rw [show c+(ops.length - c)=ops.length from by omega]at hpart
 have hrep:xk ops.length (Array.replicate c false)=Array.replicate ops.toArray.size false:=by
  unfold xk
  refine Array.ext_getElem? fun j=> ?_
  rw [Array.getElem?_append]
  simp only [Array.size_replicate,Array.getElem?_replicate,List.size_toArray]
  repeat' split
  all_goals first|rfl|omega
 rw [hrep]at hpart
 simpa using hpart
variable {np:Bool} {ow:Nat→Option Pl} {hd:Nat→Value} {bk:Nat→Nat} {st':St}
def zAe :AV→Bool
 | .fn _ _=>false
 | .bp _ _=>false
 |_=>true
theorem zCc {e1:TypeId}{t:TypeId}{v:AV}(hp:zAe v=true)(h:AgV st st' v):Ze τ e1 st' t v=Ze τ e1 st t v:=by
 cases v<;>simp only [Ze]<;>first|(cases hp;done)|skip
 all_goals first
  |(rw [jg h];done)
  |(
   rename_i d p i
   simp only [wJ]
   have :=h.1 d (by simp [AV.nm])
   cases p with
   |cons _ _=>rfl
   |nil=>cases i with
    |succ _=>rfl
    |zero=>simp only [this])
theorem zDp {e1:TypeId}{v:AV}(h:AgV st st' v)(hb: ∀T i cs,v= .bp T i→lk st.b T=some cs→AgV st st' (.agg cs)):wJ τ e1 st' v=wJ τ e1 st v:=by
 cases v<;>simp only [wJ]
 ·rename_i d p i
  have :=h.1 d (by simp [AV.nm])
  cases p with
  |cons _ _=>rfl
  |nil=>cases i with
   |succ _=>rfl
   |zero=>simp only [this]
 ·rename_i T i
  have h2:=h.2 T (by simp [AV.nm])
  cases i with
  |succ _=>rfl
  |zero=>
   simp only [h2]
   cases hx:lk st.b T with
   |none=>rfl
   |some cs=>simp only [ZO (hb T 0 cs rfl hx)]
theorem zFN {e1:TypeId}{t:TypeId}{v:AV}(hf:(match v with| .fn _ _=>false|_=>true)=true)(h:AgV st st' v)(hb: ∀T i cs,v= .bp T i→lk st.b T=some cs→AgV st st' (.agg cs)):Ze τ e1 st' t v=Ze τ e1 st t v:=by
 cases v<;>simp only [Ze]<;>first|(cases hf;done)|skip
 all_goals first
  |(rw [jg h];done)
  |(rw [zDp h hb])
theorem Kc {e1:TypeId}: ∀{vs:List AV} {ts:List TypeId},(∀v∈vs,∀t,Ze τ e1 st' t v=Ze τ e1 st t v)→wI τ e1 st' ts vs=wI τ e1 st ts vs
 | [],ts,_=>rfl
 |v::vs,ts,h=>by
  simp only [wI]
  rw [h v List.mem_cons_self,Kc (vs:=vs) fun u hu=>h u (List.mem_cons_of_mem _ hu)]
def KX (P:Program)(τ:Ty)(e1:TypeId)(o:Oper)(st:St)(K:Dl→Prop):Prop:=
 match mkF o with
 |some (f,caps)=>K ⟨.fn f (caps.map (ev st)),[],[],[]⟩
 |none=>
  match yI o with
  |some _=>False
  |none=>
   match wh st o with
   |some (f,vs,ts)=>
    match wI τ e1 st ts vs with
    |some (as9,ob)=>vs.all (fun v=>match v with| .fn _ _=>false|_=>true)=true∧((vs.take (vs.length - (qy o st).length)).all zAe=true)∧ob∧∃k n,FnX P τ f as9 [.c (.int k n)]∧K ⟨.int k n,[],[],[]⟩
    |none=>False
   |none=>False
theorem zFR {o:Oper}{f:FuncId}{vs:List AV}{ts:List TypeId}(hc:wh st o=some (f,vs,ts)): ∃(args:List Operand),vs=args.map (ev st)++qy o st∧(∀x∈args,x∈qu o.op):=by
 unfold wh at hc
 unfold qy
 cases ho:o.op with
 |call c=>
  rw [ho]at hc
  obtain⟨callee,args,ats⟩:=c
  cases callee with
  |value x=>
   simp only at hc⊢
   split at hc
   ·rename_i f' us hx
    cases hc
    rw [hx]
    exact⟨args.toList,rfl,fun y hy=>by simp [qu,Op.operands,Call.operands];exact .inr (by simpa using hy)⟩
   ·cases hc
  |_=>simp at hc
 |_=>rw [ho]at hc;simp at hc
theorem zG1 {o:Oper}(h:xq o st st'):wh st' o=wh st o:=by
 have he:=h.e
 unfold wh
 cases ho:o.op with
 |call c=>
  rw [ho]at he
  obtain⟨callee,args,ats⟩:=c
  cases callee with
  |value x=>
   simp only
   rw [he x (by simp [Op.operands,Call.operands]),List.map_congr_left fun y hy=>he y (by simp [Op.operands,Call.operands];exact .inr (by simpa using hy))]
  |_=>rfl
 |_=>rfl
theorem kZ {e1:TypeId}(h1:sz τ e1=1){o:Oper}{K:Dl→Prop}(h:KX P τ e1 o st K): ∃δ,qv P np τ o st δ∧K δ:=by
 unfold KX at h
 cases hm:mkF o with
 |some y=>
  obtain⟨f,caps⟩:=y
  rw [hm]at h
  have hops: ∀x∈caps,x∈qu o.op:=fun x hx=>by
   unfold mkF at hm
   split at hm
   ·rename_i f' first caps' ho
    split at hm
    ·cases hm
     rw [ho]
     simp only [qu,Op.operands,Array.toList_append,List.mem_append]
     exact .inr hx
    ·cases hm
   ·cases hm
  refine⟨_, .inl ⟨trivial,trivial, .inr ⟨f,caps,rfl,hops⟩,rfl,rfl, .inl rfl,fun st' hag hpf lo w0 a w Q K' hdn hrel hK'=> ?_⟩,h⟩
  obtain⟨ow,hd,bk,hr⟩:=hrel
  obtain⟨z,hz,hv⟩:=uJ (P:=P) hr hm
  rw [List.map_congr_left fun x hx=>hag.e x (XX (hops x hx))]at hv
  exact Ut hdn ⟨z,w,ow,hd,bk, .inl hz,hr,hv⟩ (wA _) hK'
 |none=>
  rw [hm]at h
  simp only at h
  cases hc:yI o with
  |some _=>rw [hc]at h;exact h.elim
  |none=>
   rw [hc]at h
   simp only at h
   cases hx:wh st o with
   |none=>rw [hx]at h;exact h.elim
   |some y=>
    obtain⟨f,vs,ts⟩:=y
    rw [hx]at h
    simp only at h
    cases ha:wI τ e1 st ts vs with
    |none=>rw [ha]at h;exact h.elim
    |some z=>
     obtain⟨as9,ob⟩:=z
     rw [ha]at h
     obtain⟨hnf,hpl,hob,k,n,hF,hK⟩:=h
     obtain⟨args,hvs,hargs⟩:=zFR hx
     refine⟨_, .inl ⟨trivial,trivial, .inl ⟨k,n,rfl⟩,rfl,rfl, .inl rfl,fun st' hag hpf lo w0 a w Q K' hdn hrel hK'=> ?_⟩,hK⟩
     have hax:wI τ e1 st' ts vs=some (as9,ob):=by
      rw [←ha]
      refine Kc fun v hv t=> ?_
      have hnfv:=List.all_eq_true.1 hnf v hv
      rw [hvs,List.mem_append]at hv
      rcases hv with hv|hv
      ·refine zCc ?_ ?_
       ·refine List.all_eq_true.1 hpl v ?_
        rw [hvs,List.length_append,Nat.add_sub_cancel,List.take_append_of_le_length (Nat.le_refl _),List.take_length]
        exact hv
       ·obtain⟨x,hx1,rfl⟩:=List.mem_map.1 hv
        exact hag.v (hargs x hx1)
      ·refine zFN hnfv ?_ fun T i cs e hcs=> ?_
       ·obtain⟨x,hx1,f2,us,he,hu⟩:=Kg hv
        have h2:=hag.v hx1
        rw [he]at h2
        exact⟨fun d hd=>h2.1 d (by simp only [AV.nm];exact yP.2 ⟨v,hu,hd⟩),fun t ht=>h2.2 t (by simp only [AV.nm];exact yP.2 ⟨v,hu,ht⟩)⟩
       ·subst e
        exact hag.cap hc hv hcs
     have hcall:QD P τ e1 o (fun s=>s=st'.put o.dst (.int k n)) st':=by
      unfold QD
      rw [zG1 hag,hx]
      simp only
      rw [hax]
      exact⟨hob,_,hF,by simp [szL,zt,VT.cells],rfl⟩
     exact Vj h1 hdn hrel hcall fun s x w' hs hr=>hK' x w' (xl (by rw [hs]at hr;exact hr) (wA _))
def St.cutI (ids:List Nat)(st:St):St:={st with s:=vJ (AV.cut ids) st.s,b:=vJ (AV.cutL ids) st.b}
theorem Jn {ids:List Nat}(t:Nat)(hl: ∃cs,lk (st.cutI ids).b t=some cs): ∃cs,lk st.b t=some cs:=by
 obtain⟨cs,hcs⟩:=hl
 simp only [St.cutI,zy]at hcs
 cases hx:lk st.b t with
 |none=>rw [hx]at hcs;cases hcs
 |some u=>exact⟨u,rfl⟩
theorem zDa (h:zg τ lo w0 ow hd bk st a w)(ids:List Nat):zg τ lo w0 ow hd bk (st.cutI ids) a w:=by
 refine⟨h.big,h.defers,h.size,h.low,h.below,h.ge,h.new,fun k v hv'=> ?_,h.root,fun t vs hv'=> ?_,h.pin⟩
 ·simp only [St.cutI,zy]at hv'
  cases hx:lk st.s k with
  |none=>rw [hx]at hv';cases hv'
  |some u=>rw [hx]at hv';cases hv';exact XM (fun t=>Jn t) u _ (h.slot k u hx)
 ·simp only [St.cutI,zy]at hv'
  cases hx:lk st.b t with
  |none=>rw [hx]at hv';cases hv'
  |some u=>
   rw [hx]at hv';cases hv'
   obtain⟨cs,ty,h1,h2,h3⟩:=h.box t u hx
   exact⟨cs,ty,h1,h2,vS (fun t=>Jn t) u cs h3⟩
theorem zCk {ids:List Nat}{d:Nat}(hd:d∈ids):Zo d (st.cutI ids):=by
 have hc:ids.contains d=true:=by simpa using hd
 refine⟨fun k v hv hm=> ?_,fun k cs hcs hm=> ?_⟩
 ·simp only [St.cutI,zy]at hv
  cases hx:lk st.s k with
  |none=>rw [hx]at hv;cases hv
  |some u=>rw [hx]at hv;cases hv;rw [Ur u d hm]at hc;cases hc
 ·simp only [St.cutI,zy]at hcs
  cases hx:lk st.b k with
  |none=>rw [hx]at hcs;cases hcs
  |some u=>rw [hx]at hcs;cases hcs;rw [Yc u d hm]at hc;cases hc
theorem WF {ids:List Nat}{vs:List AV}{outs:List Out}: ∀{own:List Nat},qJ τ (st.cutI ids) vs outs own=qJ τ st vs outs own
 | []=>rfl
 |id::own=>by
  have ih:=WF (ids:=ids) (vs:=vs) (outs:=outs) (own:=own)
  simp only [qJ,ih]
  rfl
def QC (P:Program)(τ:Ty)(own:List Nat)(outs:List Out)(o:Oper)(K:St→Prop)(st:St):Prop:=
 match yI o with
 |some (f,args,ts)=>
  match yo τ st ts.toList (args.toList.map (ev st)),qJ τ st (args.toList.map (ev st)) outs own with
  |some (as9,ob),some (ls,ob2)=>apart (ZW own 0 (args.toList.map (ev st))) ls=true∧YG own=true∧few as9=true∧ob∧ob2∧qq ls∧
    ∃ress,FnG P τ f as9 own outs ress∧szL τ (zt ress)∧(zt ress).length≤1000000∧K ((yd (zu o) 0 (zt ress) (qn (st.cutI (ls.map (·.d))) ls)).put o.dst (qU (xM τ (zu o) 0 ress)))
  |_,_=>False
 |none=>False
theorem VS {own:List Nat}{outs:List Out}{o:Oper}{K:St→Prop}{Q:Exit→Act→World→Prop}{K':Act→World→Prop}(hd: ∀k,o.dst=some k→k<a.tmps.size)(h:Rel τ lo w0 st a w)(ha:QC P τ own outs o K st)
  (hK: ∀st' x w',K st'→Rel τ lo w0 st' (a.put o.dst x) w'→K' (a.put o.dst x) w'):o.wp P a w K' Q:=by
 obtain⟨ow,hd',bk,hr⟩:=h
 unfold QC at ha
 split at ha
 ·rename_i f args ts hc
  split at ha
  ·rename_i as9 ob ls ob2 hargs hlends
   obtain⟨hap,hnd,hfew,hob,hob2,hsep,ress,⟨hcl,hcall⟩,hsz,hfl,hK1⟩:=ha
   have hev:zZ τ w st.r st.b hd' bk (args.toList.map (ev st)) (args.toList.map a.eval):=zn.2 ⟨by simp,fun i v x hv hx=>by
    rw [List.getElem?_map]at hv hx
    cases hk:args.toList[i]? with
    |none=>rw [hk]at hv;cases hv
    |some p=>rw [hk]at hv hx;cases hv;cases hx;exact zi hr p⟩
   have hA:=JG hr hev hargs hob hlends hob2 hsep hap hfew
   have hC:=hcall lo w (yl ow ls) _ hr.low (fun b p hb=>by
    obtain⟨d,q,ho,x,hx,-,q',-,hp⟩:=qT hb
    have hlt:b<w.heap.size:=by
     rcases Nat.lt_or_ge b w.heap.size with h'|h'
     ·exact h'
     ·rw [hr.new b h']at ho;cases ho
    exact⟨hlt,(hr.ge b _ hlt ho (by simp)).1,_,_,hp⟩) hA
   unfold Oper.wp
   rw [YS hr hc hcl]
   simp only [Oper.upon]
   refine hC.mono fun e w' hpost=> ?_
   have hev2:zZ τ w (st.cutI (ls.map (·.d))).r (st.cutI (ls.map (·.d))).b hd' bk (args.toList.map (ev st)) (args.toList.map a.eval):=by
    have :=yG (τ:=τ) (w:=w) (w':=w) (rr:=st.r) (rr':=st.r) (bb:=st.b) (bb':=(st.cutI (ls.map (·.d))).b) (hd:=hd') (hd':=hd') (bk:=bk) (bk':=bk) (ds:=noB) (bs:=noB) (fun d _ R hR=>⟨R,hR,rfl,fun p hp=>⟨hp,rfl⟩⟩) (fun t _ hl=>⟨Jn t hl,rfl⟩) _ _ hev
    rwa [xB]at this
   obtain⟨z,ow',hd2,he,r1,r2⟩:=zAf (zDa hr (ls.map (·.d))) hev2 (fun d ⟨x,hx,e⟩=>zCk (List.mem_map.2 ⟨x,hx,e⟩)) (by rw [WF];exact hlends) hob2 hsep (wc hnd) (t:=zu o) hsz hfl hpost
   subst he
   exact hK _ z w' hK1 (xf r1 hd r2)
  ·exact ha.elim
 ·exact ha.elim
def QE (P:Program)(τ:Ty)(al:List Nat)(t:Nat)(own:List Nat)(outs:List Out)(all:List Oper)(K:St→Prop):List Oper→St→Prop
 | [],st=>K st
 |o::os,st=>
  match o.guard with
  |none=>if o.dst=some t then QC P τ own outs o (QE P τ al t own outs all K os) st else aop P τ al o (QE P τ al t own outs all K os) st
  |some (j,want)=>False
theorem Yn (hτ:yH P τ)(hpos:yb τ){al:List Nat}{t:Nat}{own:List Nat}{outs:List Out}{all:List Oper}{K:St→Prop}{Q:Exit→Act→World→Prop}(hQ: ∀st a w,K st→Rel τ lo w0 st a w→Q .normal a w):
  ∀(os:List Oper) (st:St) (a:Act) (w:World),xG a.tmps.size os=true→Rel τ lo w0 st a w→QE P τ al t own outs all K os st→wpList P all.toArray Q os a w
 | [],st,a,w,_,h,ha=>wpList_nil (hQ st a w ha h)
 |o::os,st,a,w,hd,h,ha=>by
  have hd1: ∀k,o.dst=some k→k<a.tmps.size:=fun k hk=>by
   have :=List.all_eq_true.1 hd o (by simp)
   rw [hk]at this
   simpa using this
  have hd2:xG a.tmps.size os=true:=List.all_eq_true.2 fun x hx=>List.all_eq_true.1 hd x (by simp [hx])
  refine wpList_step fun K' hK'=> ?_
  simp only [QE]at ha
  split at ha
  ·rename_i hg
   rw [if_pos (by simp [Region.wanted,hg])]
   split at ha
   ·exact VS hd1 h ha fun st' x w' h1 h2=>hK' _ _ (Yn hτ hpos hQ os st' _ w' (by rw [xV];exact hd2) h2 h1)
   ·exact wt hτ hpos hd1 h ha fun st' x w' h1 h2=>hK' _ _ (Yn hτ hpos hQ os st' _ w' (by rw [xV];exact hd2) h2 h1)
  ·exact ha.elim
theorem Uf {Q:Exit→St→Prop}(t:Nat)(own:List Nat)(outs:List Out)(hτ:yH P τ)(hpos:yb τ)(al:List Nat){id:Nat}{ops:List Oper}(hd:xG st.n ops=true)(h:QE P τ al t own outs ops (Q .normal) ops st):awp P τ (.region id ops.toArray false) Q st:=fun lo w0 a w hr=>by
 have hn:a.tmps.size=st.n:=by obtain⟨ow,hd,bk,h⟩:=hr;exact h.size
 refine wp_region_lit (Yn hτ hpos (fun st a w h1 h2=>⟨st,h2,h1⟩) ops st a w (by rw [hn];exact hd) hr h)
end
attribute [push_cast] St.cutI QC QE qn KX zAe wh wI Ze wJ YA mkF
open Nat renaming reduceMod → zA, reduceMul → zB, reduceDiv → zC, reduceAdd → zD, reduceSub → zE, reduceEqDiff → zF, reduceBEq → zG, reduceLT → zH, reduceLeDiff → zI
theorem zGC {us rc:Plc→List Int}{p0:Plc}{n:Nat}(h:n≤(stQ us rc p0 n).length): ∀j,j<n→j<(stQ us rc p0 j).length:=fun j hj=>by
 rcases Nat.lt_or_ge j (stQ us rc p0 j).length with h1|h1
 ·exact h1
 ·have :=VN (us:=us) (rc:=rc) (p0:=p0) (i:=j) (by omega) (j:=n) (by omega)
  rw [this]at h
  omega
theorem zHW {a:Ar}{rc:Plc→List Int}{p0:Plc}{V:List Int→Prop}{B:Nat}(ha:yC a=true)(h:QZ a rc p0 V B){n:Nat}(hall: ∀j,j<n→j<(stQ (usA a) rc p0 j).length): ∀r∈nxG a rc p0 n,r.length≤16:=fun r hr=>by
 unfold nxG at hr
 obtain⟨j,hj,rfl⟩:=List.mem_map.1 hr
 have hj:=hall j (List.mem_range.1 hj)
 have hp:=wd ha h j _ (vx hj)
 have h2:=(JC ha ⟨hp.1,hp.2.1⟩).2.1
 unfold nxQ
 rw [xZ]
 have h3:=(qL (r:=rc (gq (stQ (usA a) rc p0 j) j)) (us:=usA a (gq (stQ (usA a) rc p0 j) j)) (ps:=stQ (usA a) rc p0 j) (Nat.le_refl _)).1
 show(zr _ _ _ _).2.length≤_
 rw [h3]
 omega
set_option maxRecDepth 20000 in
set_option maxHeartbeats 16000000 in
theorem kH (a:Ar)(ha:a.Ln 1048576)(f:Fm)(hf:f.Ln 1048576)(s:Int)(hPre:yC a=true∧QZ a rcF ⟨s,f.names⟩ (fun r=>vh f r=true) 4)(K0:AV→List AV→List (Nat×zo)→Prop)(hKA:okQ (usA a) rcF ⟨s,f.names⟩=false→K0 (.tup [.agg [.sl 128 [] 0 0 2, .sl 129 [] 0 0 27, .sl 130 [] 0 0 2], .sl 144 [] 0 0 72, .bool false]) [.sl 96 [] 0 0 2, .sl 97 [] 0 0 27, .sl 98 [] 0 0 2] [(128,⟨.ex,2,[],none⟩),(129,⟨.ex,27,[],none⟩),(130,⟨.ex,2,[],none⟩),(144,⟨.ex,72,[],none⟩)])(hKB: ∀i,i≤256→¬i<(stQ (usA a) rcF ⟨s,f.names⟩ i).length→i≤(stQ (usA a) rcF ⟨s,f.names⟩ i).length→K0 (.tup [.agg [.sl 128 [] 0 i 2, .sl 129 [] 0 i 27, .sl 130 [] 0 i 2], .sl 144 [] 0 (stQ (usA a) rcF ⟨s,f.names⟩ i).length 72, .bool true]) [.sl 96 [] 0 0 2, .sl 97 [] 0 0 27, .sl 98 [] 0 0 2] [(128,⟨.ex,2,dI (qK a rcF ⟨s,f.names⟩ i),none⟩),(129,⟨.ex,27,dII (nxG a rcF ⟨s,f.names⟩ i),none⟩),(130,⟨.ex,2,dI (prG a rcF (prF f) ⟨s,f.names⟩ i),none⟩),(144,⟨.ex,72,yz (stQ (usA a) rcF ⟨s,f.names⟩ i),none⟩)]):awp Try.prog tyT (Try.f58.body.getD .skip) (RetI tyT [.cell 8 36, .tmp 9, .tmp 10] K0) ⟨89,[(0, .agg [.sl 0 [] 0 a.owner.length 2, .sl 1 [] 0 a.next.length 27]),(1, .agg [.int .i64 s, .sl 496 [] 0 f.names.length 2]),(2, .fn 59 [.bp 4 0]),(3, .fn 61 [.bp 4 0])],[(1000000,[.sl 96 [] 0 0 2, .sl 97 [] 0 0 27, .sl 98 [] 0 0 2]),(4,[.sl 16 [] 0 f.names.length 2, .sl 17 [] 0 f.sets.length 27])],[(0,⟨.sh,2,dI a.owner,none⟩),(1,⟨.sh,27,dII a.next,none⟩),(16,⟨.sh,2,dI f.names,none⟩),(17,⟨.sh,27,dII f.sets,none⟩),(496,⟨.ex,2,dI f.names,none⟩)]⟩:=by
 have hno:=ha.owner
 have hnn:=ha.next.1
 have hrr: ∀v,(gl a.next v).length≤1048576:=fun v=>qt ha.next v
 unfold LnI at hno
 have h1:=hPre.1
 have h3:=hPre.2
 have hln:=yT h1
 refine zFQ 4 2000 rfl rfl ?_
 simp only [push_cast,↓zK,↓zJ,↓reduceIte,zA,zB,zC,zD,zE,zF,zG,zH,zI,reduceCtorEq]
 refine zIn rfl ?_
 (try simp only [push_cast,↓zK,↓zJ,↓reduceIte,zA,zB,zC,zD,zE,zF,zG,zH,zI,reduceCtorEq])
 refine zL fun K hK=> ?_
 refine zM zP zN [] rfl ?_
 all_goals simp only [push_cast,↓zK,↓zJ,↓reduceIte,zA,zB,zC,zD,zE,zF,zG,zH,zI,reduceCtorEq]
 all_goals repeat'(first|(apply zO<;>(intro hg;(try simp only [push_cast]at hg)))|apply And.intro|(intro hg;(try simp only [push_cast]at hg)))
 all_goals first|exact gA|(exact zW (by omega))|skip
 all_goals first|(refine hK _ ?_;clear hK K)|(simp only [push_cast];done)
 refine zL fun K hK=> ?_
 refine zd false zP zN ?_ rfl ?_
 ·kernel_rfl
 simp only [push_cast,↓zK,↓zJ,↓reduceIte,zA,zB,zC,zD,zE,zF,zG,zH,zI,reduceCtorEq]
 all_goals repeat'(first|(apply zO<;>(intro hg;(try simp only [push_cast]at hg)))|apply And.intro|(intro hg;(try simp only [push_cast]at hg)))
 all_goals first|exact gA|(exact zW (by omega))|skip
 all_goals first|(refine hK _ ?_;clear hK K)|(simp only [push_cast];done)
 refine zL fun K hK=> ?_
 refine zM zP zN [] rfl ?_
 all_goals simp only [push_cast,↓zK,↓zJ,↓reduceIte,zA,zB,zC,zD,zE,zF,zG,zH,zI,reduceCtorEq]
 all_goals repeat'(first|(apply zO<;>(intro hg;(try simp only [push_cast]at hg)))|apply And.intro|(intro hg;(try simp only [push_cast]at hg)))
 all_goals first|exact gA|(exact zW (by omega))|skip
 all_goals first|(refine hK _ ?_;clear hK K)|(simp only [push_cast];done)
 refine zL fun K1 hK1=> ?_
 refine qb 72 11 (Nat.le_of_ble_eq_true rfl) ?_
 simp only [push_cast,↓zK,↓zJ,↓reduceIte,zA,zB,zC,zD,zE,zF,zG,zH,zI,reduceCtorEq]
 refine zL fun K hK=> ?_
 refine zM zP zN [] rfl ?_
 all_goals simp only [push_cast,↓zK,↓zJ,↓reduceIte,zA,zB,zC,zD,zE,zF,zG,zH,zI,reduceCtorEq]
 all_goals repeat'(first|(apply zO<;>(intro hg;(try simp only [push_cast]at hg)))|apply And.intro|(intro hg;(try simp only [push_cast]at hg)))
 all_goals first|exact gA|(exact zW (by omega))|skip
 all_goals first|(refine hK _ ?_;clear hK K)|(simp only [push_cast];done)
 refine zV ?_
 refine zh [9,10,11,12,13,14,15,16,18,19,23,24,25,26,27,28,29,30,31,32,33,34,35,36,37,38,39,40,41,42,43,44,45,46,47,48,49,50,51,52,53,54,55,56,57,58,59,60,61,62,63,64,65,66,67,68,69,70,71,72,73,74,75,76,77,78,79,80,81,82,83,84,85,86] [] (fun(i:Nat)=> [(13, .int .i64 i),(11, .sl 176 [] 0 (stQ (usA a) rcF ⟨s,f.names⟩ i).length 72),(12, .bp 12 0)]) (fun i=> [(12,[.sl 192 [] 0 i 2, .sl 193 [] 0 i 27, .sl 194 [] 0 i 2])]) (fun i=> [(176,⟨.ex,72,yz (stQ (usA a) rcF ⟨s,f.names⟩ i),none⟩),(192,⟨.ex,2,dI (qK a rcF ⟨s,f.names⟩ i),none⟩),(193,⟨.ex,27,dII (nxG a rcF ⟨s,f.names⟩ i),none⟩),(194,⟨.ex,2,dI (prG a rcF (prF f) ⟨s,f.names⟩ i),none⟩)]) (fun i=>i≤256∧i≤(stQ (usA a) rcF ⟨s,f.names⟩ i).length∧(stQ (usA a) rcF ⟨s,f.names⟩ i).length≤256) (fun i=>257 - i) 0 ?_ ⟨by omega,Nat.zero_le _,(by show 1≤256;decide)⟩ ?_
 ·
  rw [show stQ (usA a) rcF ⟨s,f.names⟩ 0= [⟨s,f.names⟩]from rfl,zEe,zGa,zGf]
  refine zY rfl ?_ ?_ ?_<;>simp only [zf,ze,push_cast,↓zK,↓zJ,↓reduceIte,zA,zB,zC,zD,zE,zF,zG,zH,zI,reduceCtorEq]
  all_goals first|rfl|exact⟨rfl,rfl,rfl,rfl⟩|skip
 ·rintro i ⟨hi,hil,hsl⟩ KL0 hL0
  have hall:=wd h1 h3 i
  have hq:QLn 1048576 (stQ (usA a) rcF ⟨s,f.names⟩ i):=⟨by omega,fun p hp=>by have :=h3.small _ (hall p hp).2.2;omega⟩
  have hgl:=fun k=>Wn hq k
  have ho1:=qp (a:=a) (rc:=rcF) (p0:=⟨s,f.names⟩) i
  have ho2:=QO (a:=a) (rc:=rcF) (p0:=⟨s,f.names⟩) i
  have ho3:=Yg (a:=a) (rc:=rcF) (pr:=(prF f)) (p0:=⟨s,f.names⟩) i
  simp only [push_cast,↓zK,↓zJ,↓reduceIte,zA,zB,zC,zD,zE,zF,zG,zH,zI,reduceCtorEq]
  refine zL fun K2 hK2=> ?_
  refine zL fun K hK=> ?_
  refine zM zP zN [] rfl ?_
  all_goals simp only [push_cast,↓zK,↓zJ,↓reduceIte,zA,zB,zC,zD,zE,zF,zG,zH,zI,reduceCtorEq]
  all_goals repeat'(first|(apply zO<;>(intro hg;(try simp only [push_cast]at hg)))|apply And.intro|(intro hg;(try simp only [push_cast]at hg)))
  all_goals first|exact gA|(exact zW (by omega))|skip
  all_goals first|(refine hK _ ?_;clear hK K)|(simp only [push_cast];done)
  refine zT rfl (fun hc=> ?_) (fun hc=> ?_)<;>(try simp only [push_cast]at hc)
  ·
   refine zU ?_
   (try simp only [zR,zS,reduceIte,zF]);refine hK2 _ ?_
   refine zL fun K3 hK3=> ?_
   refine zV ?_
   have hP:=hall _ (vx (k:=i) (by omega))
   have hU:1≤(gl a.next (gq (stQ (usA a) rcF ⟨s,f.names⟩ i) i).at_.toNat).length∧(gl a.next (gq (stQ (usA a) rcF ⟨s,f.names⟩ i) i).at_.toNat).length≤16∧∀u∈(gl a.next (gq (stQ (usA a) rcF ⟨s,f.names⟩ i) i).at_.toNat),0≤u∧u<(a.owner.length:Int):=JC h1 ⟨hP.1,hP.2.1⟩
   have hpl:=h3.small _ hP.2.2
   have hnl:(zv (gq (stQ (usA a) rcF ⟨s,f.names⟩ i) i).record (gq (stQ (usA a) rcF ⟨s,f.names⟩ i) i).at_).length≤4:=h3.small _ (h3.next _ hP.1 hP.2.1 hP.2.2)
   refine zL fun K hK=> ?_
   refine zM zP zN [] rfl ?_
   all_goals simp only [push_cast,↓zK,↓zJ,↓reduceIte,zA,zB,zC,zD,zE,zF,zG,zH,zI,reduceCtorEq]
   all_goals repeat'(first|(apply zO<;>(intro hg;(try simp only [push_cast]at hg)))|apply And.intro|(intro hg;(try simp only [push_cast]at hg)))
   all_goals first|exact gA|(exact zW (by omega))|skip
   all_goals first|(refine hK _ ?_;clear hK K)|(simp only [push_cast];done)
   refine zL fun K hK=> ?_
   refine vc 35 2 rfl zP zN [] rfl ?_
   simp only [push_cast,↓zK,↓zJ,↓reduceIte,zA,zB,zC,zD,zE,zF,zG,zH,zI,reduceCtorEq]
   repeat' apply And.intro
   all_goals(try simp only [push_cast,↓zK,↓zJ,↓reduceIte,zA,zB,zC,zD,zE,zF,zG,zH,zI,reduceCtorEq])
   all_goals repeat'(first|(apply zO<;>(intro hg;(try simp only [push_cast]at hg)))|(refine⟨_,jX f hf (gq (stQ (usA a) rcF ⟨s,f.names⟩ i) i) (by omega) hP.2.2,?_⟩;simp only [push_cast,↓zK,↓zJ,↓reduceIte,zA,zB,zC,zD,zE,zF,zG,zH,zI,reduceCtorEq])|apply And.intro|(intro hg;(try simp only [push_cast]at hg)))
   all_goals first|exact gA|(exact zW (by omega))|skip
   all_goals first|(refine hK _ ?_;clear hK K)|(simp only [push_cast];done)
   refine zL fun K hK=> ?_
   refine zM zP zN [] rfl ?_
   all_goals simp only [push_cast,↓zK,↓zJ,↓reduceIte,zA,zB,zC,zD,zE,zF,zG,zH,zI,reduceCtorEq]
   all_goals repeat'(first|(apply zO<;>(intro hg;(try simp only [push_cast]at hg)))|apply And.intro|(intro hg;(try simp only [push_cast]at hg)))
   all_goals first|exact gA|(exact zW (by omega))|skip
   all_goals first|(refine hK _ ?_;clear hK K)|(simp only [push_cast];done)
   refine zL fun K4 hK4=> ?_
   refine zL fun K hK=> ?_
   refine zM zP zN [] rfl ?_
   all_goals simp only [push_cast,↓zK,↓zJ,↓reduceIte,zA,zB,zC,zD,zE,zF,zG,zH,zI,reduceCtorEq]
   all_goals repeat'(first|(apply zO<;>(intro hg;(try simp only [push_cast]at hg)))|apply And.intro|(intro hg;(try simp only [push_cast]at hg)))
   all_goals first|exact gA|(exact zW (by omega))|skip
   all_goals first|(refine hK _ ?_;clear hK K)|(simp only [push_cast];done)
   refine zV ?_
   refine zh [11,14,16,18,19,24,29,31,32,33,34,44,45,46,47,48,49,50,51,52,53,54,55,56,57,58,59,60,61,62,63,64,65,66,67,68] [256,224,225] (fun(k:Nat)=> [(44, .int .i64 k),(11, .sl 176 [] 0 (zr (zv (gq (stQ (usA a) rcF ⟨s,f.names⟩ i) i).record (gq (stQ (usA a) rcF ⟨s,f.names⟩ i) i).at_) (gl a.next (gq (stQ (usA a) rcF ⟨s,f.names⟩ i) i).at_.toNat) (stQ (usA a) rcF ⟨s,f.names⟩ i) k).1.length 72),(16, .sl 256 [] 0 k 2),(14, .bp 14 0)]) (fun k=> [(14,[.int .i64 (gq (stQ (usA a) rcF ⟨s,f.names⟩ i) i).at_, .sl 176 [i*2+1] 0 (gq (stQ (usA a) rcF ⟨s,f.names⟩ i) i).record.length 2])]) (fun k=> [(176,⟨.ex,72,yz (zr (zv (gq (stQ (usA a) rcF ⟨s,f.names⟩ i) i).record (gq (stQ (usA a) rcF ⟨s,f.names⟩ i) i).at_) (gl a.next (gq (stQ (usA a) rcF ⟨s,f.names⟩ i) i).at_.toNat) (stQ (usA a) rcF ⟨s,f.names⟩ i) k).1,none⟩),(256,⟨.ex,2,dI (zr (zv (gq (stQ (usA a) rcF ⟨s,f.names⟩ i) i).record (gq (stQ (usA a) rcF ⟨s,f.names⟩ i) i).at_) (gl a.next (gq (stQ (usA a) rcF ⟨s,f.names⟩ i) i).at_.toNat) (stQ (usA a) rcF ⟨s,f.names⟩ i) k).2,none⟩)]) (fun k=>k≤(gl a.next (gq (stQ (usA a) rcF ⟨s,f.names⟩ i) i).at_.toNat).length) (fun k=>(gl a.next (gq (stQ (usA a) rcF ⟨s,f.names⟩ i) i).at_.toNat).length - k) 0 ?_ (Nat.zero_le _) ?_
   ·
    rw [zAh]
    refine zY rfl ?_ ?_ ?_<;>simp only [zf,ze,push_cast,↓zK,↓zJ,↓reduceIte,zA,zB,zC,zD,zE,zF,zG,zH,zI,reduceCtorEq]
    all_goals first|rfl|skip
   ·rintro k hk KL1 hL1
    have hrl:=qL (r:=(zv (gq (stQ (usA a) rcF ⟨s,f.names⟩ i) i).record (gq (stQ (usA a) rcF ⟨s,f.names⟩ i) i).at_)) (us:=(gl a.next (gq (stQ (usA a) rcF ⟨s,f.names⟩ i) i).at_.toNat)) (ps:=(stQ (usA a) rcF ⟨s,f.names⟩ i)) (k:=k) hk
    have hQr:QLn 1048576 (zr (zv (gq (stQ (usA a) rcF ⟨s,f.names⟩ i) i).record (gq (stQ (usA a) rcF ⟨s,f.names⟩ i) i).at_) (gl a.next (gq (stQ (usA a) rcF ⟨s,f.names⟩ i) i).at_.toNat) (stQ (usA a) rcF ⟨s,f.names⟩ i) k).1:=⟨by omega,fun p hp=>by have :=h3.small _ (zEi h1 h3 (i:=i) (k:=k) (by omega) hk p hp).2.2;omega⟩
    have hx:=zEQ (yq (gi (gl a.next (gq (stQ (usA a) rcF ⟨s,f.names⟩ i) i).at_.toNat) k) (zv (gq (stQ (usA a) rcF ⟨s,f.names⟩ i) i).record (gq (stQ (usA a) rcF ⟨s,f.names⟩ i) i).at_)) (zr (zv (gq (stQ (usA a) rcF ⟨s,f.names⟩ i) i).record (gq (stQ (usA a) rcF ⟨s,f.names⟩ i) i).at_) (gl a.next (gq (stQ (usA a) rcF ⟨s,f.names⟩ i) i).at_.toNat) (stQ (usA a) rcF ⟨s,f.names⟩ i) k).1
    simp only [push_cast,↓zK,↓zJ,↓reduceIte,zA,zB,zC,zD,zE,zF,zG,zH,zI,reduceCtorEq]
    refine zL fun K hK=> ?_
    refine zM zP zN [] rfl ?_
    all_goals simp only [push_cast,↓zK,↓zJ,↓reduceIte,zA,zB,zC,zD,zE,zF,zG,zH,zI,reduceCtorEq]
    all_goals repeat'(first|(apply zO<;>(intro hg;(try simp only [push_cast]at hg)))|apply And.intro|(intro hg;(try simp only [push_cast]at hg)))
    all_goals first|exact gA|(exact zW (by omega))|skip
    all_goals first|(refine hK _ ?_;clear hK K)|(simp only [push_cast];done)
    refine zL fun K5 hK5=> ?_
    refine zT rfl (fun hc=> ?_) (fun hc=> ?_)<;>(try simp only [push_cast]at hc)
    ·
     refine zU ?_
     (try simp only [zR,zS,reduceIte,zF]);refine hK5 _ ?_
     refine zL fun K6 hK6=> ?_
     refine zV ?_
     refine zL fun K hK=> ?_
     refine zM zP zN [] rfl ?_
     all_goals simp only [push_cast,↓zK,↓zJ,↓reduceIte,zA,zB,zC,zD,zE,zF,zG,zH,zI,reduceCtorEq]
     all_goals repeat'(first|(apply zO<;>(intro hg;(try simp only [push_cast]at hg)))|apply And.intro|(intro hg;(try simp only [push_cast]at hg)))
     all_goals first|exact gA|(exact zW (by omega))|skip
     all_goals first|(refine hK _ ?_;clear hK K)|(simp only [push_cast];done)
     refine zL fun K hK=> ?_
     refine zM zP zN [] rfl ?_
     all_goals refine zx 4 fun K9 hK9=> ?_
     all_goals simp only [push_cast,↓zK,↓zJ,↓reduceIte,zA,zB,zC,zD,zE,zF,zG,zH,zI,reduceCtorEq]
     all_goals repeat'(first|(apply zO<;>(intro hg;(try simp only [push_cast]at hg)))|(refine⟨_,jJ (zr (zv (gq (stQ (usA a) rcF ⟨s,f.names⟩ i) i).record (gq (stQ (usA a) rcF ⟨s,f.names⟩ i) i).at_) (gl a.next (gq (stQ (usA a) rcF ⟨s,f.names⟩ i) i).at_.toNat) (stQ (usA a) rcF ⟨s,f.names⟩ i) k).1 hQr (gi (gl a.next (gq (stQ (usA a) rcF ⟨s,f.names⟩ i) i).at_.toNat) k) (zv (gq (stQ (usA a) rcF ⟨s,f.names⟩ i) i).record (gq (stQ (usA a) rcF ⟨s,f.names⟩ i) i).at_) (by omega),?_⟩;simp only [push_cast,↓zK,↓zJ,↓reduceIte,zA,zB,zC,zD,zE,zF,zG,zH,zI,reduceCtorEq])|apply And.intro|(intro hg;(try simp only [push_cast]at hg)))
     all_goals first|exact gA|(exact zW (by omega))|skip
     all_goals first|(refine hK9 _ ?_;clear hK9 K9)|(simp only [push_cast];done)
     all_goals simp only [push_cast,↓zK,↓zJ,↓reduceIte,zA,zB,zC,zD,zE,zF,zG,zH,zI,reduceCtorEq]
     all_goals repeat'(first|(apply zO<;>(intro hg;(try simp only [push_cast]at hg)))|(refine⟨_,jJ (zr (zv (gq (stQ (usA a) rcF ⟨s,f.names⟩ i) i).record (gq (stQ (usA a) rcF ⟨s,f.names⟩ i) i).at_) (gl a.next (gq (stQ (usA a) rcF ⟨s,f.names⟩ i) i).at_.toNat) (stQ (usA a) rcF ⟨s,f.names⟩ i) k).1 hQr (gi (gl a.next (gq (stQ (usA a) rcF ⟨s,f.names⟩ i) i).at_.toNat) k) (zv (gq (stQ (usA a) rcF ⟨s,f.names⟩ i) i).record (gq (stQ (usA a) rcF ⟨s,f.names⟩ i) i).at_) (by omega),?_⟩;simp only [push_cast,↓zK,↓zJ,↓reduceIte,zA,zB,zC,zD,zE,zF,zG,zH,zI,reduceCtorEq])|apply And.intro|(intro hg;(try simp only [push_cast]at hg)))
     all_goals first|exact gA|(exact zW (by omega))|skip
     all_goals first|(refine hK _ ?_;clear hK K)|(simp only [push_cast];done)
     refine zL fun K7 hK7=> ?_
     refine zL fun K hK=> ?_
     refine zM zP zN [] rfl ?_
     all_goals simp only [push_cast,↓zK,↓zJ,↓reduceIte,zA,zB,zC,zD,zE,zF,zG,zH,zI,reduceCtorEq]
     all_goals repeat'(first|(apply zO<;>(intro hg;(try simp only [push_cast]at hg)))|apply And.intro|(intro hg;(try simp only [push_cast]at hg)))
     all_goals first|exact gA|(exact zW (by omega))|skip
     all_goals first|(refine hK _ ?_;clear hK K)|(simp only [push_cast];done)
     refine zT rfl (fun hc=> ?_) (fun hc=> ?_)<;>(try simp only [push_cast]at hc)
     ·
      refine zL fun K hK=> ?_
      refine zM zP zN [] rfl ?_
      all_goals simp only [push_cast,↓zK,↓zJ,↓reduceIte,zA,zB,zC,zD,zE,zF,zG,zH,zI,reduceCtorEq]
      all_goals repeat'(first|(apply zO<;>(intro hg;(try simp only [push_cast]at hg)))|apply And.intro|(intro hg;(try simp only [push_cast]at hg)))
      all_goals first|exact gA|(exact zW (by omega))|skip
      all_goals first|(refine hK _ ?_;clear hK K)|(simp only [push_cast];done)
      refine JJ 7 14 1 1008 176 [176] zP zN ?_ rfl rfl rfl fun K9 hK9=> ?_
      ·kernel_rfl
      all_goals simp only [push_cast,↓zK,↓zJ,↓reduceIte,zA,zB,zC,zD,zE,zF,zG,zH,zI,reduceCtorEq]
      all_goals repeat'(first|(apply zO<;>(intro hg;(try simp only [push_cast]at hg)))|apply And.intro|(intro hg;(try simp only [push_cast]at hg)))
      all_goals first|exact gA|(exact zW (by omega))|skip
      all_goals first|(refine hK9 _ ?_;clear hK9 K9)|(simp only [push_cast];done)
      all_goals simp only [push_cast,↓zK,↓zJ,↓reduceIte,zA,zB,zC,zD,zE,zF,zG,zH,zI,reduceCtorEq]
      all_goals repeat'(first|(apply zO<;>(intro hg;(try simp only [push_cast]at hg)))|apply And.intro|(intro hg;(try simp only [push_cast]at hg)))
      all_goals first|exact gA|(exact zW (by omega))|skip
      (try simp only [zR,zS,reduceIte,zF]);refine hK7 _ ?_
      refine zM zP zN [] rfl ?_
      all_goals simp only [push_cast,↓zK,↓zJ,↓reduceIte,zA,zB,zC,zD,zE,zF,zG,zH,zI,reduceCtorEq]
      all_goals repeat'(first|(apply zO<;>(intro hg;(try simp only [push_cast]at hg)))|apply And.intro|(intro hg;(try simp only [push_cast]at hg)))
      all_goals first|exact gA|(exact zW (by omega))|skip
      (try simp only [zR,zS,reduceIte,zF]);refine hK6 _ ?_
      refine zM zP zN [] rfl ?_
      all_goals simp only [push_cast,↓zK,↓zJ,↓reduceIte,zA,zB,zC,zD,zE,zF,zG,zH,zI,reduceCtorEq]
      all_goals repeat'(first|(apply zO<;>(intro hg;(try simp only [push_cast]at hg)))|apply And.intro|(intro hg;(try simp only [push_cast]at hg)))
      all_goals first|exact gA|(exact zW (by omega))|skip
      refine hL1 _ ⟨k+1,by omega,by omega,?_⟩
      (try rw [List.take_of_length_le (l:=(zr (zv (gq (stQ (usA a) rcF ⟨s,f.names⟩ i) i).record (gq (stQ (usA a) rcF ⟨s,f.names⟩ i) i).at_) (gl a.next (gq (stQ (usA a) rcF ⟨s,f.names⟩ i) i).at_.toNat) (stQ (usA a) rcF ⟨s,f.names⟩ i) k).2) (by omega)])
      rw [vX (by omega) (by with_reducible assumption)]
      refine zY rfl ?_ ?_ ?_<;>simp only [zf,ze,push_cast,↓zK,↓zJ,↓reduceIte,zA,zB,zC,zD,zE,zF,zG,zH,zI,reduceCtorEq]
      all_goals first|rfl|(rw [List.length_append];rfl)|exact⟨rfl,rfl⟩|skip
     ·
      refine zU ?_
      (try simp only [zR,zS,reduceIte,zF]);refine hK7 _ ?_
      refine zM zP zN [] rfl ?_
      all_goals simp only [push_cast,↓zK,↓zJ,↓reduceIte,zA,zB,zC,zD,zE,zF,zG,zH,zI,reduceCtorEq]
      all_goals repeat'(first|(apply zO<;>(intro hg;(try simp only [push_cast]at hg)))|apply And.intro|(intro hg;(try simp only [push_cast]at hg)))
      all_goals first|exact gA|(exact zW (by omega))|skip
      (try simp only [zR,zS,reduceIte,zF]);refine hK6 _ ?_
      refine zM zP zN [] rfl ?_
      all_goals simp only [push_cast,↓zK,↓zJ,↓reduceIte,zA,zB,zC,zD,zE,zF,zG,zH,zI,reduceCtorEq]
      all_goals repeat'(first|(apply zO<;>(intro hg;(try simp only [push_cast]at hg)))|apply And.intro|(intro hg;(try simp only [push_cast]at hg)))
      all_goals first|exact gA|(exact zW (by omega))|skip
      refine hL1 _ ⟨k+1,by omega,by omega,?_⟩
      (try rw [List.take_of_length_le (l:=(zr (zv (gq (stQ (usA a) rcF ⟨s,f.names⟩ i) i).record (gq (stQ (usA a) rcF ⟨s,f.names⟩ i) i).at_) (gl a.next (gq (stQ (usA a) rcF ⟨s,f.names⟩ i) i).at_.toNat) (stQ (usA a) rcF ⟨s,f.names⟩ i) k).2) (by omega)])
      rw [wC (by omega) (by with_reducible assumption)]
      refine zY rfl ?_ ?_ ?_<;>simp only [zf,ze,push_cast,↓zK,↓zJ,↓reduceIte,zA,zB,zC,zD,zE,zF,zG,zH,zI,reduceCtorEq]
      all_goals first|rfl|(rw [List.length_append];rfl)|exact⟨rfl,rfl⟩|skip
    ·
     refine zk ?_
     have hkk:k=(gl a.next (gq (stQ (usA a) rcF ⟨s,f.names⟩ i) i).at_.toNat).length:=by omega
     subst hkk
     (try simp only [zR,zS,reduceIte,zF]);refine hK4 _ ?_
     refine zL fun K8 hK8=> ?_
     have hgi:gq (zr (zv (gq (stQ (usA a) rcF ⟨s,f.names⟩ i) i).record (gq (stQ (usA a) rcF ⟨s,f.names⟩ i) i).at_) (gl a.next (gq (stQ (usA a) rcF ⟨s,f.names⟩ i) i).at_.toNat) (stQ (usA a) rcF ⟨s,f.names⟩ i) (gl a.next (gq (stQ (usA a) rcF ⟨s,f.names⟩ i) i).at_.toNat).length).1 i=(gq (stQ (usA a) rcF ⟨s,f.names⟩ i) i):=Wy (by omega) (Nat.le_refl _)
     have hrl9:=qL (r:=(zv (gq (stQ (usA a) rcF ⟨s,f.names⟩ i) i).record (gq (stQ (usA a) rcF ⟨s,f.names⟩ i) i).at_)) (us:=(gl a.next (gq (stQ (usA a) rcF ⟨s,f.names⟩ i) i).at_.toNat)) (ps:=(stQ (usA a) rcF ⟨s,f.names⟩ i)) (k:=(gl a.next (gq (stQ (usA a) rcF ⟨s,f.names⟩ i) i).at_.toNat).length) (Nat.le_refl _)
     refine zL fun K hK=> ?_
     refine zM zP zN [] rfl ?_
     all_goals simp only [push_cast,↓zK,↓zJ,↓reduceIte,zA,zB,zC,zD,zE,zF,zG,zH,zI,reduceCtorEq]
     all_goals repeat'(first|(apply zO<;>(intro hg;(try simp only [push_cast]at hg)))|apply And.intro|(intro hg;(try simp only [push_cast]at hg)))
     all_goals first|exact gA|(exact zW (by omega))|skip
     all_goals first|(refine hK _ ?_;clear hK K)|(simp only [push_cast];done)
     refine zT rfl (fun hc=> ?_) (fun hc=> ?_)<;>(try simp only [push_cast]at hc)
     ·
      refine zL fun K hK=> ?_
      refine zM zP zN [] rfl ?_
      all_goals simp only [push_cast,↓zK,↓zJ,↓reduceIte,zA,zB,zC,zD,zE,zF,zG,zH,zI,reduceCtorEq]
      all_goals repeat'(first|(apply zO<;>(intro hg;(try simp only [push_cast]at hg)))|apply And.intro|(intro hg;(try simp only [push_cast]at hg)))
      all_goals first|exact gA|(exact zW (by omega))|skip
      all_goals first|(refine hK _ ?_;clear hK K)|(simp only [push_cast];done)
      refine zX ?_
      (try simp only [zR,zS])
      refine⟨Or.inl rfl,?_⟩
      simp only [yD,yV,push_cast,↓zK,↓zJ,↓reduceIte,zA,zB,zC,zD,zE,zF,zG,zH,zI,reduceCtorEq]
      refine⟨_,?_,hKA (zEd hi (by rw [Ya (by omega)];show 256<(zr (zv (gq (stQ (usA a) rcF ⟨s,f.names⟩ i) i).record (gq (stQ (usA a) rcF ⟨s,f.names⟩ i) i).at_) (gl a.next (gq (stQ (usA a) rcF ⟨s,f.names⟩ i) i).at_.toNat) (stQ (usA a) rcF ⟨s,f.names⟩ i) (gl a.next (gq (stQ (usA a) rcF ⟨s,f.names⟩ i) i).at_.toNat).length).1.length;omega))⟩
      simp only [push_cast,↓zK,↓zJ,↓reduceIte,zA,zB,zC,zD,zE,zF,zG,zH,zI,reduceCtorEq]
      all_goals first|exact⟨trivial,trivial⟩|skip
     ·
      refine zU ?_
      (try simp only [zR,zS,reduceIte,zF]);refine hK8 _ ?_
      have hSo:FnG Try.prog tyT 79 [.c (DI (List.take (gl a.next (gq (stQ (usA a) rcF ⟨s,f.names⟩ i) i).at_.toNat).length (zr (zv (gq (stQ (usA a) rcF ⟨s,f.names⟩ i) i).record (gq (stQ (usA a) rcF ⟨s,f.names⟩ i) i).at_) (gl a.next (gq (stQ (usA a) rcF ⟨s,f.names⟩ i) i).at_.toNat) (stQ (usA a) rcF ⟨s,f.names⟩ i) (gl a.next (gq (stQ (usA a) rcF ⟨s,f.names⟩ i) i).at_.toNat).length).2))] [0] [(0,2,dI (yF (zr (zv (gq (stQ (usA a) rcF ⟨s,f.names⟩ i) i).record (gq (stQ (usA a) rcF ⟨s,f.names⟩ i) i).at_) (gl a.next (gq (stQ (usA a) rcF ⟨s,f.names⟩ i) i).at_.toNat) (stQ (usA a) rcF ⟨s,f.names⟩ i) (gl a.next (gq (stQ (usA a) rcF ⟨s,f.names⟩ i) i).at_.toNat).length).2))] []:=by rw [List.take_of_length_le (l:=(zr (zv (gq (stQ (usA a) rcF ⟨s,f.names⟩ i) i).record (gq (stQ (usA a) rcF ⟨s,f.names⟩ i) i).at_) (gl a.next (gq (stQ (usA a) rcF ⟨s,f.names⟩ i) i).at_.toNat) (stQ (usA a) rcF ⟨s,f.names⟩ i) (gl a.next (gq (stQ (usA a) rcF ⟨s,f.names⟩ i) i).at_.toNat).length).2) (by omega)];exact zBn _ (by omega)
      refine zL fun K hK=> ?_
      refine Uf 74 [0] [(0,2,dI (yF (zr (zv (gq (stQ (usA a) rcF ⟨s,f.names⟩ i) i).record (gq (stQ (usA a) rcF ⟨s,f.names⟩ i) i).at_) (gl a.next (gq (stQ (usA a) rcF ⟨s,f.names⟩ i) i).at_.toNat) (stQ (usA a) rcF ⟨s,f.names⟩ i) (gl a.next (gq (stQ (usA a) rcF ⟨s,f.names⟩ i) i).at_.toNat).length).2))] zP zN [] rfl ?_
      simp only [push_cast,↓zK,↓zJ,↓reduceIte,zA,zB,zC,zD,zE,zF,zG,zH,zI,reduceCtorEq]
      all_goals repeat'(first|(apply zO<;>(intro hg;(try simp only [push_cast]at hg)))|(refine⟨_,hSo,?_⟩;simp only [push_cast,↓zK,↓zJ,↓reduceIte,zA,zB,zC,zD,zE,zF,zG,zH,zI,reduceCtorEq])|apply And.intro|(intro hg;(try simp only [push_cast]at hg)))
      all_goals first|exact gA|(exact zW (by omega))|skip
      all_goals first|(refine hK _ ?_;clear hK K)|(simp only [push_cast];done)
      have hPv:FnX Try.prog tyT 61 [.v (.agg [.int .i64 (gq (stQ (usA a) rcF ⟨s,f.names⟩ i) i).at_,DI (List.take (gq (stQ (usA a) rcF ⟨s,f.names⟩ i) i).record.length (gq (zr (zv (gq (stQ (usA a) rcF ⟨s,f.names⟩ i) i).record (gq (stQ (usA a) rcF ⟨s,f.names⟩ i) i).at_) (gl a.next (gq (stQ (usA a) rcF ⟨s,f.names⟩ i) i).at_.toNat) (stQ (usA a) rcF ⟨s,f.names⟩ i) (gl a.next (gq (stQ (usA a) rcF ⟨s,f.names⟩ i) i).at_.toNat).length).1 i).record)]), .ref (.lst 2 [DI f.names,DII f.sets])] [.c (.int .i64 (yp f (gq (stQ (usA a) rcF ⟨s,f.names⟩ i) i).record (gq (stQ (usA a) rcF ⟨s,f.names⟩ i) i).at_))]:=by rw [hgi,List.take_length];exact jY f hf (gq (stQ (usA a) rcF ⟨s,f.names⟩ i) i) (by omega) hP.2.2
      have hsl9:=xZ (zr (zv (gq (stQ (usA a) rcF ⟨s,f.names⟩ i) i).record (gq (stQ (usA a) rcF ⟨s,f.names⟩ i) i).at_) (gl a.next (gq (stQ (usA a) rcF ⟨s,f.names⟩ i) i).at_.toNat) (stQ (usA a) rcF ⟨s,f.names⟩ i) (gl a.next (gq (stQ (usA a) rcF ⟨s,f.names⟩ i) i).at_.toNat).length).2
      have hWV:FnG Try.prog tyT 85 [.agg [DI (List.take i (qK a rcF ⟨s,f.names⟩ i)),DII (List.take i (nxG a rcF ⟨s,f.names⟩ i)),DI (List.take i (prG a rcF (prF f) ⟨s,f.names⟩ i))], .c (.int .i64 (gi a.owner (gq (stQ (usA a) rcF ⟨s,f.names⟩ i) i).at_.toNat)), .c (.int .i64 (yp f (gq (stQ (usA a) rcF ⟨s,f.names⟩ i) i).record (gq (stQ (usA a) rcF ⟨s,f.names⟩ i) i).at_)), .c (DI (List.take (gl a.next (gq (stQ (usA a) rcF ⟨s,f.names⟩ i) i).at_.toNat).length (yF (zr (zv (gq (stQ (usA a) rcF ⟨s,f.names⟩ i) i).record (gq (stQ (usA a) rcF ⟨s,f.names⟩ i) i).at_) (gl a.next (gq (stQ (usA a) rcF ⟨s,f.names⟩ i) i).at_.toNat) (stQ (usA a) rcF ⟨s,f.names⟩ i) (gl a.next (gq (stQ (usA a) rcF ⟨s,f.names⟩ i) i).at_.toNat).length).2)))] [0,1,2,48] [] [.agg [DI (qK a rcF ⟨s,f.names⟩ i++ [gi a.owner (gq (stQ (usA a) rcF ⟨s,f.names⟩ i) i).at_.toNat]),DII (nxG a rcF ⟨s,f.names⟩ i++ [yF (zr (zv (gq (stQ (usA a) rcF ⟨s,f.names⟩ i) i).record (gq (stQ (usA a) rcF ⟨s,f.names⟩ i) i).at_) (gl a.next (gq (stQ (usA a) rcF ⟨s,f.names⟩ i) i).at_.toNat) (stQ (usA a) rcF ⟨s,f.names⟩ i) (gl a.next (gq (stQ (usA a) rcF ⟨s,f.names⟩ i) i).at_.toNat).length).2]),DI (prG a rcF (prF f) ⟨s,f.names⟩ i++ [yp f (gq (stQ (usA a) rcF ⟨s,f.names⟩ i) i).record (gq (stQ (usA a) rcF ⟨s,f.names⟩ i) i).at_])]]:=by rw [List.take_of_length_le (l:=qK a rcF ⟨s,f.names⟩ i) (by omega),List.take_of_length_le (l:=nxG a rcF ⟨s,f.names⟩ i) (by omega),List.take_of_length_le (l:=prG a rcF (prF f) ⟨s,f.names⟩ i) (by omega),List.take_of_length_le (l:=yF (zr (zv (gq (stQ (usA a) rcF ⟨s,f.names⟩ i) i).record (gq (stQ (usA a) rcF ⟨s,f.names⟩ i) i).at_) (gl a.next (gq (stQ (usA a) rcF ⟨s,f.names⟩ i) i).at_.toNat) (stQ (usA a) rcF ⟨s,f.names⟩ i) (gl a.next (gq (stQ (usA a) rcF ⟨s,f.names⟩ i) i).at_.toNat).length).2) (by omega)];exact ui (gmA a rcF (prF f) ⟨s,f.names⟩ i) ⟨⟨by show(qK _ _ _ i).length≤_;omega,⟨by show(nxG _ _ _ i).length≤_;omega,fun r hr=>by have :=zHW h1 h3 (n:=i) (zGC hil) r hr;omega⟩⟩,by show(prG _ _ _ _ i).length≤_;omega⟩ (gi a.owner (gq (stQ (usA a) rcF ⟨s,f.names⟩ i) i).at_.toNat) (yp f (gq (stQ (usA a) rcF ⟨s,f.names⟩ i) i).record (gq (stQ (usA a) rcF ⟨s,f.names⟩ i) i).at_) (yF (zr (zv (gq (stQ (usA a) rcF ⟨s,f.names⟩ i) i).record (gq (stQ (usA a) rcF ⟨s,f.names⟩ i) i).at_) (gl a.next (gq (stQ (usA a) rcF ⟨s,f.names⟩ i) i).at_.toNat) (stQ (usA a) rcF ⟨s,f.names⟩ i) (gl a.next (gq (stQ (usA a) rcF ⟨s,f.names⟩ i) i).at_.toNat).length).2) (by omega)
      refine JI false false 11 (KX Try.prog tyT 2) [84] (fun _ _ _ h=>kZ rfl h) (QC Try.prog tyT [0,1,2,48] []) (fun _ _ _ _ _ _ _ _ _ h1 h2 h3 h4=>VS h1 h2 h3 h4) zP zN yj ?_ rfl rfl ?_
      ·kernel_rfl
      intro E hE
      all_goals simp only [push_cast,↓zK,↓zJ,↓reduceIte,zA,zB,zC,zD,zE,zF,zG,zH,zI,reduceCtorEq]
      all_goals repeat'(first|(apply zO<;>(intro hg;(try simp only [push_cast]at hg)))|(refine⟨_,_,hPv,?_⟩;(try simp only [push_cast,↓zK,↓zJ,↓reduceIte,zA,zB,zC,zD,zE,zF,zG,zH,zI,reduceCtorEq]))|(refine⟨_,hWV,?_⟩;simp only [push_cast,↓zK,↓zJ,↓reduceIte,zA,zB,zC,zD,zE,zF,zG,zH,zI,reduceCtorEq])|apply And.intro|(intro hg;(try simp only [push_cast]at hg)))
      all_goals first|exact gA|(refine hE _ _ ?_ rfl ?_;kernel_rfl)|(exact zW (by omega))|skip
      all_goals clear hE E
      all_goals simp only [push_cast,↓zK,↓zJ,↓reduceIte,zA,zB,zC,zD,zE,zF,zG,zH,zI,reduceCtorEq]
      all_goals repeat'(first|(apply zO<;>(intro hg;(try simp only [push_cast]at hg)))|(refine⟨_,_,hPv,?_⟩;(try simp only [push_cast,↓zK,↓zJ,↓reduceIte,zA,zB,zC,zD,zE,zF,zG,zH,zI,reduceCtorEq]))|(refine⟨_,hWV,?_⟩;simp only [push_cast,↓zK,↓zJ,↓reduceIte,zA,zB,zC,zD,zE,zF,zG,zH,zI,reduceCtorEq])|apply And.intro|(intro hg;(try simp only [push_cast]at hg)))
      all_goals first|exact gA|(exact zW (by omega))|skip
      all_goals first|(refine hg _ _ ?_ ?_;kernel_rfl)|skip
      (try simp only [zR,zS,reduceIte,zF]);refine hK3 _ ?_
      refine yv [.sl 2, .sl 27, .sl 2] 12 ?_
      simp only [push_cast,↓zK,↓zJ,↓reduceIte,zA,zB,zC,zD,zE,zF,zG,zH,zI,reduceCtorEq]
      refine zM zP zN [] rfl ?_
      all_goals simp only [push_cast,↓zK,↓zJ,↓reduceIte,zA,zB,zC,zD,zE,zF,zG,zH,zI,reduceCtorEq]
      all_goals repeat'(first|(apply zO<;>(intro hg;(try simp only [push_cast]at hg)))|apply And.intro|(intro hg;(try simp only [push_cast]at hg)))
      all_goals first|exact gA|(exact zW (by omega))|skip
      have hst:(stQ (usA a) rcF ⟨s,f.names⟩ (i+1))=(zr (zv (gq (stQ (usA a) rcF ⟨s,f.names⟩ i) i).record (gq (stQ (usA a) rcF ⟨s,f.names⟩ i) i).at_) (gl a.next (gq (stQ (usA a) rcF ⟨s,f.names⟩ i) i).at_.toNat) (stQ (usA a) rcF ⟨s,f.names⟩ i) (gl a.next (gq (stQ (usA a) rcF ⟨s,f.names⟩ i) i).at_.toNat).length).1:=Ya (by omega)
      refine hL0 _ ⟨i+1,⟨by omega,(by rw [hst];omega),(by rw [hst];omega)⟩,by omega,?_⟩
      (try rw [List.take_of_length_le (l:=qK a rcF ⟨s,f.names⟩ i) (by omega)])
      (try rw [List.take_of_length_le (l:=nxG a rcF ⟨s,f.names⟩ i) (by omega)])
      (try rw [List.take_of_length_le (l:=prG a rcF (prF f) ⟨s,f.names⟩ i) (by omega)])
      rw [hst,zEf,zGb,zGg,show plQ (usA a) rcF ⟨s,f.names⟩ i=(gq (stQ (usA a) rcF ⟨s,f.names⟩ i) i)from rfl,show nxQ (usA a) rcF ⟨s,f.names⟩ i=yF (zr (zv (gq (stQ (usA a) rcF ⟨s,f.names⟩ i) i).record (gq (stQ (usA a) rcF ⟨s,f.names⟩ i) i).at_) (gl a.next (gq (stQ (usA a) rcF ⟨s,f.names⟩ i) i).at_.toNat) (stQ (usA a) rcF ⟨s,f.names⟩ i) (gl a.next (gq (stQ (usA a) rcF ⟨s,f.names⟩ i) i).at_.toNat).length).2 from rfl,show(prF f) (gq (stQ (usA a) rcF ⟨s,f.names⟩ i) i)=yp f (gq (stQ (usA a) rcF ⟨s,f.names⟩ i) i).record (gq (stQ (usA a) rcF ⟨s,f.names⟩ i) i).at_ from rfl]
      refine zY rfl ?_ ?_ ?_<;>simp only [zf,ze,push_cast,↓zK,↓zJ,↓reduceIte,zA,zB,zC,zD,zE,zF,zG,zH,zI,reduceCtorEq]
      all_goals first|rfl|exact⟨rfl,rfl,rfl,rfl⟩|(rw [List.length_append,List.length_append,List.length_append,ho1,ho2,ho3];rfl)|skip
  ·
   refine zk ?_
   (try simp only [zR,zS,reduceIte,zF]);refine hK1 _ ?_
   refine zL fun K hK=> ?_
   refine zM zP zN [] rfl ?_
   all_goals simp only [push_cast,↓zK,↓zJ,↓reduceIte,zA,zB,zC,zD,zE,zF,zG,zH,zI,reduceCtorEq]
   all_goals repeat'(first|(apply zO<;>(intro hg;(try simp only [push_cast]at hg)))|apply And.intro|(intro hg;(try simp only [push_cast]at hg)))
   all_goals first|exact gA|(exact zW (by omega))|skip
   all_goals first|(refine hK _ ?_;clear hK K)|(simp only [push_cast];done)
   refine zX ?_
   (try simp only [zR,zS])
   refine⟨Or.inl rfl,?_⟩
   simp only [yD,yV,push_cast,↓zK,↓zJ,↓reduceIte,zA,zB,zC,zD,zE,zF,zG,zH,zI,reduceCtorEq]
   refine⟨_,?_,hKB i hi (by omega) hil⟩
   simp only [push_cast,↓zK,↓zJ,↓reduceIte,zA,zB,zC,zD,zE,zF,zG,zH,zI,reduceCtorEq]
   all_goals first|exact⟨trivial,trivial⟩|skip
attribute [local irreducible] okQ stQ gmR plR
set_option maxRecDepth 20000 in
set_option maxHeartbeats 8000000 in
theorem jZ (a:Ar)(ha:a.Ln 1048576)(f:Fm)(hf:f.Ln 1048576)(s:Int):Fn Try.prog tyT 23 [.agg (dAr a), .agg (dFm f), .c (.int .i64 s)] [.agg (dPa (fgG a f s)), .c (.lst 72 (yz (fgP a f s))), .c (.bool (fgB a f s))]:=by
 have hno:=ha.owner
 have hnn:=ha.next.1
 unfold LnI at hno
 have hA:=JD a ha
 have hF:=JR f hf (a.owner.length:Int)
 have hSz:=zCH a
 have hV:=WB a s
 have hfn:=hf.names
 unfold LnI at hfn
 unfold dAr at hA hSz hV
 unfold dFm at hF
 unfold dAr dFm dPa
 refine Ym (fn:=Try.f23) (rs:= [.cell 6 36, .tmp 7, .tmp 8]) zP zN Try.func23 (by kernel_rfl) rfl rfl (by rw [Try.ntmps23];exact Nat.le_of_ble_eq_true rfl) rfl (by simp only [szA,List.mem_cons,List.not_mem_nil,or_false,forall_eq_or_imp,forall_eq,VT.cells,szL];try decide) ?_
 rw [Try.ntmps23]
 simp only [push_cast,↓zK,↓zJ,↓reduceIte,zA,zB,zC,zD,zE,zF,zG,zH,zI,reduceCtorEq]
 refine zL fun K hK=> ?_
 refine zM zP zN [] rfl ?_
 simp only [push_cast,↓zK,↓zJ,↓reduceIte,zA,zB,zC,zD,zE,zF,zG,zH,zI,reduceCtorEq]
 repeat' apply And.intro
 all_goals try exact gB
 all_goals first|(refine hK _ ?_;clear hK K)|(simp only [push_cast];done)
 refine zL fun K1 hK1=> ?_
 refine zL fun K hK=> ?_
 refine zw false zP zN yj ?_ rfl ?_
 ·kernel_rfl
 intro E hE
 all_goals refine yJ 2 (by decide) fun K9 hK9=> ?_
 all_goals simp only [push_cast,↓zK,↓zJ,↓reduceIte,zA,zB,zC,zD,zE,zF,zG,zH,zI,reduceCtorEq]
 all_goals repeat'(first|(apply zO<;>(intro hg;(try simp only [push_cast]at hg)))|(refine⟨_,hA,?_⟩;simp only [push_cast,↓zK,↓zJ,↓reduceIte,zA,zB,zC,zD,zE,zF,zG,zH,zI,reduceCtorEq])|apply And.intro|(intro hg;(try simp only [push_cast]at hg)))
 all_goals try exact gA
 all_goals first|(refine hK9 _ _ ?_;clear hK9 K9)|(simp only [push_cast];done)
 all_goals refine yJ 5 (by decide) fun K9 hK9=> ?_
 all_goals simp only [push_cast,↓zK,↓zJ,↓reduceIte,zA,zB,zC,zD,zE,zF,zG,zH,zI,reduceCtorEq]
 all_goals repeat'(first|(apply zO<;>(intro hg;(try simp only [push_cast]at hg)))|(refine⟨_,hSz,?_⟩;simp only [push_cast,↓zK,↓zJ,↓reduceIte,zA,zB,zC,zD,zE,zF,zG,zH,zI,reduceCtorEq])|apply And.intro|(intro hg;(try simp only [push_cast]at hg)))
 all_goals try exact gA
 all_goals first|(refine hK9 _ _ ?_;clear hK9 K9)|(simp only [push_cast];done)
 all_goals refine yJ 1 (by decide) fun K9 hK9=> ?_
 all_goals simp only [push_cast,↓zK,↓zJ,↓reduceIte,zA,zB,zC,zD,zE,zF,zG,zH,zI,reduceCtorEq]
 all_goals repeat'(first|(apply zO<;>(intro hg;(try simp only [push_cast]at hg)))|(refine⟨_,hF,?_⟩;simp only [push_cast,↓zK,↓zJ,↓reduceIte,zA,zB,zC,zD,zE,zF,zG,zH,zI,reduceCtorEq])|apply And.intro|(intro hg;(try simp only [push_cast]at hg)))
 all_goals try exact gA
 all_goals first|(refine hK9 _ _ ?_;clear hK9 K9)|(simp only [push_cast];done)
 all_goals refine yJ 6 (by decide) fun K9 hK9=> ?_
 all_goals simp only [push_cast,↓zK,↓zJ,↓reduceIte,zA,zB,zC,zD,zE,zF,zG,zH,zI,reduceCtorEq]
 all_goals repeat'(first|(apply zO<;>(intro hg;(try simp only [push_cast]at hg)))|(refine⟨_,hV,?_⟩;simp only [push_cast,↓zK,↓zJ,↓reduceIte,zA,zB,zC,zD,zE,zF,zG,zH,zI,reduceCtorEq])|apply And.intro|(intro hg;(try simp only [push_cast]at hg)))
 all_goals try exact gA
 all_goals first|(refine hK9 _ _ ?_;clear hK9 K9)|(simp only [push_cast];done)
 all_goals simp only [push_cast,↓zK,↓zJ,↓reduceIte,zA,zB,zC,zD,zE,zF,zG,zH,zI,reduceCtorEq]
 all_goals repeat'(first|(apply zO<;>(intro hg;(try simp only [push_cast]at hg)))|(refine⟨_,hA,?_⟩;simp only [push_cast,↓zK,↓zJ,↓reduceIte,zA,zB,zC,zD,zE,zF,zG,zH,zI,reduceCtorEq])|(refine⟨_,hSz,?_⟩;simp only [push_cast,↓zK,↓zJ,↓reduceIte,zA,zB,zC,zD,zE,zF,zG,zH,zI,reduceCtorEq])|(refine⟨_,hF,?_⟩;simp only [push_cast,↓zK,↓zJ,↓reduceIte,zA,zB,zC,zD,zE,zF,zG,zH,zI,reduceCtorEq])|(refine⟨_,hV,?_⟩;simp only [push_cast,↓zK,↓zJ,↓reduceIte,zA,zB,zC,zD,zE,zF,zG,zH,zI,reduceCtorEq])|apply And.intro|(intro hg;(try simp only [push_cast]at hg)))
 all_goals first|exact gA|(refine hE _ _ ?_ ?_;kernel_rfl)|skip
 all_goals clear hE E
 all_goals first|(refine hK _ ?_;clear hK K)|(simp only [push_cast];done)
 all_goals refine zT rfl (fun hc=> ?_) (fun hc=> ?_)
 all_goals(first|(cases hc;done)|skip)
 all_goals(try simp only [push_cast]at hc)
 all_goals try(
   refine zL fun K hK=> ?_
   refine zM zP zN [] rfl ?_
   simp only [push_cast,↓zK,↓zJ,↓reduceIte,zA,zB,zC,zD,zE,zF,zG,zH,zI,reduceCtorEq]
   repeat' apply And.intro
   all_goals try exact gB
   all_goals first|(refine hK _ ?_;clear hK K)|(simp only [push_cast];done)
   refine zX ?_
   (try simp only [zR,zS])
   refine⟨Or.inl rfl,?_⟩
   simp only [zb,yD,yV,push_cast,↓zK,↓zJ,↓reduceIte,zA,zB,zC,zD,zE,zF,zG,zH,zI,reduceCtorEq]
   obtain⟨e1,e2,e3⟩:=zD4 (a:=a) (f:=f) (s:=s) (by first|exact zBz (by with_reducible assumption)|exact zB0 (by have hln9:=yT (a:=a) (by with_reducible assumption);rw [wv (by omega)];with_reducible assumption)|exact zB1 (by omega))
   rw [e1,e2,e3]
   all_goals first|rfl|exact⟨rfl,rfl⟩|(simp [dI,dII,yz];done)
   done)
 refine zU ?_
 (try simp only [zR,zS,reduceIte,zF]);refine hK1 _ ?_
 have hC:fgC a f s=true:=zB2 (by with_reducible assumption) (by have hln9:=yT (a:=a) (by with_reducible assumption);rw [wv (by omega)];with_reducible assumption) (by omega)
 obtain⟨h1,h2,h3⟩:=vw hC
 have hln:=yT h1
 refine zL fun K hK=> ?_
 refine JI false false 9 (KX Try.prog tyT 2) [33,34] (fun _ _ _ h=>kZ rfl h) (Vi Try.prog tyT 6) (fun _ _ _ _ _ _ _ _ _ h1 h2 h3 h4=>UV zP zN h1 h2 h3 h4) zP zN yj ?_ rfl rfl ?_
 ·kernel_rfl
 intro E hE
 all_goals simp only [push_cast,↓zK,↓zJ,↓reduceIte,zA,zB,zC,zD,zE,zF,zG,zH,zI,reduceCtorEq]
 all_goals repeat'(first|(apply zO<;>(intro hg;(try simp only [push_cast]at hg)))|apply And.intro|(intro hg;(try simp only [push_cast]at hg)))
 all_goals first|exact gA|(refine hE _ _ ?_ rfl ?_;kernel_rfl)|skip
 all_goals clear hE E
 refine zDd (fn:=Try.f58) (rs:= [.cell 8 36, .tmp 9, .tmp 10]) rfl rfl (by decide) rfl Try.func58 (by kernel_rfl) rfl rfl (by rw [Try.ntmps58];exact Nat.le_of_ble_eq_true rfl) ?_
 rw [Try.ntmps58]
 simp only [push_cast,↓zK,↓zJ,↓reduceIte,zA,zB,zC,zD,zE,zF,zG,zH,zI,reduceCtorEq]
 refine zBu ?_ (kH a ha f hf s ⟨h1,h3⟩ _ (fun hok9=> ?_) (fun i hi9 hn9 hil9=> ?_))
 ·refine zY rfl ?_ ?_ ?_<;>simp only [zf,ze,push_cast,↓zK,↓zJ,↓reduceIte,zA,zB,zC,zD,zE,zF,zG,zH,zI,reduceCtorEq]
 all_goals intro E hg
 all_goals(try simp only [push_cast,↓zK,↓zJ,↓reduceIte,zA,zB,zC,zD,zE,zF,zG,zH,zI,reduceCtorEq])
 all_goals repeat'(first|(apply zO<;>(intro hg;(try simp only [push_cast]at hg)))|apply And.intro|(intro hg;(try simp only [push_cast]at hg)))
 all_goals try exact gA
 all_goals first|(refine hg _ _ ?_ ?_;kernel_rfl)|skip
 all_goals first|(refine hK _ ?_;clear hg E hK K)|(refine hK _ ?_)|(simp only [push_cast];done)
 all_goals(
   refine zX ?_
   (try simp only [zR,zS])
   refine⟨Or.inl rfl,?_⟩
   simp only [zb,yD,yV,push_cast,↓zK,↓zJ,↓reduceIte,zA,zB,zC,zD,zE,zF,zG,zH,zI,reduceCtorEq]
   first
    |(
     obtain⟨e1,e2,e3⟩:=zD5 (a:=a) (f:=f) (s:=s) hok9
     rw [e1,e2,e3]
     all_goals first|rfl|exact⟨rfl,rfl⟩|(simp [dI,dII,yz];done))
    |(
     obtain⟨e1,e2,e3⟩:=zB3 (a:=a) (rc:=rcF) (pr:=prF f) (p0:=⟨s,f.names⟩) (i:=i) hC hi9 hn9 hil9
     unfold fgG fgP fgB
     rw [e1,e2,e3]
     simp only [gmA,qp,QO,Yg]
     all_goals first|rfl|exact⟨⟨⟨rfl,rfl⟩,⟨rfl,rfl⟩,⟨rfl,rfl⟩⟩,rfl,rfl⟩|exact⟨rfl,rfl⟩|(simp;done)))
end Go.Proofs.Ytipplkjdmdlhpaa
