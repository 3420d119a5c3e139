/- The play of a plan's memory against a plan: plain. -/
import Derived.Test.YtggpbepdeilpgaaB18zmt
import Derived.Test.YtggpbepdeilpgaaB14zmt
import Derived.Test.YtggpbepdeilpgaaB7zmt
namespace Go.Proofs.Ytggpbepdeilpgaa
set_option linter.unusedVariables false
set_option linter.unusedSimpArgs false
theorem zCm {path st:List Int}{v s:Int}: ∀(m i:Nat),(fvN path st v s i m=i+m∧∀j,i≤j→j<i+m→¬(gi path j=v∧gi st j=s))∨(fvN path st v s i m<i+m∧gi path (fvN path st v s i m)=v)
 |0,i=> .inl ⟨rfl,fun j h1 h2=>by omega⟩
 |m+1,i=>by
  simp only [fvN]
  split
  ·rename_i h
   exact .inr ⟨by omega,h.1⟩
  ·rename_i h
   rcases zCm (path:=path) (st:=st) (v:=v) (s:=s) m (i+1)with⟨h1,h2⟩|⟨h1,h2⟩
   ·refine .inl ⟨by omega,fun j h3 h4=> ?_⟩
    by_cases e:j=i
    ·subst e;exact h
    ·exact h2 j (by omega) (by omega)
   ·exact .inr ⟨by omega,h2⟩
theorem zCn (n j:Nat):gi (List.replicate n (0:Int)) j=0:=by
 unfold gi
 rw [List.getD_eq_getElem?_getD,List.getElem?_replicate]
 split<;>rfl
structure wc (F:List (List Int))(n:Nat)(s:Int)(path:List Int)(v:Int):Prop where
 rg: ∀j,j<path.length→0≤gi path j∧gi path j<n
 nd: ∀j,j<path.length→∀i,i<j→¬gi path i=gi path j
 ed: ∀j,j+1<path.length→gi path (j+1)∈gl F (gi path j).toNat
 la:0<path.length→v∈gl F (gi path (path.length - 1)).toNat
 hd:0<path.length→gi path 0=s
 h0:path.length=0→v=s
 hv:0≤v∧v<n
theorem wc.le {F:List (List Int)}{n:Nat}{s v:Int}{path:List Int}(h:wc F n s path v):path.length≤n:=by
 have hl:((List.range path.length).map fun j=>(gi path j).toNat).length=path.length:=by simp
 rw [←hl]
 refine XJ n _ ?_ fun x hx=> ?_
 ·refine List.pairwise_iff_getElem.2 fun i j hi hj hij=> ?_
  rw [hl]at hi hj
  simp only [List.getElem_map,List.getElem_range]
  have a1:=h.rg i hi
  have a2:=h.rg j hj
  have a3:=h.nd j hj i hij
  intro e
  exact a3 (by omega)
 ·obtain⟨j,hj,rfl⟩:=List.mem_map.1 hx
  have a1:=h.rg j (List.mem_range.1 hj)
  omega
theorem wc.next {F:List (List Int)}{n:Nat}{s v u:Int}{path:List Int}(h:wc F n s path v)(hno: ∀j,j<path.length→¬gi path j=v)(hu:u∈gl F v.toNat)(hr:0≤u∧u<n):wc F n s (path++ [v]) u:=by
 have e1: ∀j,j<path.length→gi (path++ [v]) j=gi path j:=fun j hj=>XC hj
 have e2:gi (path++ [v]) path.length=v:=YO
 have el:(path++ [v]).length=path.length+1:=by simp
 refine⟨fun j hj=> ?_,fun j hj i hi=> ?_,fun j hj=> ?_,fun _=> ?_,fun _=> ?_,fun h9=>(by omega),hr⟩
 ·by_cases e:j=path.length
  ·subst e;rw [e2];exact h.hv
  ·rw [e1 j (by omega)];exact h.rg j (by omega)
 ·by_cases e:j=path.length
  ·subst e
   rw [e2,e1 i hi]
   exact hno i hi
  ·rw [e1 j (by omega),e1 i (by omega)];exact h.nd j (by omega) i hi
 ·rw [el]at hj
  by_cases e:j+1=path.length
  ·rw [e,e2,e1 j (by omega)]
   have :=h.la (by omega)
   rwa [←e,Nat.add_sub_cancel]at this
  ·rw [e1 (j+1) (by omega),e1 j (by omega)]
   exact h.ed j (by omega)
 ·rw [el,Nat.add_sub_cancel,e2]
  exact hu
 ·rcases Nat.eq_zero_or_pos path.length with h1|h1
  ·have :path= []:=List.eq_nil_of_length_eq_zero h1
   subst this
   exact h.h0 rfl
  ·rw [e1 0 h1];exact h.hd h1
section
variable {a:Ar} {plan odd:List Int} {s:Int}
theorem goF (ha:zu a=true)(hp:yU a 0 plan=true)(hfull: ∀v,v<a.owner.length→gi a.owner v=0→0≤gi plan v)(ho:yU a 1 odd=true)(hof: ∀v,v<a.owner.length→gi a.owner v=1→0≤gi odd v){v:Int}(hv:0≤v∧v<a.owner.length):goU a (mPl plan) odd v 0∈gl (xm a plan).next v.toNat∧goS (mPl plan) v 0=0:=by
 have hn:v.toNat<a.owner.length:=by omega
 refine⟨?_,zCn _ _⟩
 rw [Yn ha hn]
 have hr:=xO ha hn
 by_cases h0:gi a.owner v.toNat=0
 ·have e:goU a (mPl plan) odd v 0=gi plan v.toNat:=by unfold goU;rw [if_pos h0];rfl
  rw [e,if_pos (hfull _ hn h0)]
  simp
 ·have e:goU a (mPl plan) odd v 0=gi odd v.toNat:=by unfold goU;rw [if_neg h0]
  have h1:gi a.owner v.toNat=1:=by omega
  rw [e,if_neg (by rcases(wD hp).2 _ hn with h|⟨h,-⟩<;>omega)]
  rcases(wD ho).2 _ hn with h|⟨-,h⟩
  ·have :=hof _ hn h1;omega
  ·exact h
theorem zBQ (ha:zu a=true)(hp:yU a 0 plan=true)(hfull: ∀v,v<a.owner.length→gi a.owner v=0→0≤gi plan v)(ho:yU a 1 odd=true)(hof: ∀v,v<a.owner.length→gi a.owner v=1→0≤gi odd v): ∀(fuel:Nat) (path:List Int) (v:Int),wc (xm a plan).next a.owner.length s path v→258≤path.length+fuel→∃path' k,k<path'.length∧wc (xm a plan).next a.owner.length s path' (gi path' k)∧vd a (mPl plan) odd fuel path (List.replicate path.length 0) v 0=(⟨path'.take k,path'.drop k⟩,true)
 |0,path,v,h,hf=>by
  have :=h.le
  have :=zl ha
  omega
 |fuel+1,path,v,h,hf=>by
  have hle:=h.le
  have hal:=zl ha
  rcases zCm (path:=path) (st:=List.replicate path.length 0) (v:=v) (s:=0) path.length 0 with⟨h1,h2⟩|⟨h1,h2⟩
  ·obtain⟨g1,g2⟩:=goF ha hp hfull ho hof h.hv
   have g3:=zFC ha hp _ _ g1
   have hn:=h.next (fun j hj e=>h2 j (Nat.zero_le _) (by omega) ⟨e,zCn _ _⟩) g1 g3
   obtain⟨path',k,k1,k2,k3⟩:=zBQ ha hp hfull ho hof fuel (path++ [v]) _ hn (by rw [List.length_append,List.length_singleton];omega)
   refine⟨path',k,k1,k2,?_⟩
   rw [zDG (by omega) (by omega),g2,←k3]
   congr 1
   rw [List.length_append,List.length_singleton,List.replicate_succ']
  ·rw [Nat.zero_add]at h1
   refine⟨path,_,h1,?_,zBO rfl h1 (by omega)⟩
   rw [h2]
   exact h
end
theorem rchI {F:List (List Int)}{I:List Bool}{x y:Int}(hy:y∈gl F x.toNat)(hb:gb I y.toNat=true):Rch F I x.toNat y.toNat:=by
 obtain⟨j,hj,rfl⟩:=Yp hy
 exact .one hj hb
section
variable {F:List (List Int)} {n:Nat} {s v:Int} {path:List Int} {I:List Bool} {k:Nat}
theorem wc.up (h:wc F n s path v)(hI: ∀j,k≤j→j<path.length→gb I (gi path j).toNat=true){i:Nat}(hi:k≤i): ∀d,i+d+1<path.length→Rch F I (gi path i).toNat (gi path (i+d+1)).toNat
 |0,hd=>rchI (h.ed i hd) (hI _ (by omega) hd)
 |d+1,hd=>(wc.up h hI hi d (by omega)).trans (rchI (h.ed (i+d+1) (by omega)) (hI _ (by omega) hd))
theorem wc.round (h:wc F n s path v)(hk:k<path.length)(hv:v=gi path k)(hI: ∀j,k≤j→j<path.length→gb I (gi path j).toNat=true){j:Nat}(hj:k≤j)(hj2:j<path.length):Rch F I (gi path j).toNat (gi path j).toNat:=by
 have hc:Rch F I (gi path (path.length - 1)).toNat (gi path k).toNat:=by
  have :=h.la (by omega)
  rw [hv]at this
  exact rchI this (hI k (Nat.le_refl _) hk)
 have h1:Rch F I (gi path j).toNat (gi path k).toNat:=by
  by_cases e:j=path.length - 1
  ·rw [e];exact hc
  ·have :=h.up hI hj (path.length - 2 - j) (by omega)
   rw [show j+(path.length - 2 - j)+1=path.length - 1 by omega]at this
   exact this.trans hc
 by_cases e:j=k
 ·rw [e]at h1⊢;exact h1
 ·have :=h.up hI (Nat.le_refl k) (j - k - 1) (by omega)
  rw [show k+(j - k - 1)+1=j by omega]at this
  exact h1.trans this
theorem wc.come (h:wc F n s path v): ∀j,j<path.length→Rcx (edR F) s.toNat (gi path j).toNat
 |0,hj=>by rw [h.hd hj];exact .refl _
 |j+1,hj=>(wc.come h j (by omega)).trans (.one (by
  have h1:=h.ed j hj
  have h2:=h.rg (j+1) hj
  unfold edR
  rw [Int.toNat_of_nonneg h2.1]
  exact h1))
end
section
variable {a:Ar} {plan odd:List Int} {s:Int} {ps:List Pr}
theorem zCk (ha:zu a=true)(hp:yU a 0 plan=true){v:Nat}(hv:v<a.owner.length){u:Int}(hu:u∈gl (xm a plan).next v):u∈gl a.next v:=by
 rw [Yn ha hv]at hu
 split at hu
 ·rw [List.mem_singleton]at hu
  subst hu
  rcases(wD hp).2 v hv with h|⟨-,h⟩
  ·omega
  ·exact h
 ·exact hu
theorem zLG {path:List Int}{k:Nat}:xV ⟨path.take k,path.drop k⟩=path++ [gi path k]:=by
 unfold xV
 rw [List.take_append_drop,zAg]
theorem zG2 (ha:zu a=true)(hp:yU a 0 plan=true){path:List Int}{k:Nat}(hk:k<path.length)(h:wc (xm a plan).next a.owner.length s path (gi path k)):vN a ⟨path.take k,path.drop k⟩=true:=by
 have hle:=h.le
 have hal:=zl ha
 unfold vN
 rw [zLG,Bool.and_eq_true]
 constructor
 ·unfold lenB
  rw [decide_eq_true_eq]
  simp only [List.length_take,List.length_drop]
  omega
 ·refine xq fun i hi=> ?_
  rw [List.length_append,List.length_singleton]at hi
  have e1: ∀j,j<path.length→gi (path++ [gi path k]) j=gi path j:=fun j hj=>XC hj
  have e2:gi (path++ [gi path k]) path.length=gi path k:=YO
  unfold Qe
  rw [Bool.and_eq_true]
  constructor
  ·unfold Wm inB
   rw [decide_eq_true_eq]
   by_cases e:i=path.length
   ·rw [e,e2]
    have :=h.rg k hk
    omega
   ·rw [e1 i (by omega)]
    have :=h.rg i (by omega)
    omega
  ·unfold Vl
   by_cases e0:i=0
   ·rw [decide_eq_true e0];rfl
   ·rw [decide_eq_false e0,Bool.false_or]
    unfold zDs
    rw [yg]
    by_cases e:i=path.length
    ·rw [e,e2,e1 (path.length - 1) (by omega)]
     have h1:=h.rg (path.length - 1) (by omega)
     exact zCk ha hp (by omega) (h.la (by omega))
    ·rw [e1 i (by omega),e1 (i - 1) (by omega)]
     have h1:=h.rg (i - 1) (by omega)
     have h2:=h.ed (i - 1) (by omega)
     rw [show i - 1+1=i by omega]at h2
     exact zCk ha hp (by omega) h2
theorem zA5 (ha:zu a=true)(hp:yU a 0 plan=true)(hfull: ∀v,v<a.owner.length→gi a.owner v=0→0≤gi plan v)(ho:yU a 1 odd=true)(hof: ∀v,v<a.owner.length→gi a.owner v=1→0≤gi odd v)(hs:0≤s∧s<a.owner.length)(hpr:vR ps a.owner.length=true):
  mwB a ps (mPl plan) s= !zn (xL (we (xm a plan).next (brA (xm a plan).next a.owner.length ps ps.length) a.owner.length) a.owner.length) s∧(wX a (mPl plan) odd s).2=true∧(mwB a ps (mPl plan) s=true→JZ a ps (wX a (mPl plan) odd s).1=true):=by
 have hmem:=zFc ha hp
 have hm:MmI a (mPl plan) s:=⟨ha,hmem,hs⟩
 have hsim:=zHc ha hp hfull hs
 have hF:=JF (plan:=plan) ha
 have htell:=hsim.tells hF hs (ps:=ps)
 have hiff:mwB a ps (mPl plan) s=true↔∀i,i<ps.length→∀x,¬Xv (rsM a (mPl plan) s (stM a (mPl plan) s 6145).length) (stM a (mPl plan) s 6145) (gp ps i) x:=by
  rw [zA7]
  constructor
  ·exact fun h=>h.2.2.2
  ·refine fun h=>⟨zFf ha hmem hs,hpr,fun x hx h0=> ?_,h⟩
   have h1:=zIH hm hx h0
   rw [(je hm hx).1,(zBd ha hp hfull (vJ hm _ _ (xz hx))).1]at h0
   have hok:=vJ hm _ _ (xz hx)
   have hv:(gq (stM a (mPl plan) s 6145) x).at_.toNat<a.owner.length:=by have :=hok.1;have :=hok.2.1;omega
   rw [Yn ha hv,if_pos (hfull _ hv h1)]at h0
   cases h0
 have hfu:qt a 1 odd=true:=WO ho fun v hv h=>by
  have :=hof v (by rw [←(wD ho).1];exact hv) h.1
  omega
 obtain⟨path,k,k1,k2,k3⟩:=zBQ (s:=s) ha hp hfull ho hof 6145 [] s ⟨fun j hj=>by simp at hj,fun j hj=>by simp at hj,fun j hj=>by simp at hj,fun hj=>by simp at hj,fun hj=>by simp at hj,fun _=>rfl,hs⟩ (by simp)
 have hres:wX a (mPl plan) odd s=(⟨path.take k,path.drop k⟩,true):=by rw [zFg ha hmem hfu hs];exact k3
 rw [hres]
 refine⟨?_,rfl,fun hw=> ?_⟩
 ·rw [Bool.eq_iff_iff,hiff,htell]
  simp
 ·unfold JZ
  rw [ha,zG2 ha hp k1 k2,hpr]
  have hno:=hiff.1 hw
  have hbk:bkN ps (path.drop k) ps.length= []:=by
   unfold bkN
   rw [List.map_eq_nil_iff,List.filter_eq_nil_iff]
   intro i hi hb
   rw [List.mem_range]at hi
   unfold bkB at hb
   rw [Bool.and_eq_true]at hb
   obtain⟨h1,h2⟩:=hb
   obtain⟨x,hx1,hx2⟩:=JP.1 h1
   have hgi: ∀j,k≤j→j<path.length→gi path j∈path.drop k:=fun j hj hj2=>by
    have :gi path j=gi (path.drop k) (j - k):=by
     unfold gi
     rw [List.getD_eq_getElem?_getD,List.getD_eq_getElem?_getD,List.getElem?_drop,show k+(j - k)=j by omega]
    rw [this]
    exact WP (by rw [List.length_drop];omega)
   have hI: ∀j,k≤j→j<path.length→gb (opI (gp ps i).give a.owner.length) (gi path j).toNat=true:=fun j hj hj2=>by
    have hr:=k2.rg j hj2
    rw [zFo (by omega),Int.toNat_of_nonneg hr.1]
    cases hh:zn (gp ps i).give (gi path j)with
    |false=>rfl
    |true=>
     rw [JP.2 ⟨_,(yg _ _).1 hh,hgi j hj hj2⟩]at h2
     cases h2
   obtain⟨d,hd,rfl⟩:=Yp hx2
   rw [List.length_drop]at hd
   have hjd:gi (path.drop k) d=gi path (k+d):=by
    unfold gi
    rw [List.getD_eq_getElem?_getD,List.getD_eq_getElem?_getD,List.getElem?_drop]
   rw [hjd]at hx1
   have hround:=k2.round k1 rfl hI (j:=k+d) (by omega) (by omega)
   have hr:=k2.rg (k+d) (by omega)
   obtain⟨y,hy1,hy2⟩:=hsim.get (k2.come (k+d) (by omega))
   refine hno i hi y ((hsim.bad hF).2 ⟨hy1,?_,?_⟩)
   ·rw [hy2,Int.toNat_of_nonneg hr.1]
    exact(yg _ _).2 hx1
   ·rw [hy2]
    exact hround
  simp only
  rw [hbk]
  rfl
end
open Nat renaming reduceMod → zA, reduceMul → zB, reduceDiv → zC, reduceAdd → zD, reduceSub → zE, reduceEqDiff → zF, reduceBEq → zG, reduceLT → zH, reduceLeDiff → zI
open Go.RowKit
set_option maxRecDepth 20000 in
set_option maxHeartbeats 4000000 in
theorem zFT (a:Ar)(ha:a.Ln 1048576)(hnl:a.next.length=a.owner.length)(who:Int)(plan:List Int)(hp:plan.length≤1048576):Fn Try.prog tyT 56 [.agg (dAr a), .c (.int .i64 who), .c (DI plan)] [.c (.bool (qt a who plan))]:=by
 have hno:=ha.owner
 unfold LnI at hno
 have hP:=WR a ha hnl who plan hp
 unfold dAr at hP⊢
 refine yK (fn:=Try.f56) (ts:= [6]) Try.func56 (by kernel_rfl) rfl rfl (by rw [Try.ntmps56];exact Nat.le_of_ble_eq_true rfl) rfl (by simp only [szA,List.mem_cons,List.not_mem_nil,or_false,forall_eq_or_imp,forall_eq,VT.cells,szL];try decide) ?_
 rw [Try.ntmps56]
 simp only [push_cast,↓zK,↓zJ,↓reduceIte,zA,zB,zC,zD,zE,zF,zG,zH,zI,reduceCtorEq]
 refine zL fun K hK=> ?_
 refine zM zQ zO [] rfl ?_
 simp only [push_cast,↓zK,↓zJ,↓reduceIte,zA,zB,zC,zD,zE,zF,zG,zH,zI,reduceCtorEq]
 repeat' apply And.intro
 all_goals try exact gB
 all_goals first|(refine hK _ ?_;clear hK K)|(simp only [push_cast];done)
 refine zL fun K1 hK1=> ?_
 refine zL fun K hK=> ?_
 refine zM zQ zO [] rfl ?_
 all_goals refine yz 4 fun K9 hK9=> ?_
 all_goals simp only [push_cast,↓zK,↓zJ,↓reduceIte,zA,zB,zC,zD,zE,zF,zG,zH,zI,reduceCtorEq]
 all_goals repeat'(first|(apply zP<;>(intro hg;(try simp only [push_cast]at hg)))|(refine⟨_,hP,?_⟩;simp only [push_cast,↓zK,↓zJ,↓reduceIte,zA,zB,zC,zD,zE,zF,zG,zH,zI,reduceCtorEq])|apply And.intro|(intro hg;(try simp only [push_cast]at hg)))
 all_goals try exact gA
 all_goals first|(refine hK9 _ ?_;clear hK9 K9)|(simp only [push_cast];done)
 all_goals simp only [push_cast,↓zK,↓zJ,↓reduceIte,zA,zB,zC,zD,zE,zF,zG,zH,zI,reduceCtorEq]
 all_goals repeat'(first|(apply zP<;>(intro hg;(try simp only [push_cast]at hg)))|(refine⟨_,hP,?_⟩;simp only [push_cast,↓zK,↓zJ,↓reduceIte,zA,zB,zC,zD,zE,zF,zG,zH,zI,reduceCtorEq])|apply And.intro|(intro hg;(try simp only [push_cast]at hg)))
 all_goals try exact gA
 all_goals first|(refine hK _ ?_;clear hK K)|(simp only [push_cast];done)
 refine zU rfl (fun hc=> ?_) (fun hc=> ?_)<;>(try simp only [push_cast]at hc)
 ·
  refine zL fun K hK=> ?_
  refine zM zQ zO [] rfl ?_
  simp only [push_cast,↓zK,↓zJ,↓reduceIte,zA,zB,zC,zD,zE,zF,zG,zH,zI,reduceCtorEq]
  repeat' apply And.intro
  all_goals try exact gB
  all_goals first|(refine hK _ ?_;clear hK K)|(simp only [push_cast];done)
  refine zc ?_
  (try simp only [zR,zS])
  refine⟨Or.inl rfl,?_⟩
  simp only [zi,push_cast,↓zK,↓zJ,↓reduceIte,zA,zB,zC,zD,zE,zF,zG,zH,zI,reduceCtorEq]
  symm
  exact zFE (by with_reducible assumption)
 ·
  refine zV ?_
  (try simp only [zR,zS,reduceIte,zF]);refine hK1 _ ?_
  refine zL fun K2 hK2=> ?_
  have hpok:yU a who plan=true:=by with_reducible assumption
  have hpn:=(wC hpok).1
  refine zL fun K hK=> ?_
  refine zM zQ zO [] rfl ?_
  simp only [push_cast,↓zK,↓zJ,↓reduceIte,zA,zB,zC,zD,zE,zF,zG,zH,zI,reduceCtorEq]
  repeat' apply And.intro
  all_goals try exact gB
  all_goals first|(refine hK _ ?_;clear hK K)|(simp only [push_cast];done)
  refine zT ?_
  refine zh [6,7,8,16,17,18,19,20,21,22,23,24,25,26,27,28,29,30,31,32] [] (fun(k:Nat)=> [(16, .int .i64 k)]) (fun k=> []) (fun k=> []) (fun k=>k≤plan.length∧∀j,j<k→¬(gi a.owner j=who∧gi plan j<0)) (fun k=>plan.length - k) 0 ?_ ⟨by omega,fun j hj=>by omega⟩ ?_
  ·
   refine zX rfl ?_ ?_ ?_<;>simp only [zg,zf,push_cast,↓zK,↓zJ,↓reduceIte,zA,zB,zC,zD,zE,zF,zG,zH,zI,reduceCtorEq]
  ·rintro k ⟨hk,hall⟩ KL0 hL0
   skip
   simp only [push_cast,↓zK,↓zJ,↓reduceIte,zA,zB,zC,zD,zE,zF,zG,zH,zI,reduceCtorEq]
   refine zL fun K hK=> ?_
   refine zM zQ zO [] rfl ?_
   simp only [push_cast,↓zK,↓zJ,↓reduceIte,zA,zB,zC,zD,zE,zF,zG,zH,zI,reduceCtorEq]
   repeat' apply And.intro
   all_goals try exact gB
   all_goals first|(refine hK _ ?_;clear hK K)|(simp only [push_cast];done)
   refine zL fun K3 hK3=> ?_
   refine zU rfl (fun hc=> ?_) (fun hc=> ?_)<;>(try simp only [push_cast]at hc)
   ·
    refine zV ?_
    (try simp only [zR,zS,reduceIte,zF]);refine hK3 _ ?_
    refine zL fun K4 hK4=> ?_
    refine zT ?_
    refine zL fun K hK=> ?_
    refine zM zQ zO [] rfl ?_
    simp only [push_cast,↓zK,↓zJ,↓reduceIte,zA,zB,zC,zD,zE,zF,zG,zH,zI,reduceCtorEq]
    repeat' apply And.intro
    all_goals try exact gB
    all_goals first|(refine hK _ ?_;clear hK K)|(simp only [push_cast];done)
    refine zL fun K hK=> ?_
    refine za false zQ zO ?_ rfl ?_
    ·kernel_rfl
    all_goals simp only [push_cast,↓zK,↓zJ,↓reduceIte,zA,zB,zC,zD,zE,zF,zG,zH,zI,reduceCtorEq]
    all_goals repeat'(first|(apply zP<;>(intro hg;(try simp only [push_cast]at hg)))|apply And.intro|(intro hg;(try simp only [push_cast]at hg)))
    all_goals try exact gA
    all_goals first|(refine hK _ ?_;clear hK K)|(simp only [push_cast];done)
    all_goals refine zU rfl (fun hc=> ?_) (fun hc=> ?_)
    all_goals(first|(cases hc;done)|skip)
    all_goals(try simp only [push_cast]at hc)
    all_goals first
     |(
       refine zV ?_
       (try simp only [zR,zS,reduceIte,zF]);refine hK4 _ ?_
       refine zM zQ zO [] rfl ?_
       simp only [push_cast,↓zK,↓zJ,↓reduceIte,zA,zB,zC,zD,zE,zF,zG,zH,zI,reduceCtorEq]
       repeat' apply And.intro
       all_goals try exact gB
       refine hL0 _ ⟨k+1,⟨by omega,fun j hj=>(by
         by_cases hjk:j=k
         ·subst hjk;omega
         ·exact hall j (by omega))⟩,by omega,?_⟩
       refine zX rfl ?_ ?_ ?_<;>simp only [zg,zf,push_cast,↓zK,↓zJ,↓reduceIte,zA,zB,zC,zD,zE,zF,zG,zH,zI,reduceCtorEq]
       done)
     |(
       refine zL fun K hK=> ?_
       refine zM zQ zO [] rfl ?_
       simp only [push_cast,↓zK,↓zJ,↓reduceIte,zA,zB,zC,zD,zE,zF,zG,zH,zI,reduceCtorEq]
       repeat' apply And.intro
       all_goals try exact gB
       all_goals first|(refine hK _ ?_;clear hK K)|(simp only [push_cast];done)
       refine zc ?_
       (try simp only [zR,zS])
       refine⟨Or.inl rfl,?_⟩
       simp only [zi,push_cast,↓zK,↓zJ,↓reduceIte,zA,zB,zC,zD,zE,zF,zG,zH,zI,reduceCtorEq]
       symm
       exact zFF (v:=k) (by omega) (by omega) (by omega)
       done)
   ·
    refine zm ?_
    (try simp only [zR,zS,reduceIte,zF]);refine hK2 _ ?_
    refine zL fun K hK=> ?_
    refine zM zQ zO [] rfl ?_
    simp only [push_cast,↓zK,↓zJ,↓reduceIte,zA,zB,zC,zD,zE,zF,zG,zH,zI,reduceCtorEq]
    repeat' apply And.intro
    all_goals try exact gB
    all_goals first|(refine hK _ ?_;clear hK K)|(simp only [push_cast];done)
    refine zc ?_
    (try simp only [zR,zS])
    refine⟨Or.inl rfl,?_⟩
    simp only [zi,push_cast,↓zK,↓zJ,↓reduceIte,zA,zB,zC,zD,zE,zF,zG,zH,zI,reduceCtorEq]
    symm
    exact WO (by with_reducible assumption) fun v hv=>hall v (by omega)
set_option maxRecDepth 20000 in
set_option maxHeartbeats 4000000 in
theorem jo (a:Ar)(ha:a.Ln 1048576)(m:Me)(hm:m.Ln 1048576)(odd:List Int)(ho:LnI 1048576 odd)(start:Int):Fn Try.prog tyT 25 [.agg (dAr a), .agg (dMe m), .c (DI odd), .c (.int .i64 start)] [.agg (dLs (wX a m odd start).1), .c (.bool (wX a m odd start).2)]:=by
 unfold LnI at ho
 have hno:=ha.owner
 unfold LnI at hno
 have hmr: ∀s,(gl m.next s).length≤1048576:=fun s=>wu hm.next s
 have hmc: ∀s,(gl m.choice s).length≤1048576:=fun s=>wu hm.choice s
 have hm1:=hm.next.1
 have hm2:=hm.choice.1
 generalize hR:wX a m odd start=R
 have hA:=Xt a ha
 have hM:=fun h=>Jk a ha h m hm
 have hF:=fun h=>zFT a ha h 1 odd ho
 have hV:=WQ a start
 unfold dAr at hA hM hF hV
 unfold dMe at hM
 unfold dAr dMe dLs
 refine Vs (fn:=Try.f25) (rs:= [.cell 8 58, .tmp 9]) zQ zO Try.func25 (by kernel_rfl) rfl rfl (by rw [Try.ntmps25];exact Nat.le_of_ble_eq_true rfl) rfl (by simp only [szA,List.mem_cons,List.not_mem_nil,or_false,forall_eq_or_imp,forall_eq,VT.cells,szL];try decide) ?_
 rw [Try.ntmps25]
 simp only [push_cast,↓zK,↓zJ,↓reduceIte,zA,zB,zC,zD,zE,zF,zG,zH,zI,reduceCtorEq]
 refine zL fun K hK=> ?_
 refine zM zQ zO [] rfl ?_
 all_goals simp only [push_cast,↓zK,↓zJ,↓reduceIte,zA,zB,zC,zD,zE,zF,zG,zH,zI,reduceCtorEq]
 all_goals repeat'(first|(apply zP<;>(intro hg;(try simp only [push_cast]at hg)))|apply And.intro|(intro hg;(try simp only [push_cast]at hg)))
 all_goals first|exact gA|(exact zN (by omega))|skip
 all_goals first|(refine hK _ ?_;clear hK K)|(simp only [push_cast];done)
 refine zL fun K1 hK1=> ?_
 refine zL fun K hK=> ?_
 refine za false zQ zO ?_ rfl ?_
 ·kernel_rfl
 all_goals refine zo 2 fun K9 hK9=> ?_
 all_goals simp only [push_cast,↓zK,↓zJ,↓reduceIte,zA,zB,zC,zD,zE,zF,zG,zH,zI,reduceCtorEq]
 all_goals repeat'(first|(apply zP<;>(intro hg;(try simp only [push_cast]at hg)))|(refine⟨_,hA,?_⟩;simp only [push_cast,↓zK,↓zJ,↓reduceIte,zA,zB,zC,zD,zE,zF,zG,zH,zI,reduceCtorEq])|(refine⟨_,hM (zl (by with_reducible assumption)).2.2,?_⟩;simp only [push_cast,↓zK,↓zJ,↓reduceIte,zA,zB,zC,zD,zE,zF,zG,zH,zI,reduceCtorEq])|(refine⟨_,hF (zl (by with_reducible assumption)).2.2,?_⟩;simp only [push_cast,↓zK,↓zJ,↓reduceIte,zA,zB,zC,zD,zE,zF,zG,zH,zI,reduceCtorEq])|(refine⟨_,hV,?_⟩;simp only [push_cast,↓zK,↓zJ,↓reduceIte,zA,zB,zC,zD,zE,zF,zG,zH,zI,reduceCtorEq])|apply And.intro|(intro hg;(try simp only [push_cast]at hg)))
 all_goals first|exact gA|(exact zN (by omega))|skip
 all_goals first|(refine hK9 _ ?_;clear hK9 K9)|(simp only [push_cast];done)
 all_goals refine zo 5 fun K9 hK9=> ?_
 all_goals simp only [push_cast,↓zK,↓zJ,↓reduceIte,zA,zB,zC,zD,zE,zF,zG,zH,zI,reduceCtorEq]
 all_goals repeat'(first|(apply zP<;>(intro hg;(try simp only [push_cast]at hg)))|(refine⟨_,hA,?_⟩;simp only [push_cast,↓zK,↓zJ,↓reduceIte,zA,zB,zC,zD,zE,zF,zG,zH,zI,reduceCtorEq])|(refine⟨_,hM (zl (by with_reducible assumption)).2.2,?_⟩;simp only [push_cast,↓zK,↓zJ,↓reduceIte,zA,zB,zC,zD,zE,zF,zG,zH,zI,reduceCtorEq])|(refine⟨_,hF (zl (by with_reducible assumption)).2.2,?_⟩;simp only [push_cast,↓zK,↓zJ,↓reduceIte,zA,zB,zC,zD,zE,zF,zG,zH,zI,reduceCtorEq])|(refine⟨_,hV,?_⟩;simp only [push_cast,↓zK,↓zJ,↓reduceIte,zA,zB,zC,zD,zE,zF,zG,zH,zI,reduceCtorEq])|apply And.intro|(intro hg;(try simp only [push_cast]at hg)))
 all_goals first|exact gA|(exact zN (by omega))|skip
 all_goals first|(refine hK9 _ ?_;clear hK9 K9)|(simp only [push_cast];done)
 all_goals refine zo 6 fun K9 hK9=> ?_
 all_goals simp only [push_cast,↓zK,↓zJ,↓reduceIte,zA,zB,zC,zD,zE,zF,zG,zH,zI,reduceCtorEq]
 all_goals repeat'(first|(apply zP<;>(intro hg;(try simp only [push_cast]at hg)))|(refine⟨_,hA,?_⟩;simp only [push_cast,↓zK,↓zJ,↓reduceIte,zA,zB,zC,zD,zE,zF,zG,zH,zI,reduceCtorEq])|(refine⟨_,hM (zl (by with_reducible assumption)).2.2,?_⟩;simp only [push_cast,↓zK,↓zJ,↓reduceIte,zA,zB,zC,zD,zE,zF,zG,zH,zI,reduceCtorEq])|(refine⟨_,hF (zl (by with_reducible assumption)).2.2,?_⟩;simp only [push_cast,↓zK,↓zJ,↓reduceIte,zA,zB,zC,zD,zE,zF,zG,zH,zI,reduceCtorEq])|(refine⟨_,hV,?_⟩;simp only [push_cast,↓zK,↓zJ,↓reduceIte,zA,zB,zC,zD,zE,zF,zG,zH,zI,reduceCtorEq])|apply And.intro|(intro hg;(try simp only [push_cast]at hg)))
 all_goals first|exact gA|(exact zN (by omega))|skip
 all_goals first|(refine hK9 _ ?_;clear hK9 K9)|(simp only [push_cast];done)
 all_goals refine zo 6 fun K9 hK9=> ?_
 all_goals simp only [push_cast,↓zK,↓zJ,↓reduceIte,zA,zB,zC,zD,zE,zF,zG,zH,zI,reduceCtorEq]
 all_goals repeat'(first|(apply zP<;>(intro hg;(try simp only [push_cast]at hg)))|(refine⟨_,hA,?_⟩;simp only [push_cast,↓zK,↓zJ,↓reduceIte,zA,zB,zC,zD,zE,zF,zG,zH,zI,reduceCtorEq])|(refine⟨_,hM (zl (by with_reducible assumption)).2.2,?_⟩;simp only [push_cast,↓zK,↓zJ,↓reduceIte,zA,zB,zC,zD,zE,zF,zG,zH,zI,reduceCtorEq])|(refine⟨_,hF (zl (by with_reducible assumption)).2.2,?_⟩;simp only [push_cast,↓zK,↓zJ,↓reduceIte,zA,zB,zC,zD,zE,zF,zG,zH,zI,reduceCtorEq])|(refine⟨_,hV,?_⟩;simp only [push_cast,↓zK,↓zJ,↓reduceIte,zA,zB,zC,zD,zE,zF,zG,zH,zI,reduceCtorEq])|apply And.intro|(intro hg;(try simp only [push_cast]at hg)))
 all_goals first|exact gA|(exact zN (by omega))|skip
 all_goals first|(refine hK9 _ ?_;clear hK9 K9)|(simp only [push_cast];done)
 all_goals simp only [push_cast,↓zK,↓zJ,↓reduceIte,zA,zB,zC,zD,zE,zF,zG,zH,zI,reduceCtorEq]
 all_goals repeat'(first|(apply zP<;>(intro hg;(try simp only [push_cast]at hg)))|(refine⟨_,hA,?_⟩;simp only [push_cast,↓zK,↓zJ,↓reduceIte,zA,zB,zC,zD,zE,zF,zG,zH,zI,reduceCtorEq])|(refine⟨_,hM (zl (by with_reducible assumption)).2.2,?_⟩;simp only [push_cast,↓zK,↓zJ,↓reduceIte,zA,zB,zC,zD,zE,zF,zG,zH,zI,reduceCtorEq])|(refine⟨_,hF (zl (by with_reducible assumption)).2.2,?_⟩;simp only [push_cast,↓zK,↓zJ,↓reduceIte,zA,zB,zC,zD,zE,zF,zG,zH,zI,reduceCtorEq])|(refine⟨_,hV,?_⟩;simp only [push_cast,↓zK,↓zJ,↓reduceIte,zA,zB,zC,zD,zE,zF,zG,zH,zI,reduceCtorEq])|apply And.intro|(intro hg;(try simp only [push_cast]at hg)))
 all_goals first|exact gA|(exact zN (by omega))|skip
 all_goals first|(refine hK _ ?_;clear hK K)|(simp only [push_cast];done)
 all_goals refine zU rfl (fun hc=> ?_) (fun hc=> ?_)
 all_goals(first|(cases hc;done)|skip)
 all_goals(try simp only [push_cast]at hc)
 all_goals try(
   refine zL fun K hK=> ?_
   refine zM zQ zO [] rfl ?_
   all_goals simp only [push_cast,↓zK,↓zJ,↓reduceIte,zA,zB,zC,zD,zE,zF,zG,zH,zI,reduceCtorEq]
   all_goals repeat'(first|(apply zP<;>(intro hg;(try simp only [push_cast]at hg)))|apply And.intro|(intro hg;(try simp only [push_cast]at hg)))
   all_goals first|exact gA|(exact zN (by omega))|skip
   all_goals first|(refine hK _ ?_;clear hK K)|(simp only [push_cast];done)
   refine zc ?_
   (try simp only [zR,zS])
   refine⟨Or.inl rfl,?_⟩
   simp only [zi,yS,xU,push_cast,↓zK,↓zJ,↓reduceIte,zA,zB,zC,zD,zE,zF,zG,zH,zI,reduceCtorEq]
   have h9:R=(⟨[],[]⟩,false):=by
    rw [←hR]
    first|exact UX (Or.inl (by with_reducible assumption))|exact UX (Or.inr (Or.inl (by with_reducible assumption)))|exact UX (Or.inr (Or.inr (Or.inl (by with_reducible assumption))))|exact UX (Or.inr (Or.inr (Or.inr (by omega))))
   rw [h9]
   all_goals first|rfl|(simp [dI];done)|(simp [dI];omega)
   done)
 refine zV ?_
 (try simp only [zR,zS,reduceIte,zF]);refine hK1 _ ?_
 have h1:zu a=true:=by with_reducible assumption
 have h2:va a m=true:=by with_reducible assumption
 have h3:qt a 1 odd=true:=by with_reducible assumption
 have h4:0≤start∧start<a.owner.length:=by omega
 have hal:=zl h1
 have hR0:vd a m odd 6145 [] [] start 0=R:=by rw [←hR,zFg h1 h2 h3 h4]
 obtain⟨hk1,hk2⟩:=wW h2
 have hop:=(wC (YF h3).1).1
 refine zL fun K hK=> ?_
 refine zM zQ zO [] rfl ?_
 all_goals simp only [push_cast,↓zK,↓zJ,↓reduceIte,zA,zB,zC,zD,zE,zF,zG,zH,zI,reduceCtorEq]
 all_goals repeat'(first|(apply zP<;>(intro hg;(try simp only [push_cast]at hg)))|apply And.intro|(intro hg;(try simp only [push_cast]at hg)))
 all_goals first|exact gA|(exact zN (by omega))|skip
 all_goals first|(refine hK _ ?_;clear hK K)|(simp only [push_cast];done)
 refine zL fun K hK=> ?_
 refine zM zQ zO [] rfl ?_
 all_goals simp only [push_cast,↓zK,↓zJ,↓reduceIte,zA,zB,zC,zD,zE,zF,zG,zH,zI,reduceCtorEq]
 all_goals repeat'(first|(apply zP<;>(intro hg;(try simp only [push_cast]at hg)))|apply And.intro|(intro hg;(try simp only [push_cast]at hg)))
 all_goals first|exact gA|(exact zN (by omega))|skip
 all_goals first|(refine hK _ ?_;clear hK K)|(simp only [push_cast];done)
 refine zT ?_
 refine zh [9,10,11,12,13,14,15,16,17,21,27,33,43,44,45,46,47,48,49,50,51,52,53,54,55,56,57,58,59,60,61,62,63,64,65,66,67,68,69,70,71,72,73,74,75,76,77,78,79,80,81,82,83,84,85,86,87,88,89,90,91,92,93,94,95,96,97,98,99,100,101,102,103,104,105,106,107,108,109,110,111,112,113,114,115,116,117,118,119,120,121,122] [160,176] (fun(p:List Int×List Int×Int×Int×Nat)=> [(12, .int .i64 p.2.2.1),(13, .int .i64 p.2.2.2.1),(10, .sl 160 [] 0 p.1.length 2),(11, .sl 176 [] 0 p.2.1.length 2)]) (fun p=> []) (fun p=> [(160,⟨.ex,2,dI p.1,none⟩),(176,⟨.ex,2,dI p.2.1,none⟩)]) (fun p=>Ws a m p.1 p.2.1 p.2.2.1 p.2.2.2.1∧vd a m odd p.2.2.2.2 p.1 p.2.1 p.2.2.1 p.2.2.2.1=R∧p.2.2.2.2+p.1.length=6145) (fun p=>p.2.2.2.2) ([],[],start,0,6145) ?_ ⟨⟨rfl,fun j hj=>by simp at hj,fun j hj=>by simp at hj,h4,by dsimp only;omega⟩,hR0,rfl⟩ ?_
 ·
  rw [show dI ([]:List Int)= []from rfl]
  refine zX rfl ?_ ?_ ?_<;>simp only [zg,zf,push_cast,↓zK,↓zJ,↓reduceIte,zA,zB,zC,zD,zE,zF,zG,zH,zI,reduceCtorEq]
 ·rintro⟨path,st,v,s,F⟩ ⟨hP,hrun,hF⟩ KL0 hL0
  dsimp only at hP hrun hF
  obtain⟨F,rfl⟩: ∃F9,F=F9+1:=⟨F - 1,by have :=hP.le hal.2.1 hk1.2.1;omega⟩
  have hlen:=hP.len
  have hvv:=hP.hv
  have hss:=hP.hs
  have hple:=hP.le hal.2.1 hk1.2.1
  obtain⟨hgu,hgs⟩:=go_rg h1 h2 h3 hP.hv hP.hs
  obtain⟨hrl,hrp,hrr⟩:=hk2 s.toNat (by omega)
  have hcl:=(wC hrp).1
  simp only [push_cast,↓zK,↓zJ,↓reduceIte,zA,zB,zC,zD,zE,zF,zG,zH,zI,reduceCtorEq]
  refine zT ?_
  refine zL fun K2 hK2=> ?_
  refine zL fun K hK=> ?_
  refine zM zQ zO [] rfl ?_
  all_goals simp only [push_cast,↓zK,↓zJ,↓reduceIte,zA,zB,zC,zD,zE,zF,zG,zH,zI,reduceCtorEq]
  all_goals repeat'(first|(apply zP<;>(intro hg;(try simp only [push_cast]at hg)))|apply And.intro|(intro hg;(try simp only [push_cast]at hg)))
  all_goals first|exact gA|(exact zN (by omega))|skip
  all_goals first|(refine hK _ ?_;clear hK K)|(simp only [push_cast];done)
  refine zT ?_
  refine zh [9,14,15,16,21,27,33,45,46,47,48,49,50,51,52,53,54,55,56,57,58,59,60,61,62,63,64,65,66,67,68,69,70,71,72,73,74,75,76,77,78,79,80,81,82,83,84] [] (fun(k:Nat)=> [(45, .int .i64 k)]) (fun k=> []) (fun k=> []) (fun k=>k≤path.length∧fvN path st v s 0 path.length=fvN path st v s k (path.length - k)∧∀j,j<k→¬(gi path j=v∧gi st j=s)) (fun k=>path.length - k) 0 ?_ ⟨by omega,by rw [Nat.sub_zero],fun j hj=>by omega⟩ ?_
  ·
   refine zX rfl ?_ ?_ ?_<;>simp only [zg,zf,push_cast,↓zK,↓zJ,↓reduceIte,zA,zB,zC,zD,zE,zF,zG,zH,zI,reduceCtorEq]
  ·rintro k ⟨hk,hfv,hall⟩ KL1 hL1
   simp only [push_cast,↓zK,↓zJ,↓reduceIte,zA,zB,zC,zD,zE,zF,zG,zH,zI,reduceCtorEq]
   refine zL fun K hK=> ?_
   refine zM zQ zO [] rfl ?_
   all_goals simp only [push_cast,↓zK,↓zJ,↓reduceIte,zA,zB,zC,zD,zE,zF,zG,zH,zI,reduceCtorEq]
   all_goals repeat'(first|(apply zP<;>(intro hg;(try simp only [push_cast]at hg)))|apply And.intro|(intro hg;(try simp only [push_cast]at hg)))
   all_goals first|exact gA|(exact zN (by omega))|skip
   all_goals first|(refine hK _ ?_;clear hK K)|(simp only [push_cast];done)
   refine zL fun K3 hK3=> ?_
   refine zU rfl (fun hc=> ?_) (fun hc=> ?_)<;>(try simp only [push_cast]at hc)
   ·
    refine zV ?_
    (try simp only [zR,zS,reduceIte,zF]);refine hK3 _ ?_
    refine zL fun K4 hK4=> ?_
    refine zT ?_
    refine zL fun K hK=> ?_
    refine zM zQ zO [] rfl ?_
    all_goals simp only [push_cast,↓zK,↓zJ,↓reduceIte,zA,zB,zC,zD,zE,zF,zG,zH,zI,reduceCtorEq]
    all_goals repeat'(first|(apply zP<;>(intro hg;(try simp only [push_cast]at hg)))|apply And.intro|(intro hg;(try simp only [push_cast]at hg)))
    all_goals first|exact gA|(exact zN (by omega))|skip
    all_goals first|(refine hK _ ?_;clear hK K)|(simp only [push_cast];done)
    refine zL fun K hK=> ?_
    refine za false zQ zO ?_ rfl ?_
    ·kernel_rfl
    all_goals simp only [push_cast,↓zK,↓zJ,↓reduceIte,zA,zB,zC,zD,zE,zF,zG,zH,zI,reduceCtorEq]
    all_goals repeat'(first|(apply zP<;>(intro hg;(try simp only [push_cast]at hg)))|apply And.intro|(intro hg;(try simp only [push_cast]at hg)))
    all_goals first|exact gA|(exact zN (by omega))|skip
    all_goals first|(refine hK _ ?_;clear hK K)|(simp only [push_cast];done)
    all_goals refine zU rfl (fun hc=> ?_) (fun hc=> ?_)
    all_goals(first|(cases hc;done)|skip)
    all_goals(try simp only [push_cast]at hc)
    all_goals first
     |(
       refine zV ?_
       (try simp only [zR,zS,reduceIte,zF]);refine hK4 _ ?_
       refine zM zQ zO [] rfl ?_
       all_goals simp only [push_cast,↓zK,↓zJ,↓reduceIte,zA,zB,zC,zD,zE,zF,zG,zH,zI,reduceCtorEq]
       all_goals repeat'(first|(apply zP<;>(intro hg;(try simp only [push_cast]at hg)))|apply And.intro|(intro hg;(try simp only [push_cast]at hg)))
       all_goals first|exact gA|(exact zN (by omega))|skip
       refine hL1 _ ⟨k+1,⟨by omega,by rw [hfv,zAf (by omega),if_neg (by omega)],fun j hj=>(by
         by_cases hjk:j=k
         ·subst hjk;omega
         ·exact hall j (by omega))⟩,by omega,?_⟩
       refine zX rfl ?_ ?_ ?_<;>simp only [zg,zf,push_cast,↓zK,↓zJ,↓reduceIte,zA,zB,zC,zD,zE,zF,zG,zH,zI,reduceCtorEq]
       done)
     |(
       have hf:fvN path st v s 0 path.length=k:=by rw [hfv,zAf (by omega),if_pos (by omega)]
       refine zL fun K hK=> ?_
       refine yB false zQ zO xW ?_ rfl ?_
       ·kernel_rfl
       intro E hE
       all_goals simp only [push_cast,↓zK,↓zJ,↓reduceIte,zA,zB,zC,zD,zE,zF,zG,zH,zI,reduceCtorEq]
       all_goals repeat'(first|(apply zP<;>(intro hg;(try simp only [push_cast]at hg)))|apply And.intro|(intro hg;(try simp only [push_cast]at hg)))
       all_goals first|exact gA|(refine hE _ _ ?_ ?_;kernel_rfl)|(exact zN (by omega))|skip
       all_goals clear hE E
       all_goals first|(refine hK _ ?_;clear hK K)|(simp only [push_cast];done)
       refine zL fun K5 hK5=> ?_
       refine zL fun K hK=> ?_
       refine za false zQ zO ?_ rfl ?_
       ·kernel_rfl
       all_goals simp only [push_cast,↓zK,↓zJ,↓reduceIte,zA,zB,zC,zD,zE,zF,zG,zH,zI,reduceCtorEq]
       all_goals repeat'(first|(apply zP<;>(intro hg;(try simp only [push_cast]at hg)))|apply And.intro|(intro hg;(try simp only [push_cast]at hg)))
       all_goals first|exact gA|(exact zN (by omega))|skip
       all_goals first|(refine hK _ ?_;clear hK K)|(simp only [push_cast];done)
       all_goals refine zU rfl (fun hc=> ?_) (fun hc=> ?_)
       all_goals(first|(cases hc;done)|skip)
       all_goals(try simp only [push_cast]at hc)
       all_goals try(
         refine zL fun K hK=> ?_
         refine zM zQ zO [] rfl ?_
         all_goals simp only [push_cast,↓zK,↓zJ,↓reduceIte,zA,zB,zC,zD,zE,zF,zG,zH,zI,reduceCtorEq]
         all_goals repeat'(first|(apply zP<;>(intro hg;(try simp only [push_cast]at hg)))|apply And.intro|(intro hg;(try simp only [push_cast]at hg)))
         all_goals first|exact gA|(exact zN (by omega))|skip
         all_goals first|(refine hK _ ?_;clear hK K)|(simp only [push_cast];done)
         refine zc ?_
         (try simp only [zR,zS])
         refine⟨Or.inl rfl,?_⟩
         simp only [zi,yS,xU,push_cast,↓zK,↓zJ,↓reduceIte,zA,zB,zC,zD,zE,zF,zG,zH,zI,reduceCtorEq]
         have h9:R=(⟨[],[]⟩,false):=hrun.symm.trans (zHY hf (by omega) (by omega))
         rw [h9]
         all_goals first|rfl|(simp [dI];done)|(simp [dI];omega)
         done)
       refine zV ?_
       (try simp only [zR,zS,reduceIte,zF]);refine hK5 _ ?_
       refine zL fun K hK=> ?_
       refine zM zQ zO [] rfl ?_
       all_goals simp only [push_cast,↓zK,↓zJ,↓reduceIte,zA,zB,zC,zD,zE,zF,zG,zH,zI,reduceCtorEq]
       all_goals repeat'(first|(apply zP<;>(intro hg;(try simp only [push_cast]at hg)))|apply And.intro|(intro hg;(try simp only [push_cast]at hg)))
       all_goals first|exact gA|(exact zN (by omega))|skip
       all_goals first|(refine hK _ ?_;clear hK K)|(simp only [push_cast];done)
       refine zc ?_
       (try simp only [zR,zS])
       refine⟨Or.inl rfl,?_⟩
       simp only [zi,yS,xU,push_cast,↓zK,↓zJ,↓reduceIte,zA,zB,zC,zD,zE,zF,zG,zH,zI,reduceCtorEq]
       have h9:R=(⟨path.take k,path.drop k⟩,true):=hrun.symm.trans (zBO hf (by omega) (by omega))
       try rw [List.take_of_length_le (l:=path.drop k) (by rw [List.length_drop];omega)]
       rw [h9]
       all_goals first|rfl|(simp [dI];done)|(simp [dI];omega)
       done)
   ·
    refine zm ?_
    have hkk:k=path.length:=by omega
    subst hkk
    have hf:fvN path st v s 0 path.length=path.length:=by rw [hfv,Nat.sub_self];rfl
    (try simp only [zR,zS,reduceIte,zF]);refine hK2 _ ?_
    refine zL fun K hK=> ?_
    refine zM zQ zO [] rfl ?_
    all_goals simp only [push_cast,↓zK,↓zJ,↓reduceIte,zA,zB,zC,zD,zE,zF,zG,zH,zI,reduceCtorEq]
    all_goals repeat'(first|(apply zP<;>(intro hg;(try simp only [push_cast]at hg)))|apply And.intro|(intro hg;(try simp only [push_cast]at hg)))
    all_goals first|exact gA|(exact zN (by omega))|skip
    all_goals first|(refine hK _ ?_;clear hK K)|(simp only [push_cast];done)
    refine zL fun K hK=> ?_
    refine zM zQ zO [] rfl ?_
    all_goals simp only [push_cast,↓zK,↓zJ,↓reduceIte,zA,zB,zC,zD,zE,zF,zG,zH,zI,reduceCtorEq]
    all_goals repeat'(first|(apply zP<;>(intro hg;(try simp only [push_cast]at hg)))|apply And.intro|(intro hg;(try simp only [push_cast]at hg)))
    all_goals first|exact gA|(exact zN (by omega))|skip
    all_goals first|(refine hK _ ?_;clear hK K)|(simp only [push_cast];done)
    refine zEo [17,21,27,33,53,76,97,98,99,100,101,102,103,104,105,106,107,108,109,110] [] (fun(u9:Unit)=> [(17, .int .i64 (goU a m odd v s))]) (fun u9=> []) (fun u9=> []) (fun u9=>True) ?_ ?_
    ·
     intro K6 hK6
     refine zL fun K hK=> ?_
     refine zM zQ zO [] rfl ?_
     all_goals simp only [push_cast,↓zK,↓zJ,↓reduceIte,zA,zB,zC,zD,zE,zF,zG,zH,zI,reduceCtorEq]
     all_goals repeat'(first|(apply zP<;>(intro hg;(try simp only [push_cast]at hg)))|apply And.intro|(intro hg;(try simp only [push_cast]at hg)))
     all_goals first|exact gA|(exact zN (by omega))|skip
     all_goals first|(refine hK _ ?_;clear hK K)|(simp only [push_cast];done)
     refine zU rfl (fun hc=> ?_) (fun hc=> ?_)<;>(try simp only [push_cast]at hc)
     ·
      refine zM zQ zO [] rfl ?_
      all_goals simp only [push_cast,↓zK,↓zJ,↓reduceIte,zA,zB,zC,zD,zE,zF,zG,zH,zI,reduceCtorEq]
      all_goals repeat'(first|(apply zP<;>(intro hg;(try simp only [push_cast]at hg)))|apply And.intro|(intro hg;(try simp only [push_cast]at hg)))
      all_goals first|exact gA|(exact zN (by omega))|skip
      (try simp only [zR,zS,reduceIte,zF])
      refine hK6 _ ⟨(),trivial,?_⟩
      refine zX rfl ?_ ?_ ?_<;>simp only [zg,zf,push_cast,↓zK,↓zJ,↓reduceIte,zA,zB,zC,zD,zE,zF,zG,zH,zI,reduceCtorEq]
      all_goals(refine congrArg (AV.int .i64) ?_;unfold goU;first|rw [if_pos (by omega)]|rw [if_neg (by omega)])
     ·
      refine zV ?_
      (try simp only [zR,zS,reduceIte,zF])
      refine hK6 _ ⟨(),trivial,?_⟩
      refine zX rfl ?_ ?_ ?_<;>simp only [zg,zf,push_cast,↓zK,↓zJ,↓reduceIte,zA,zB,zC,zD,zE,zF,zG,zH,zI,reduceCtorEq]
      all_goals(refine congrArg (AV.int .i64) ?_;unfold goU;first|rw [if_pos (by omega)]|rw [if_neg (by omega)])
    ·
     rintro u9 hj6
     simp only [push_cast,↓zK,↓zJ,↓reduceIte,zA,zB,zC,zD,zE,zF,zG,zH,zI,reduceCtorEq]
     refine zL fun K7 hK7=> ?_
     refine zL fun K hK=> ?_
     refine zM zQ zO [] rfl ?_
     all_goals simp only [push_cast,↓zK,↓zJ,↓reduceIte,zA,zB,zC,zD,zE,zF,zG,zH,zI,reduceCtorEq]
     all_goals repeat'(first|(apply zP<;>(intro hg;(try simp only [push_cast]at hg)))|apply And.intro|(intro hg;(try simp only [push_cast]at hg)))
     all_goals first|exact gA|(exact zN (by omega))|skip
     all_goals first|(refine hK _ ?_;clear hK K)|(simp only [push_cast];done)
     refine zU rfl (fun hc=> ?_) (fun hc=> ?_)<;>(try simp only [push_cast]at hc)
     ·
      refine zL fun K hK=> ?_
      refine zM zQ zO [] rfl ?_
      all_goals simp only [push_cast,↓zK,↓zJ,↓reduceIte,zA,zB,zC,zD,zE,zF,zG,zH,zI,reduceCtorEq]
      all_goals repeat'(first|(apply zP<;>(intro hg;(try simp only [push_cast]at hg)))|apply And.intro|(intro hg;(try simp only [push_cast]at hg)))
      all_goals first|exact gA|(exact zN (by omega))|skip
      all_goals first|(refine hK _ ?_;clear hK K)|(simp only [push_cast];done)
      refine zc ?_
      (try simp only [zR,zS])
      refine⟨Or.inl rfl,?_⟩
      simp only [zi,yS,xU,push_cast,↓zK,↓zJ,↓reduceIte,zA,zB,zC,zD,zE,zF,zG,zH,zI,reduceCtorEq]
      have h9:R=(⟨[],[]⟩,false):=hrun.symm.trans (zHX hf (by omega))
      rw [h9]
      all_goals first|rfl|(simp [dI];done)|(simp [dI];omega)
     ·
      refine zV ?_
      (try simp only [zR,zS,reduceIte,zF]);refine hK7 _ ?_
      refine yB false zQ zO xW ?_ rfl ?_
      ·kernel_rfl
      intro E hE
      all_goals simp only [push_cast,↓zK,↓zJ,↓reduceIte,zA,zB,zC,zD,zE,zF,zG,zH,zI,reduceCtorEq]
      all_goals repeat'(first|(apply zP<;>(intro hg;(try simp only [push_cast]at hg)))|apply And.intro|(intro hg;(try simp only [push_cast]at hg)))
      all_goals first|exact gA|(refine hE _ _ ?_ ?_;kernel_rfl)|(exact zN (by omega))|skip
      all_goals clear hE E
      refine hL0 _ ⟨(path++ [v],st++ [s],goU a m odd v s,goS m v s,F),⟨hP.next hall (by dsimp only;omega) hgs,(zDG hf (by omega)).symm.trans hrun,by simp only [List.length_append,List.length_cons,List.length_nil];omega⟩,by dsimp only;omega,?_⟩
      rw [show goS m v s=gi (gl m.next s.toNat) v.toNat from rfl]
      simp only [List.length_append,List.length_cons,List.length_nil,Nat.zero_add]
      refine zX rfl ?_ ?_ ?_<;>simp only [zg,zf,push_cast,↓zK,↓zJ,↓reduceIte,zA,zB,zC,zD,zE,zF,zG,zH,zI,reduceCtorEq]
end Go.Proofs.Ytggpbepdeilpgaa
