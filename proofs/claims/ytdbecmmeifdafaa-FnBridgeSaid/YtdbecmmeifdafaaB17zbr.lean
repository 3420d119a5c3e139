/- full plans and plays by them: plain -/
import Derived.Test.YtdbecmmeifdafaaB7zbr
import Derived.Test.YtdbecmmeifdafaaGWzbr
import Derived.Test.YtdbecmmeifdafaaB16zbr
import Derived.Test.YtdbecmmeifdafaaB15zbr
import Derived.Test.YtdbecmmeifdafaaB11zbr
import Derived.Test.YtdbecmmeifdafaaB14zbr
import Derived.Test.YtdbecmmeifdafaaB12zbr
namespace Go.Proofs.Ytdbecmmeifdafaa
open Go.RowKit
set_option linter.unusedVariables false
set_option linter.unusedSimpArgs false
theorem zAB : ∀(N:Nat) (l:List Nat),l.Nodup→(∀x∈l,x<N)→l.length≤N
 |0,l,_,h=>by
  cases l with
  |nil=>simp
  |cons x l=>have :=h x List.mem_cons_self;omega
 |N+1,l,hn,h=>by
  have h1:=List.length_eq_countP_add_countP (p:=fun x=>x==N) (l:=l)
  have h2:l.countP (fun x=>x==N)≤1:=List.nodup_iff_count.1 hn N
  have h4:=zAB N (l.filter (fun x=> !(x==N))) (hn.filter _) fun x hx=>by
   have h5:=List.mem_filter.1 hx
   have h6:=h x h5.1
   have h7: ¬x=N:=by simpa using h5.2
   omega
  have h3:(l.filter (fun x=> !(x==N))).length=l.countP (fun x=> !(x==N)):=(List.countP_eq_length_filter ..).symm
  have h8:l.countP (fun x=>decide ¬(x==N)=true)=l.countP (fun x=> !(x==N)):=by
   congr 1
   funext x
   by_cases e:x=N<;>simp [e]
  omega
theorem qf {xs:List Int}{y:Int}{j:Nat}(h:j<xs.length+1):gi (xs++ [y]) j=if j=xs.length then y else gi xs j:=by
 by_cases e:j=xs.length
 ·subst e;rw [if_pos rfl,Vp]
 ·rw [if_neg e,WZ (by omega)]
def xh (a:Ar)(who:Int)(plan:List Int):Bool:=vB a who plan&&ZB plan.length (fun v=> !(decide (gi a.owner v=who)&&decide (gi plan v<0)))
theorem zEN {a:Ar}{who:Int}{plan:List Int}(h:vB a who plan=false):xh a who plan=false:=by unfold xh;rw [h];rfl
theorem zFg {a:Ar}{who:Int}{plan:List Int}{v:Nat}(hv:v<plan.length)(h:gi a.owner v=who)(h2:gi plan v<0):xh a who plan=false:=by
 unfold xh;rw [vd hv (by rw [decide_eq_true h,decide_eq_true h2];rfl),Bool.and_false]
theorem uY {a:Ar}{who:Int}{plan:List Int}(h:vB a who plan=true)(h2: ∀v,v<plan.length→¬(gi a.owner v=who∧gi plan v<0)):xh a who plan=true:=by
 unfold xh
 rw [h,xO fun v hv=>by
  have :=h2 v hv
  rw [Bool.not_eq_true',Bool.and_eq_false_iff,decide_eq_false_iff_not,decide_eq_false_iff_not]
  omega]
 rfl
theorem zGq {xs:List Int}{n:Int}(h:qC xs n=true){j:Nat}(hj:j<xs.length):0≤gi xs j∧gi xs j<n:=by
 have :=xR h hj
 unfold qS at this
 have :=of_decide_eq_true this
 exact⟨this.1,this.2.1⟩
theorem zEC {a:Ar}(h:yA a=true){v:Nat}(hv:v<a.owner.length){u:Int}(hu:yE (gl a.next v) u=true):0≤u∧u<a.owner.length:=by
 have h1:=(yG h hv).2.2.2.2
 unfold yE ym at hu
 rw [decide_eq_true_eq]at hu
 have h2:=List.findIdx_getElem (p:=fun y=>y==u) (xs:=gl a.next v) (w:=hu)
 have h3:=zGq h1 hu
 have h4:gi (gl a.next v) ((gl a.next v).findIdx fun y=>y==u)=u:=by
  unfold gi
  rw [List.getD_eq_getElem?_getD,List.getElem?_eq_getElem hu]
  simpa using h2
 rw [h4]at h3
 exact h3
theorem YS {a:Ar}{who:Int}{plan:List Int}(h:xh a who plan=true):vB a who plan=true∧∀v,v<plan.length→¬(gi a.owner v=who∧gi plan v<0):=by
 unfold xh at h
 rw [Bool.and_eq_true]at h
 refine⟨h.1,fun v hv=> ?_⟩
 have :=xR (p:=fun v=> !(decide (gi a.owner v=who)&&decide (gi plan v<0))) h.2 hv
 simp only [Bool.not_eq_true',Bool.and_eq_false_iff,decide_eq_false_iff_not]at this
 omega
def goP (a:Ar)(even odd:List Int)(v:Int):Int:=if gi a.owner v.toNat=0 then gi even v.toNat else gi odd v.toNat
def WD (a:Ar)(even odd:List Int):Nat→List Int→Int→Ls
 |0,_,_=>⟨[],[]⟩
 |F+1,met,v=>if ym met v<met.length then⟨met.take (ym met v),met.drop (ym met v)⟩else WD a even odd F (met++ [v]) (goP a even odd v)
theorem zA4 {a:Ar}{even odd:List Int}{F:Nat}{met:List Int}{v:Int}(h:yE met v=true):WD a even odd (F+1) met v=⟨met.take (ym met v),met.drop (ym met v)⟩:=if_pos (of_decide_eq_true h)
theorem kH {a:Ar}{even odd:List Int}{F:Nat}{met:List Int}{v:Int}(h:yE met v=false):WD a even odd (F+1) met v=WD a even odd F (met++ [v]) (goP a even odd v):=if_neg (of_decide_eq_false h)
structure YZ (a:Ar)(even odd:List Int)(v0:Int)(met:List Int)(v:Int):Prop where
 rg: ∀j,j<met.length→0≤gi met j∧gi met j<a.owner.length
 ne: ∀j,j<met.length→∀i,i<j→¬gi met i=gi met j
 go: ∀j,j+1<met.length→gi met (j+1)=goP a even odd (gi met j)
 last:1≤met.length→v=goP a even odd (gi met (met.length - 1))
 f0:met.length=0→v=v0
 f1:1≤met.length→gi met 0=v0
 hv:0≤v∧v<a.owner.length
theorem YZ.start {a:Ar}{even odd:List Int}{v0:Int}(h:0≤v0∧v0<a.owner.length):YZ a even odd v0 [] v0:=
 ⟨fun j hj=>by simp at hj,fun j hj=>by simp at hj,fun j hj=>by simp at hj,fun h=>by simp at h,fun _=>rfl,fun h=>by simp at h,h⟩
theorem YZ.next {a:Ar}{even odd:List Int}{v0:Int}{met:List Int}{v:Int}(h:YZ a even odd v0 met v)(hn:yE met v=false)(hg:0≤goP a even odd v∧goP a even odd v<a.owner.length):YZ a even odd v0 (met++ [v]) (goP a even odd v):=by
 have hne: ∀i,i<met.length→¬gi met i=v:=fun i hi e=>by
  have h1:v∈met:=by rw [←e];exact List.mem_of_getElem? (vb hi)
  rw [←Zp]at h1
  rw [h1]at hn
  cases hn
 have hl:(met++ [v]).length=met.length+1:=by simp
 refine⟨fun j hj=> ?_,fun j hj i hi=> ?_,fun j hj=> ?_,fun _=> ?_,fun e=>by rw [hl]at e;omega,fun _=> ?_,hg⟩
 ·rw [hl]at hj
  rw [qf hj]
  split
  ·exact h.hv
  ·exact h.rg j (by omega)
 ·rw [hl]at hj
  rw [qf hj,qf (by omega),if_neg (by omega)]
  split
  ·exact hne i (by omega)
  ·exact h.ne j (by omega) i hi
 ·rw [hl]at hj
  rw [qf (j:=j+1) (by omega),qf (j:=j) (by omega),if_neg (show¬j=met.length by omega)]
  split
  ·have h5:=h.last (by omega)
   rw [show met.length - 1=j from by omega]at h5
   exact h5
  ·exact h.go j (by omega)
 ·rw [hl,Nat.add_sub_cancel,qf (j:=met.length) (by omega),if_pos rfl]
 ·rw [qf (by omega)]
  split
  ·exact h.f0 (by omega)
  ·exact h.f1 (by omega)
theorem uA {f:Nat→Nat}: ∀n,(∀i j,i<j→j<n→f i≠f j)→((List.range n).map f).Nodup
 |0,_=>by simp
 |n+1,h=>by
  rw [List.range_succ,List.map_append,List.nodup_append]
  refine⟨uA n fun i j hij hj=>h i j hij (by omega),by simp,fun x hx y hy=> ?_⟩
  obtain⟨i,hi,rfl⟩:=List.mem_map.1 hx
  have hy2:y=f n:=by simpa using hy
  rw [hy2]
  exact h i n (List.mem_range.1 hi) (by omega)
theorem YZ.le {a:Ar}{even odd:List Int}{v0:Int}{met:List Int}{v:Int}(h:YZ a even odd v0 met v):met.length≤a.owner.length:=by
 have hl:((List.range met.length).map fun j=>(gi met j).toNat).length=met.length:=by simp
 rw [←hl]
 refine zAB _ _ (uA _ fun i j hij hj=> ?_) fun x hx=> ?_
 ·have h1:=h.ne j hj i hij
  have h2:=h.rg i (by omega)
  have h3:=h.rg j hj
  omega
 ·obtain⟨j,hj,rfl⟩:=List.mem_map.1 hx
  have :=h.rg j (List.mem_range.1 hj)
  omega
theorem zBE {a:Ar}(ha:yA a=true){even odd:List Int}(h0:xh a 0 even=true)(h1:xh a 1 odd=true){v:Int}(hv:0≤v∧v<a.owner.length):yE (gl a.next v.toNat) (goP a even odd v)=true∧0≤goP a even odd v∧goP a even odd v<a.owner.length:=by
 obtain⟨p0,q0⟩:=YS h0
 obtain⟨p1,q1⟩:=YS h1
 obtain⟨l0,a0⟩:=wJ p0
 obtain⟨l1,a1⟩:=wJ p1
 have ho:=(yG ha (v:=v.toNat) (by omega))
 have h9:yE (gl a.next v.toNat) (goP a even odd v)=true:=by
  unfold goP
  split
  ·rename_i e
   have :=q0 v.toNat (by omega)
   rcases a0 v.toNat (by omega)with e2|e2
   ·omega
   ·exact e2.2
  ·rename_i e
   have :=q1 v.toNat (by omega)
   have h5:=ho.1
   have h6:=ho.2.1
   rcases a1 v.toNat (by omega)with e2|e2
   ·omega
   ·exact e2.2
 exact⟨h9,zEC ha (by omega) h9⟩
theorem zB4 {a:Ar}(ha:yA a=true){even odd:List Int}(h0:xh a 0 even=true)(h1:xh a 1 odd=true){v0:Int}: ∀(F:Nat) (met:List Int) (v:Int),YZ a even odd v0 met v→a.owner.length+1≤F+met.length→
  ∃m2 v2,YZ a even odd v0 m2 v2∧ym m2 v2<m2.length∧WD a even odd F met v=⟨m2.take (ym m2 v2),m2.drop (ym m2 v2)⟩
 |0,met,v,hM,hF=>by have :=hM.le;omega
 |F+1,met,v,hM,hF=>by
  cases hb:yE met v
  ·rw [kH hb]
   exact zB4 ha h0 h1 F _ _ (hM.next hb (zBE ha h0 h1 hM.hv).2) (by rw [List.length_append];simp;omega)
  ·exact⟨met,v,hM,of_decide_eq_true hb,zA4 hb⟩
def Vd (a:Ar)(even odd:List Int)(v:Int):Bool:=yA a&&(xh a 0 even&&(xh a 1 odd&&decide (0≤v∧v<a.owner.length)))
def Qj (a:Ar)(even odd:List Int)(v:Int):Ls:=if Vd a even odd v then WD a even odd 257 [] v else⟨[],[]⟩
theorem uX {a:Ar}{even odd:List Int}{v:Int}(ha:yA a=true)(h0:xh a 0 even=true)(h1:xh a 1 odd=true)(hv:0≤v∧v<a.owner.length):Vd a even odd v=true:=by unfold Vd;rw [ha,h0,h1,decide_eq_true hv];rfl
theorem zGI {a:Ar}{even odd:List Int}{v:Int}(h:Vd a even odd v=false):Qj a even odd v=⟨[],[]⟩:=if_neg (by rw [h];decide)
theorem uP {a:Ar}{even odd:List Int}{v:Int}(h:Vd a even odd v=true):Qj a even odd v=WD a even odd 257 [] v:=if_pos h
structure PlayP (a:Ar)(even odd:List Int)(v0:Int)(l:Ls):Prop where
 ok:xN a l=true
 first:gi (yW l) 0=v0
 rg: ∀i,i≤l.stem.length+l.loop.length→0≤gi (yW l) i∧gi (yW l) i<a.owner.length
 go: ∀i,i<l.stem.length+l.loop.length→gi (yW l) (i+1)=goP a even odd (gi (yW l) i)
 last:gi (yW l) (l.stem.length+l.loop.length)=gi (yW l) l.stem.length
 pos:1≤l.loop.length
 len:l.stem.length+l.loop.length≤a.owner.length
theorem zCr {a:Ar}(ha:yA a=true){even odd:List Int}(h0:xh a 0 even=true)(h1:xh a 1 odd=true){v0:Int}(hv:0≤v0∧v0<a.owner.length):PlayP a even odd v0 (Qj a even odd v0):=by
 have hn:=(zw ha).2.1
 obtain⟨m,v,hM,hk,he⟩:=zB4 ha h0 h1 257 [] v0 (YZ.start hv) (by simp;omega)
 rw [uP (uX ha h0 h1 hv),he]
 have hle:=hM.le
 have hsp:=zFC hk
 generalize ym m v=k at hk hsp⊢
 have hls:(m.take k).length=k:=by rw [List.length_take];omega
 have hll:(m.drop k).length=m.length - k:=List.length_drop ..
 have hg0:gi (m.drop k) 0=v:=by
  rw [←hsp]
  unfold gi
  rw [List.getD_eq_getElem?_getD,List.getElem?_drop,List.getD_eq_getElem?_getD,Nat.add_zero]
 have hw:yW ⟨m.take k,m.drop k⟩=m++ [v]:=by
  unfold yW
  show m.take k++m.drop k++ [gi (m.drop k) 0]=_
  rw [List.take_append_drop,hg0]
 have hlen:(yW ⟨m.take k,m.drop k⟩).length=m.length+1:=by rw [hw];simp
 have hrg: ∀i,i<m.length+1→0≤gi (m++ [v]) i∧gi (m++ [v]) i<a.owner.length:=fun i hi=>by
  rw [qf hi]
  split
  ·exact hM.hv
  ·exact hM.rg i (by omega)
 have hgo: ∀i,i<m.length→gi (m++ [v]) (i+1)=goP a even odd (gi (m++ [v]) i):=fun i hi=>by
  rw [qf (j:=i+1) (by omega),qf (j:=i) (by omega),if_neg (show¬i=m.length by omega)]
  split
  ·have h5:=hM.last (by omega)
   rw [show m.length - 1=i from by omega]at h5
   exact h5
  ·exact hM.go i (by omega)
 refine⟨vX.2 ⟨?_,?_,?_⟩,?_,?_,?_,?_,?_,?_⟩
 ·show(m.take k).length≤256∧1≤(m.drop k).length∧(m.drop k).length≤256
  omega
 ·intro j hj
  rw [hlen]at hj
  rw [hw]
  exact hrg j hj
 ·intro j hj1 hj
  rw [hlen]at hj
  rw [hw]
  obtain⟨i,rfl⟩: ∃i,j=i+1:=⟨j - 1,by omega⟩
  rw [hgo i (by omega),Nat.add_sub_cancel]
  exact(zBE ha h0 h1 (hrg i (by omega))).1
 ·rw [hw,qf (by omega)]
  split
  ·exact hM.f0 (by omega)
  ·exact hM.f1 (by omega)
 ·intro i hi
  rw [hw]
  refine hrg i ?_
  have :i≤(m.take k).length+(m.drop k).length:=hi
  omega
 ·intro i hi
  rw [hw]
  refine hgo i ?_
  have :i<(m.take k).length+(m.drop k).length:=hi
  omega
 ·show gi (yW ⟨m.take k,m.drop k⟩) ((m.take k).length+(m.drop k).length)=gi (yW ⟨m.take k,m.drop k⟩) (m.take k).length
  rw [hw,hls,hll,show k+(m.length - k)=m.length from by omega,qf (j:=m.length) (by omega),qf (j:=k) (by omega),if_pos rfl,if_neg (show¬k=m.length by omega),hsp]
 ·show 1≤(m.drop k).length
  omega
 ·show(m.take k).length+(m.drop k).length≤a.owner.length
  omega
theorem zEP (a:Ar)(even odd:List Int)(v:Int):(Qj a even odd v).Ln 1048576:=by
 cases h:Vd a even odd v
 ·rw [zGI h];exact⟨by simp [LnI],by simp [LnI]⟩
 ·unfold Vd at h
  simp only [Bool.and_eq_true,decide_eq_true_eq]at h
  have :=(vX.1 (zCr h.1 h.2.1 h.2.2.1 h.2.2.2).ok).1
  exact⟨by unfold LnI;omega,by unfold LnI;omega⟩
open Nat renaming reduceMod → zA, reduceMul → zB, reduceDiv → zC, reduceAdd → zD, reduceSub → zE, reduceEqDiff → zF, reduceBEq → zG, reduceLT → zH, reduceLeDiff → zI
set_option maxRecDepth 20000 in
set_option maxHeartbeats 4000000 in
theorem uG (a:Ar)(ha:a.Ln 1048576)(hok:yA a=true)(who:Int)(hw:0≤who∧who≤1)(plan:List Int)(hp:plan.length≤1048576):Fn Try.prog tyT 82 [.agg (dAr a), .c (.int .i64 who), .c (DI plan)] [.c (.bool (xh a who plan))]:=by
 have hno:=ha.owner
 unfold LnI at hno
 have hP:=Yj a ha who plan hp
 rw [WM hok hw]at hP
 unfold dAr at hP⊢
 refine zt (fn:=Try.f82) (ts:= [6]) Try.func82 (by kernel_rfl) rfl rfl (by rw [Try.ntmps82];exact Nat.le_of_ble_eq_true rfl) rfl (by simp only [szA,List.mem_cons,List.not_mem_nil,or_false,forall_eq_or_imp,forall_eq,VT.cells,szL];try decide) ?_
 rw [Try.ntmps82]
 simp only [push_cast,↓zK,↓zJ,↓reduceIte,zA,zB,zC,zD,zE,zF,zG,zH,zI,reduceCtorEq]
 refine zL fun K hK=> ?_
 refine zM zP zN [] rfl ?_
 simp only [push_cast,↓zK,↓zJ,↓reduceIte,zA,zB,zC,zD,zE,zF,zG,zH,zI,reduceCtorEq]
 repeat' apply And.intro
 all_goals try exact gB
 all_goals first|(refine hK _ ?_;clear hK K)|(simp only [push_cast];done)
 refine zL fun K1 hK1=> ?_
 refine zL fun K hK=> ?_
 refine zM zP zN [] rfl ?_
 all_goals refine zm 4 fun K9 hK9=> ?_
 all_goals simp only [push_cast,↓zK,↓zJ,↓reduceIte,zA,zB,zC,zD,zE,zF,zG,zH,zI,reduceCtorEq]
 all_goals repeat'(first|(apply zO<;>(intro hg;(try simp only [push_cast]at hg)))|(refine⟨_,hP,?_⟩;simp only [push_cast,↓zK,↓zJ,↓reduceIte,zA,zB,zC,zD,zE,zF,zG,zH,zI,reduceCtorEq])|apply And.intro|(intro hg;(try simp only [push_cast]at hg)))
 all_goals try exact gA
 all_goals first|(refine hK9 _ ?_;clear hK9 K9)|(simp only [push_cast];done)
 all_goals simp only [push_cast,↓zK,↓zJ,↓reduceIte,zA,zB,zC,zD,zE,zF,zG,zH,zI,reduceCtorEq]
 all_goals repeat'(first|(apply zO<;>(intro hg;(try simp only [push_cast]at hg)))|(refine⟨_,hP,?_⟩;simp only [push_cast,↓zK,↓zJ,↓reduceIte,zA,zB,zC,zD,zE,zF,zG,zH,zI,reduceCtorEq])|apply And.intro|(intro hg;(try simp only [push_cast]at hg)))
 all_goals try exact gA
 all_goals first|(refine hK _ ?_;clear hK K)|(simp only [push_cast];done)
 refine zU rfl (fun hc=> ?_) (fun hc=> ?_)<;>(try simp only [push_cast]at hc)
 ·
  refine zL fun K hK=> ?_
  refine zM zP zN [] rfl ?_
  simp only [push_cast,↓zK,↓zJ,↓reduceIte,zA,zB,zC,zD,zE,zF,zG,zH,zI,reduceCtorEq]
  repeat' apply And.intro
  all_goals try exact gB
  all_goals first|(refine hK _ ?_;clear hK K)|(simp only [push_cast];done)
  refine zX ?_
  (try simp only [zR,zS])
  refine⟨Or.inl rfl,?_⟩
  simp only [zg,push_cast,↓zK,↓zJ,↓reduceIte,zA,zB,zC,zD,zE,zF,zG,zH,zI,reduceCtorEq]
  symm
  exact zEN (by with_reducible assumption)
 ·
  refine zV ?_
  (try simp only [zR,zS,reduceIte,zF]);refine hK1 _ ?_
  refine zL fun K2 hK2=> ?_
  have hpok:vB a who plan=true:=by with_reducible assumption
  have hpn:=(wJ hpok).1
  refine zL fun K hK=> ?_
  refine zM zP zN [] rfl ?_
  simp only [push_cast,↓zK,↓zJ,↓reduceIte,zA,zB,zC,zD,zE,zF,zG,zH,zI,reduceCtorEq]
  repeat' apply And.intro
  all_goals try exact gB
  all_goals first|(refine hK _ ?_;clear hK K)|(simp only [push_cast];done)
  refine zT ?_
  refine zd [6,7,13,14,15,16,17,18,19,20,21,22,23,24,25,26,27,28,29,30,31,32] [] (fun(k:Nat)=> [(7, .int .i64 k)]) (fun k=> []) (fun k=> []) (fun k=>k≤plan.length∧∀j,j<k→¬(gi a.owner j=who∧gi plan j<0)) (fun k=>plan.length - k) 0 ?_ ⟨by omega,fun j hj=>by omega⟩ ?_
  ·
   refine zW rfl ?_ ?_ ?_<;>simp only [zc,zb,push_cast,↓zK,↓zJ,↓reduceIte,zA,zB,zC,zD,zE,zF,zG,zH,zI,reduceCtorEq]
  ·rintro k ⟨hk,hall⟩ KL0 hL0
   skip
   simp only [push_cast,↓zK,↓zJ,↓reduceIte,zA,zB,zC,zD,zE,zF,zG,zH,zI,reduceCtorEq]
   refine zL fun K3 hK3=> ?_
   refine zL fun K hK=> ?_
   refine zM zP zN [] rfl ?_
   simp only [push_cast,↓zK,↓zJ,↓reduceIte,zA,zB,zC,zD,zE,zF,zG,zH,zI,reduceCtorEq]
   repeat' apply And.intro
   all_goals try exact gB
   all_goals first|(refine hK _ ?_;clear hK K)|(simp only [push_cast];done)
   refine zU rfl (fun hc=> ?_) (fun hc=> ?_)<;>(try simp only [push_cast]at hc)
   ·
    refine zV ?_
    (try simp only [zR,zS,reduceIte,zF]);refine hK3 _ ?_
    refine zL fun K4 hK4=> ?_
    refine zT ?_
    refine zL fun K hK=> ?_
    refine zf false zP zN ?_ rfl ?_
    ·kernel_rfl
    all_goals simp only [push_cast,↓zK,↓zJ,↓reduceIte,zA,zB,zC,zD,zE,zF,zG,zH,zI,reduceCtorEq]
    all_goals repeat'(first|(apply zO<;>(intro hg;(try simp only [push_cast]at hg)))|apply And.intro|(intro hg;(try simp only [push_cast]at hg)))
    all_goals try exact gA
    all_goals first|(refine hK _ ?_;clear hK K)|(simp only [push_cast];done)
    all_goals refine zU rfl (fun hc=> ?_) (fun hc=> ?_)
    all_goals(first|(cases hc;done)|skip)
    all_goals(try simp only [push_cast]at hc)
    all_goals first
     |(
       refine zV ?_
       (try simp only [zR,zS,reduceIte,zF]);refine hK4 _ ?_
       refine zM zP zN [] rfl ?_
       simp only [push_cast,↓zK,↓zJ,↓reduceIte,zA,zB,zC,zD,zE,zF,zG,zH,zI,reduceCtorEq]
       repeat' apply And.intro
       all_goals try exact gB
       refine hL0 _ ⟨k+1,⟨by omega,fun j hj=>(by
         by_cases hjk:j=k
         ·subst hjk;omega
         ·exact hall j (by omega))⟩,by omega,?_⟩
       refine zW rfl ?_ ?_ ?_<;>simp only [zc,zb,push_cast,↓zK,↓zJ,↓reduceIte,zA,zB,zC,zD,zE,zF,zG,zH,zI,reduceCtorEq]
       done)
     |(
       refine zL fun K hK=> ?_
       refine zM zP zN [] rfl ?_
       simp only [push_cast,↓zK,↓zJ,↓reduceIte,zA,zB,zC,zD,zE,zF,zG,zH,zI,reduceCtorEq]
       repeat' apply And.intro
       all_goals try exact gB
       all_goals first|(refine hK _ ?_;clear hK K)|(simp only [push_cast];done)
       refine zX ?_
       (try simp only [zR,zS])
       refine⟨Or.inl rfl,?_⟩
       simp only [zg,push_cast,↓zK,↓zJ,↓reduceIte,zA,zB,zC,zD,zE,zF,zG,zH,zI,reduceCtorEq]
       symm
       exact zFg (v:=k) (by omega) (by omega) (by omega)
       done)
   ·
    refine ze ?_
    (try simp only [zR,zS,reduceIte,zF]);refine hK2 _ ?_
    refine zL fun K hK=> ?_
    refine zM zP zN [] rfl ?_
    simp only [push_cast,↓zK,↓zJ,↓reduceIte,zA,zB,zC,zD,zE,zF,zG,zH,zI,reduceCtorEq]
    repeat' apply And.intro
    all_goals try exact gB
    all_goals first|(refine hK _ ?_;clear hK K)|(simp only [push_cast];done)
    refine zX ?_
    (try simp only [zR,zS])
    refine⟨Or.inl rfl,?_⟩
    simp only [zg,push_cast,↓zK,↓zJ,↓reduceIte,zA,zB,zC,zD,zE,zF,zG,zH,zI,reduceCtorEq]
    symm
    exact uY (by with_reducible assumption) fun v hv=>hall v (by omega)
set_option maxRecDepth 20000 in
set_option maxHeartbeats 4000000 in
theorem zDO (xs:List Int)(x:Int)(hl:xs.length≤1048576):Fn Try.prog tyT 85 [.c (DI xs), .c (.int .i64 x)] [.c (.int .i64 (ixB xs x))]:=by
 refine zt (fn:=Try.f85) (ts:= [4]) Try.func85 (by kernel_rfl) rfl rfl (by rw [Try.ntmps85];exact Nat.le_of_ble_eq_true rfl) rfl (by simp only [szA,List.mem_cons,List.not_mem_nil,or_false,forall_eq_or_imp,forall_eq,VT.cells,szL];try decide) ?_
 rw [Try.ntmps85]
 simp only [push_cast,↓zK,↓zJ,↓reduceIte,zA,zB,zC,zD,zE,zF,zG,zH,zI,reduceCtorEq]
 refine zL fun K hK=> ?_
 refine zM zP zN [] rfl ?_
 simp only [push_cast,↓zK,↓zJ,↓reduceIte,zA,zB,zC,zD,zE,zF,zG,zH,zI,reduceCtorEq]
 repeat' apply And.intro
 all_goals try exact gB
 all_goals first|(refine hK _ ?_;clear hK K)|(simp only [push_cast];done)
 refine zL fun K1 hK1=> ?_
 refine zL fun K hK=> ?_
 refine zM zP zN [] rfl ?_
 simp only [push_cast,↓zK,↓zJ,↓reduceIte,zA,zB,zC,zD,zE,zF,zG,zH,zI,reduceCtorEq]
 repeat' apply And.intro
 all_goals try exact gB
 all_goals first|(refine hK _ ?_;clear hK K)|(simp only [push_cast];done)
 refine zT ?_
 refine zd [4,5,6,7,8,9,10,11,12,13,14,15,16,17,18] [] (fun(k:Nat)=> [(5, .int .i64 k)]) (fun k=> []) (fun k=> []) (fun k=>k≤xs.length∧∀j,j<k→¬gi xs j=x) (fun k=>xs.length - k) 0 ?_ ⟨by omega,fun j hj=>by omega⟩ ?_
 ·
  refine zW rfl ?_ ?_ ?_<;>simp only [zc,zb,push_cast,↓zK,↓zJ,↓reduceIte,zA,zB,zC,zD,zE,zF,zG,zH,zI,reduceCtorEq]
 ·rintro k ⟨hk,hall⟩ KL0 hL0
  simp only [push_cast,↓zK,↓zJ,↓reduceIte,zA,zB,zC,zD,zE,zF,zG,zH,zI,reduceCtorEq]
  refine zL fun K2 hK2=> ?_
  refine zL fun K hK=> ?_
  refine zM zP zN [] rfl ?_
  simp only [push_cast,↓zK,↓zJ,↓reduceIte,zA,zB,zC,zD,zE,zF,zG,zH,zI,reduceCtorEq]
  repeat' apply And.intro
  all_goals try exact gB
  all_goals first|(refine hK _ ?_;clear hK K)|(simp only [push_cast];done)
  refine zU rfl (fun hc=> ?_) (fun hc=> ?_)<;>(try simp only [push_cast]at hc)
  ·
   refine zV ?_
   (try simp only [zR,zS,reduceIte,zF]);refine hK2 _ ?_
   refine zL fun K3 hK3=> ?_
   refine zT ?_
   refine zL fun K hK=> ?_
   refine zM zP zN [] rfl ?_
   simp only [push_cast,↓zK,↓zJ,↓reduceIte,zA,zB,zC,zD,zE,zF,zG,zH,zI,reduceCtorEq]
   repeat' apply And.intro
   all_goals try exact gB
   all_goals first|(refine hK _ ?_;clear hK K)|(simp only [push_cast];done)
   refine zU rfl (fun hc=> ?_) (fun hc=> ?_)<;>(try simp only [push_cast]at hc)
   ·
    refine zL fun K hK=> ?_
    refine zM zP zN [] rfl ?_
    simp only [push_cast,↓zK,↓zJ,↓reduceIte,zA,zB,zC,zD,zE,zF,zG,zH,zI,reduceCtorEq]
    repeat' apply And.intro
    all_goals try exact gB
    all_goals first|(refine hK _ ?_;clear hK K)|(simp only [push_cast];done)
    refine zX ?_
    (try simp only [zR,zS])
    refine⟨Or.inl rfl,?_⟩
    simp only [zg,push_cast,↓zK,↓zJ,↓reduceIte,zA,zB,zC,zD,zE,zF,zG,zH,zI,reduceCtorEq]
    symm
    exact kh (k:=k) (by omega) hall (by omega)
   ·
    refine zV ?_
    (try simp only [zR,zS,reduceIte,zF]);refine hK3 _ ?_
    refine zM zP zN [] rfl ?_
    simp only [push_cast,↓zK,↓zJ,↓reduceIte,zA,zB,zC,zD,zE,zF,zG,zH,zI,reduceCtorEq]
    repeat' apply And.intro
    all_goals try exact gB
    refine hL0 _ ⟨k+1,⟨by omega,fun j hj=>(by
      by_cases hjk:j=k
      ·subst hjk;omega
      ·exact hall j (by omega))⟩,by omega,?_⟩
    refine zW rfl ?_ ?_ ?_<;>simp only [zc,zb,push_cast,↓zK,↓zJ,↓reduceIte,zA,zB,zC,zD,zE,zF,zG,zH,zI,reduceCtorEq]
  ·
   refine ze ?_
   (try simp only [zR,zS,reduceIte,zF]);refine hK1 _ ?_
   refine zL fun K hK=> ?_
   refine zM zP zN [] rfl ?_
   simp only [push_cast,↓zK,↓zJ,↓reduceIte,zA,zB,zC,zD,zE,zF,zG,zH,zI,reduceCtorEq]
   repeat' apply And.intro
   all_goals try exact gB
   all_goals first|(refine hK _ ?_;clear hK K)|(simp only [push_cast];done)
   refine zX ?_
   (try simp only [zR,zS])
   refine⟨Or.inl rfl,?_⟩
   simp only [zg,push_cast,↓zK,↓zJ,↓reduceIte,zA,zB,zC,zD,zE,zF,zG,zH,zI,reduceCtorEq]
   symm
   exact zBM fun j hj=>hall j (by omega)
set_option maxRecDepth 20000 in
set_option maxHeartbeats 4000000 in
theorem zFj (a:Ar)(ha:a.Ln 1048576)(hok:yA a=true)(even odd:List Int)(h0:xh a 0 even=true)(h1:xh a 1 odd=true)(v0:Int)(hv0:0≤v0∧v0<a.owner.length):Fn Try.prog tyT 33 [.agg (dAr a), .c (DI even), .c (DI odd), .c (.int .i64 v0)] [.agg (dLs (Qj a even odd v0)), .c (.bool true)]:=by
 have hal:=zw hok
 have hno:=ha.owner
 unfold LnI at hno
 obtain⟨f0,q0⟩:=YS h0
 obtain⟨f1,q1⟩:=YS h1
 have l0:=(wJ f0).1
 have l1:=(wJ f1).1
 have hF0:=uG a ha hok 0 (by omega) even (by omega)
 have hF1:=uG a ha hok 1 (by omega) odd (by omega)
 rw [h0]at hF0
 rw [h1]at hF1
 have hT:=zDW a v0 (by omega)
 rw [decide_eq_true hv0]at hT
 have hR0:=(uP (uX hok h0 h1 hv0)).symm
 generalize hR:Qj a even odd v0=R at hR0
 unfold dAr at hF0 hF1 hT
 unfold dAr dLs
 refine Qb (fn:=Try.f33) (rs:= [.cell 8 43, .tmp 9]) zP zN Try.func33 (by kernel_rfl) rfl rfl (by rw [Try.ntmps33];exact Nat.le_of_ble_eq_true rfl) rfl (by simp only [szA,List.mem_cons,List.not_mem_nil,or_false,forall_eq_or_imp,forall_eq,VT.cells,szL];try decide) ?_
 rw [Try.ntmps33]
 simp only [push_cast,↓zK,↓zJ,↓reduceIte,zA,zB,zC,zD,zE,zF,zG,zH,zI,reduceCtorEq]
 refine zL fun K hK=> ?_
 refine zM zP zN [] rfl ?_
 simp only [push_cast,↓zK,↓zJ,↓reduceIte,zA,zB,zC,zD,zE,zF,zG,zH,zI,reduceCtorEq]
 repeat' apply And.intro
 all_goals try exact gB
 all_goals first|(refine hK _ ?_;clear hK K)|(simp only [push_cast];done)
 refine zL fun K1 hK1=> ?_
 refine zL fun K hK=> ?_
 refine zf false zP zN ?_ rfl ?_
 ·kernel_rfl
 all_goals refine zp 3 fun K9 hK9=> ?_
 all_goals simp only [push_cast,↓zK,↓zJ,↓reduceIte,zA,zB,zC,zD,zE,zF,zG,zH,zI,reduceCtorEq]
 all_goals repeat'(first|(apply zO<;>(intro hg;(try simp only [push_cast]at hg)))|(refine⟨_,hF0,?_⟩;simp only [push_cast,↓zK,↓zJ,↓reduceIte,zA,zB,zC,zD,zE,zF,zG,zH,zI,reduceCtorEq])|(refine⟨_,hF1,?_⟩;simp only [push_cast,↓zK,↓zJ,↓reduceIte,zA,zB,zC,zD,zE,zF,zG,zH,zI,reduceCtorEq])|(refine⟨_,hT,?_⟩;simp only [push_cast,↓zK,↓zJ,↓reduceIte,zA,zB,zC,zD,zE,zF,zG,zH,zI,reduceCtorEq])|apply And.intro|(intro hg;(try simp only [push_cast]at hg)))
 all_goals try exact gA
 all_goals first|(refine hK9 _ ?_;clear hK9 K9)|(simp only [push_cast];done)
 all_goals refine zp 5 fun K9 hK9=> ?_
 all_goals simp only [push_cast,↓zK,↓zJ,↓reduceIte,zA,zB,zC,zD,zE,zF,zG,zH,zI,reduceCtorEq]
 all_goals repeat'(first|(apply zO<;>(intro hg;(try simp only [push_cast]at hg)))|(refine⟨_,hF0,?_⟩;simp only [push_cast,↓zK,↓zJ,↓reduceIte,zA,zB,zC,zD,zE,zF,zG,zH,zI,reduceCtorEq])|(refine⟨_,hF1,?_⟩;simp only [push_cast,↓zK,↓zJ,↓reduceIte,zA,zB,zC,zD,zE,zF,zG,zH,zI,reduceCtorEq])|(refine⟨_,hT,?_⟩;simp only [push_cast,↓zK,↓zJ,↓reduceIte,zA,zB,zC,zD,zE,zF,zG,zH,zI,reduceCtorEq])|apply And.intro|(intro hg;(try simp only [push_cast]at hg)))
 all_goals try exact gA
 all_goals first|(refine hK9 _ ?_;clear hK9 K9)|(simp only [push_cast];done)
 all_goals refine zp 6 fun K9 hK9=> ?_
 all_goals simp only [push_cast,↓zK,↓zJ,↓reduceIte,zA,zB,zC,zD,zE,zF,zG,zH,zI,reduceCtorEq]
 all_goals repeat'(first|(apply zO<;>(intro hg;(try simp only [push_cast]at hg)))|(refine⟨_,hF0,?_⟩;simp only [push_cast,↓zK,↓zJ,↓reduceIte,zA,zB,zC,zD,zE,zF,zG,zH,zI,reduceCtorEq])|(refine⟨_,hF1,?_⟩;simp only [push_cast,↓zK,↓zJ,↓reduceIte,zA,zB,zC,zD,zE,zF,zG,zH,zI,reduceCtorEq])|(refine⟨_,hT,?_⟩;simp only [push_cast,↓zK,↓zJ,↓reduceIte,zA,zB,zC,zD,zE,zF,zG,zH,zI,reduceCtorEq])|apply And.intro|(intro hg;(try simp only [push_cast]at hg)))
 all_goals try exact gA
 all_goals first|(refine hK9 _ ?_;clear hK9 K9)|(simp only [push_cast];done)
 all_goals simp only [push_cast,↓zK,↓zJ,↓reduceIte,zA,zB,zC,zD,zE,zF,zG,zH,zI,reduceCtorEq]
 all_goals repeat'(first|(apply zO<;>(intro hg;(try simp only [push_cast]at hg)))|(refine⟨_,hF0,?_⟩;simp only [push_cast,↓zK,↓zJ,↓reduceIte,zA,zB,zC,zD,zE,zF,zG,zH,zI,reduceCtorEq])|(refine⟨_,hF1,?_⟩;simp only [push_cast,↓zK,↓zJ,↓reduceIte,zA,zB,zC,zD,zE,zF,zG,zH,zI,reduceCtorEq])|(refine⟨_,hT,?_⟩;simp only [push_cast,↓zK,↓zJ,↓reduceIte,zA,zB,zC,zD,zE,zF,zG,zH,zI,reduceCtorEq])|apply And.intro|(intro hg;(try simp only [push_cast]at hg)))
 all_goals try exact gA
 all_goals first|(refine hK _ ?_;clear hK K)|(simp only [push_cast];done)
 refine zU rfl (fun hc=> ?_) (fun hc=> ?_)
 skip
 ·exfalso;first|(cases hc;done)|(simp only [push_cast]at hc;done)|(simp only [push_cast]at hc;omega)|omega
 refine zV ?_
 (try simp only [zR,zS,reduceIte,zF]);refine hK1 _ ?_
 refine zL fun K hK=> ?_
 refine zM zP zN [] rfl ?_
 simp only [push_cast,↓zK,↓zJ,↓reduceIte,zA,zB,zC,zD,zE,zF,zG,zH,zI,reduceCtorEq]
 repeat' apply And.intro
 all_goals try exact gB
 all_goals first|(refine hK _ ?_;clear hK K)|(simp only [push_cast];done)
 refine zL fun K2 hK2=> ?_
 refine zT ?_
 refine zd [3,10,16,22,30,31,32,33,34,35,36,37,38,39,40,41,42,43,44,45,46,47,48,49,50,51] [160] (fun(p:List Int×Int×Nat)=> [(3, .int .i64 p.2.1),(10, .sl 160 [] 0 p.1.length 2)]) (fun p=> []) (fun p=> [(160,⟨.ex,2,dI p.1,none⟩)]) (fun p=>YZ a even odd v0 p.1 p.2.1∧WD a even odd p.2.2 p.1 p.2.1=R∧p.2.2+p.1.length=257) (fun p=>p.2.2) ([],v0,257) ?_ ⟨YZ.start hv0,hR0,rfl⟩ ?_
 ·
  rw [show dI ([]:List Int)= []from rfl]
  refine zW rfl ?_ ?_ ?_<;>simp only [zc,zb,push_cast,↓zK,↓zJ,↓reduceIte,zA,zB,zC,zD,zE,zF,zG,zH,zI,reduceCtorEq]
 ·rintro⟨met,v,F⟩ ⟨hM,hrun,hF⟩ KL0 hL0
  dsimp only at hM hrun hF
  have hle:=hM.le
  obtain⟨F,rfl⟩: ∃F9,F=F9+1:=⟨F - 1,by omega⟩
  have hvv:=hM.hv
  have hgo:=zBE hok h0 h1 hM.hv
  simp only [push_cast,↓zK,↓zJ,↓reduceIte,zA,zB,zC,zD,zE,zF,zG,zH,zI,reduceCtorEq]
  refine zL fun K3 hK3=> ?_
  refine zL fun K hK=> ?_
  refine zM zP zN [] rfl ?_
  all_goals refine zm 3 fun K9 hK9=> ?_
  all_goals simp only [push_cast,↓zK,↓zJ,↓reduceIte,zA,zB,zC,zD,zE,zF,zG,zH,zI,reduceCtorEq]
  all_goals repeat'(first|(apply zO<;>(intro hg;(try simp only [push_cast]at hg)))|(refine⟨_,qJ met v (by omega),?_⟩;simp only [push_cast,↓zK,↓zJ,↓reduceIte,zA,zB,zC,zD,zE,zF,zG,zH,zI,reduceCtorEq])|apply And.intro|(intro hg;(try simp only [push_cast]at hg)))
  all_goals try exact gA
  all_goals first|(refine hK9 _ ?_;clear hK9 K9)|(simp only [push_cast];done)
  all_goals simp only [push_cast,↓zK,↓zJ,↓reduceIte,zA,zB,zC,zD,zE,zF,zG,zH,zI,reduceCtorEq]
  all_goals repeat'(first|(apply zO<;>(intro hg;(try simp only [push_cast]at hg)))|(refine⟨_,qJ met v (by omega),?_⟩;simp only [push_cast,↓zK,↓zJ,↓reduceIte,zA,zB,zC,zD,zE,zF,zG,zH,zI,reduceCtorEq])|apply And.intro|(intro hg;(try simp only [push_cast]at hg)))
  all_goals try exact gA
  all_goals first|(refine hK _ ?_;clear hK K)|(simp only [push_cast];done)
  refine zU rfl (fun hc=> ?_) (fun hc=> ?_)<;>(try simp only [push_cast]at hc)
  ·
   refine zV ?_
   (try simp only [zR,zS,reduceIte,zF]);refine hK3 _ ?_
   refine zT ?_
   have hbf:yE met v=false:=by cases hb9:yE met v<;>simp_all
   refine zL fun K hK=> ?_
   refine zM zP zN [] rfl ?_
   simp only [push_cast,↓zK,↓zJ,↓reduceIte,zA,zB,zC,zD,zE,zF,zG,zH,zI,reduceCtorEq]
   repeat' apply And.intro
   all_goals try exact gB
   all_goals first|(refine hK _ ?_;clear hK K)|(simp only [push_cast];done)
   refine zL fun K hK=> ?_
   refine zM zP zN [] rfl ?_
   simp only [push_cast,↓zK,↓zJ,↓reduceIte,zA,zB,zC,zD,zE,zF,zG,zH,zI,reduceCtorEq]
   repeat' apply And.intro
   all_goals try exact gB
   all_goals first|(refine hK _ ?_;clear hK K)|(simp only [push_cast];done)
   refine zU rfl (fun hc=> ?_) (fun hc=> ?_)<;>(try simp only [push_cast]at hc)
   ·
    refine zM zP zN [] rfl ?_
    simp only [push_cast,↓zK,↓zJ,↓reduceIte,zA,zB,zC,zD,zE,zF,zG,zH,zI,reduceCtorEq]
    repeat' apply And.intro
    all_goals try exact gB
    refine hL0 _ ⟨(met++ [v],goP a even odd v,F),⟨hM.next hbf hgo.2,(kH hbf).symm.trans hrun,by simp only [List.length_append,List.length_cons,List.length_nil];omega⟩,by dsimp only;omega,?_⟩
    rw [show goP a even odd v=gi even v.toNat from if_pos (by omega)]
    (try rw [List.take_of_length_le (l:=met) (by omega)])
    simp only [List.length_append,List.length_cons,List.length_nil,Nat.zero_add]
    refine zW rfl ?_ ?_ ?_<;>simp only [zc,zb,push_cast,↓zK,↓zJ,↓reduceIte,zA,zB,zC,zD,zE,zF,zG,zH,zI,reduceCtorEq]
   ·
    refine zM zP zN [] rfl ?_
    simp only [push_cast,↓zK,↓zJ,↓reduceIte,zA,zB,zC,zD,zE,zF,zG,zH,zI,reduceCtorEq]
    repeat' apply And.intro
    all_goals try exact gB
    refine hL0 _ ⟨(met++ [v],goP a even odd v,F),⟨hM.next hbf hgo.2,(kH hbf).symm.trans hrun,by simp only [List.length_append,List.length_cons,List.length_nil];omega⟩,by dsimp only;omega,?_⟩
    rw [show goP a even odd v=gi odd v.toNat from if_neg (by omega)]
    (try rw [List.take_of_length_le (l:=met) (by omega)])
    simp only [List.length_append,List.length_cons,List.length_nil,Nat.zero_add]
    refine zW rfl ?_ ?_ ?_<;>simp only [zc,zb,push_cast,↓zK,↓zJ,↓reduceIte,zA,zB,zC,zD,zE,zF,zG,zH,zI,reduceCtorEq]
  ·
   refine ze ?_
   (try simp only [zR,zS,reduceIte,zF]);refine hK2 _ ?_
   have hbt:yE met v=true:=by cases hb9:yE met v<;>simp_all
   have hfx:=of_decide_eq_true hbt
   have hix:ixB met v=(ym met v:Int):=by unfold ixB;rw [if_pos hfx]
   have hPl:=zDO met v (by omega)
   rw [hix]at hPl
   have hdt:List.take (met.length - ym met v) (List.drop (ym met v) met)=met.drop (ym met v):=List.take_of_length_le (by rw [List.length_drop];omega)
   have hcd:Fn Try.prog tyT 86 [.c (DI (List.take (met.length - ym met v) (List.drop (ym met v) met)))] [.c (DI (met.drop (ym met v)))]:=by rw [hdt];exact vW (met.drop (ym met v)) (by rw [List.length_drop];omega)
   refine zL fun K hK=> ?_
   refine zM zP zN [] rfl ?_
   all_goals refine zm 3 fun K9 hK9=> ?_
   all_goals simp only [push_cast,↓zK,↓zJ,↓reduceIte,zA,zB,zC,zD,zE,zF,zG,zH,zI,reduceCtorEq]
   all_goals repeat'(first|(apply zO<;>(intro hg;(try simp only [push_cast]at hg)))|(refine⟨_,hPl,?_⟩;simp only [push_cast,↓zK,↓zJ,↓reduceIte,zA,zB,zC,zD,zE,zF,zG,zH,zI,reduceCtorEq])|apply And.intro|(intro hg;(try simp only [push_cast]at hg)))
   all_goals try exact gA
   all_goals first|(refine hK9 _ ?_;clear hK9 K9)|(simp only [push_cast];done)
   all_goals simp only [push_cast,↓zK,↓zJ,↓reduceIte,zA,zB,zC,zD,zE,zF,zG,zH,zI,reduceCtorEq]
   all_goals repeat'(first|(apply zO<;>(intro hg;(try simp only [push_cast]at hg)))|(refine⟨_,hPl,?_⟩;simp only [push_cast,↓zK,↓zJ,↓reduceIte,zA,zB,zC,zD,zE,zF,zG,zH,zI,reduceCtorEq])|apply And.intro|(intro hg;(try simp only [push_cast]at hg)))
   all_goals try exact gA
   all_goals first|(refine hK _ ?_;clear hK K)|(simp only [push_cast];done)
   refine zL fun K hK=> ?_
   refine zv false zP zN yj ?_ rfl ?_
   ·kernel_rfl
   intro E hE
   all_goals refine yT 4 (by decide) fun K9 hK9=> ?_
   all_goals simp only [push_cast,↓zK,↓zJ,↓reduceIte,zA,zB,zC,zD,zE,zF,zG,zH,zI,reduceCtorEq]
   all_goals repeat'(first|(apply zO<;>(intro hg;(try simp only [push_cast]at hg)))|(refine⟨_,vW (met.take (ym met v)) (by rw [List.length_take];omega),?_⟩;simp only [push_cast,↓zK,↓zJ,↓reduceIte,zA,zB,zC,zD,zE,zF,zG,zH,zI,reduceCtorEq])|(refine⟨_,hcd,?_⟩;simp only [push_cast,↓zK,↓zJ,↓reduceIte,zA,zB,zC,zD,zE,zF,zG,zH,zI,reduceCtorEq])|apply And.intro|(intro hg;(try simp only [push_cast]at hg)))
   all_goals try exact gA
   all_goals first|(refine hK9 _ _ ?_;clear hK9 K9)|(simp only [push_cast];done)
   all_goals refine yT 4 (by decide) fun K9 hK9=> ?_
   all_goals simp only [push_cast,↓zK,↓zJ,↓reduceIte,zA,zB,zC,zD,zE,zF,zG,zH,zI,reduceCtorEq]
   all_goals repeat'(first|(apply zO<;>(intro hg;(try simp only [push_cast]at hg)))|(refine⟨_,vW (met.take (ym met v)) (by rw [List.length_take];omega),?_⟩;simp only [push_cast,↓zK,↓zJ,↓reduceIte,zA,zB,zC,zD,zE,zF,zG,zH,zI,reduceCtorEq])|(refine⟨_,hcd,?_⟩;simp only [push_cast,↓zK,↓zJ,↓reduceIte,zA,zB,zC,zD,zE,zF,zG,zH,zI,reduceCtorEq])|apply And.intro|(intro hg;(try simp only [push_cast]at hg)))
   all_goals try exact gA
   all_goals first|(refine hK9 _ _ ?_;clear hK9 K9)|(simp only [push_cast];done)
   all_goals simp only [push_cast,↓zK,↓zJ,↓reduceIte,zA,zB,zC,zD,zE,zF,zG,zH,zI,reduceCtorEq]
   all_goals repeat'(first|(apply zO<;>(intro hg;(try simp only [push_cast]at hg)))|(refine⟨_,vW (met.take (ym met v)) (by rw [List.length_take];omega),?_⟩;simp only [push_cast,↓zK,↓zJ,↓reduceIte,zA,zB,zC,zD,zE,zF,zG,zH,zI,reduceCtorEq])|(refine⟨_,hcd,?_⟩;simp only [push_cast,↓zK,↓zJ,↓reduceIte,zA,zB,zC,zD,zE,zF,zG,zH,zI,reduceCtorEq])|apply And.intro|(intro hg;(try simp only [push_cast]at hg)))
   all_goals first|exact gA|(refine hE _ _ ?_ ?_;kernel_rfl)|skip
   all_goals clear hE E
   all_goals first|(refine hK _ ?_;clear hK K)|(simp only [push_cast];done)
   refine zX ?_
   (try simp only [zR,zS])
   refine⟨Or.inl rfl,?_⟩
   simp only [zg,ya,xf,push_cast,↓zK,↓zJ,↓reduceIte,zA,zB,zC,zD,zE,zF,zG,zH,zI,reduceCtorEq]
   have h9:R=⟨met.take (ym met v),met.drop (ym met v)⟩:=hrun.symm.trans (zA4 hbt)
   rw [h9]
   all_goals first|rfl|(simp [dI];done)|(simp [dI];omega)
attribute [-push_cast] rm
theorem zIP {a:Ar}(ha:yA a=true){who:Int}{plan:List Int}(hl:plan.length=a.owner.length)(h: ∀v,v<a.owner.length→(gi a.owner v=who→yE (gl a.next v) (gi plan v)=true)∧(¬gi a.owner v=who→gi plan v= -1)):xh a who plan=true:=by
 refine uY (Vu hl fun v hv=>VV ?_) fun v hv he=> ?_
 ·by_cases e:gi a.owner v=who
  ·exact .inr ⟨e,(h v (by omega)).1 e⟩
  ·exact .inl ((h v (by omega)).2 e)
 ·have h1:=zEC ha (v:=v) (by omega) ((h v (by omega)).1 he.1)
  omega
theorem zCW {code:List Int}(hby:xx code)(seed:Int){a:Ar}(ha:yA a=true)(who:Int)(j:Nat):xh a who (pL code seed a who j a.owner.length)=true:=by
 refine zIP ha (QR ..) fun v hv=> ?_
 rw [zHK _ _ _ _ _ _ _ hv]
 refine⟨fun e=> ?_,fun e=>if_neg e⟩
 rw [if_pos e]
 have h1:=(yG ha hv).2.2.1
 have h2:=YT hby seed (pJ a who j v) (n:=(gl a.next v).length) (by omega)
 exact zIV (by omega)
theorem zDj {w:Wt}(hwb:yP w=true){c:List Int}(hL:xJ w (zk w) c):qt w.a 0 (Zu w c)=true:=by
 have hw:=vQ hwb
 have hfw:=yV hwb
 rw [QN hwb,WM hfw.1 (by omega)]
 refine Vu (vE _ _ _) fun v hv=>VV ?_
 rw [vE]at hv
 rw [Uc hv]
 by_cases h:gi w.a.owner v=0∧0≤gi (c.map (yL (zk w))) v
 ·have h1:gi c v≤zk w:=by
   have :=h.2
   rw [KV (by rw [hL.len];exact hv)]at this
   unfold yL at this
   split at this<;>omega
  obtain⟨j,hj,-,e⟩:=uZ hw hL hv h.1 h1
  rw [e]
  refine .inr ⟨h.1,?_⟩
  unfold yE
  rw [zFw (yG hfw.1 hv).2.2.2.2 hj]
  exact decide_eq_true hj
 ·exact .inl (WX h)
theorem zD1 (k:Nat):((k:Int)+1 - 1).toNat=k:=by omega
attribute [push_cast] zD1
def zDG (w:Wt)(l:Ls)(i:Nat):Int:=qm w (gi (yW l) i) (gi (yW l) (i+1))
def xj (g:Pa)(c:List Int):List Int:=if zu g then Zu (za g) c else []
theorem zGG {g:Pa}{c:List Int}(h:zu g=false):xj g c= []:=by unfold xj;rw [h];rfl
theorem WE {g:Pa}{c:List Int}(h:zu g=true):xj g c=Zu (za g) c:=by unfold xj;rw [h];rfl
theorem zES {g:Pa}{c:List Int}:LnI 1048576 (xj g c):=by
 unfold xj
 split
 ·exact zBe
 ·unfold LnI;simp
set_option maxRecDepth 20000 in
set_option maxHeartbeats 4000000 in
theorem ka (g:Pa)(hg:g.Ln 1048576)(c:List Int)(hL:zu g=true→xJ (za g) (zk (za g)) c):Fn Try.prog tyT 48 [.agg (dPa g)] [.c (DI (xj g c))]:=by
 have hB:=XI g hg
 have hP:=fun h=>jr (za g) (Xw hg) (vQ (yI h)) _ rfl c (hL h)
 unfold dPa dWt at hB
 unfold dWt at hP
 unfold dPa
 refine zt (fn:=Try.f48) (ts:= [2]) Try.func48 (by kernel_rfl) rfl rfl (by rw [Try.ntmps48];exact Nat.le_of_ble_eq_true rfl) rfl (by simp only [szA,List.mem_cons,List.not_mem_nil,or_false,forall_eq_or_imp,forall_eq,VT.cells,szL];try decide) ?_
 rw [Try.ntmps48]
 simp only [push_cast,↓zK,↓zJ,↓reduceIte,zA,zB,zC,zD,zE,zF,zG,zH,zI,reduceCtorEq]
 refine zL fun K hK=> ?_
 refine zM zP zN [] rfl ?_
 simp only [push_cast,↓zK,↓zJ,↓reduceIte,zA,zB,zC,zD,zE,zF,zG,zH,zI,reduceCtorEq]
 repeat' apply And.intro
 all_goals try exact gB
 all_goals first|(refine hK _ ?_;clear hK K)|(simp only [push_cast];done)
 refine zL fun K hK=> ?_
 refine zM zP zN [] rfl ?_
 all_goals refine zm 2 fun K9 hK9=> ?_
 all_goals simp only [push_cast,↓zK,↓zJ,↓reduceIte,zA,zB,zC,zD,zE,zF,zG,zH,zI,reduceCtorEq]
 all_goals repeat'(first|(apply zO<;>(intro hg;(try simp only [push_cast]at hg)))|(refine⟨_,hB,?_⟩;simp only [push_cast,↓zK,↓zJ,↓reduceIte,zA,zB,zC,zD,zE,zF,zG,zH,zI,reduceCtorEq])|apply And.intro|(intro hg;(try simp only [push_cast]at hg)))
 all_goals try exact gA
 all_goals first|(refine hK9 _ ?_;clear hK9 K9)|(simp only [push_cast];done)
 all_goals simp only [push_cast,↓zK,↓zJ,↓reduceIte,zA,zB,zC,zD,zE,zF,zG,zH,zI,reduceCtorEq]
 all_goals repeat'(first|(apply zO<;>(intro hg;(try simp only [push_cast]at hg)))|(refine⟨_,hB,?_⟩;simp only [push_cast,↓zK,↓zJ,↓reduceIte,zA,zB,zC,zD,zE,zF,zG,zH,zI,reduceCtorEq])|apply And.intro|(intro hg;(try simp only [push_cast]at hg)))
 all_goals try exact gA
 all_goals first|(refine hK _ ?_;clear hK K)|(simp only [push_cast];done)
 refine zL fun K1 hK1=> ?_
 refine zL fun K hK=> ?_
 refine zM zP zN [] rfl ?_
 simp only [push_cast,↓zK,↓zJ,↓reduceIte,zA,zB,zC,zD,zE,zF,zG,zH,zI,reduceCtorEq]
 repeat' apply And.intro
 all_goals try exact gB
 all_goals first|(refine hK _ ?_;clear hK K)|(simp only [push_cast];done)
 refine zU rfl (fun hc=> ?_) (fun hc=> ?_)<;>(try simp only [push_cast]at hc)
 ·
  refine zL fun K hK=> ?_
  refine zM zP zN [] rfl ?_
  simp only [push_cast,↓zK,↓zJ,↓reduceIte,zA,zB,zC,zD,zE,zF,zG,zH,zI,reduceCtorEq]
  repeat' apply And.intro
  all_goals try exact gB
  all_goals first|(refine hK _ ?_;clear hK K)|(simp only [push_cast];done)
  refine zX ?_
  (try simp only [zR,zS])
  refine⟨Or.inl rfl,?_⟩
  simp only [zg,push_cast,↓zK,↓zJ,↓reduceIte,zA,zB,zC,zD,zE,zF,zG,zH,zI,reduceCtorEq]
  rw [zGG (by with_reducible assumption)]
  all_goals first|rfl|exact⟨rfl,rfl⟩
 ·
  refine zV ?_
  (try simp only [zR,zS,reduceIte,zF]);refine hK1 _ ?_
  have hb:zu g=true:=by with_reducible assumption
  have h8:=hP hb
  rw [←QN (yI hb)]at h8
  refine zL fun K hK=> ?_
  refine zM zP zN [] rfl ?_
  all_goals refine zm 2 fun K9 hK9=> ?_
  all_goals simp only [push_cast,↓zK,↓zJ,↓reduceIte,zA,zB,zC,zD,zE,zF,zG,zH,zI,reduceCtorEq]
  all_goals repeat'(first|(apply zO<;>(intro hg;(try simp only [push_cast]at hg)))|(refine⟨_,h8,?_⟩;simp only [push_cast,↓zK,↓zJ,↓reduceIte,zA,zB,zC,zD,zE,zF,zG,zH,zI,reduceCtorEq])|apply And.intro|(intro hg;(try simp only [push_cast]at hg)))
  all_goals try exact gA
  all_goals first|(refine hK9 _ ?_;clear hK9 K9)|(simp only [push_cast];done)
  all_goals simp only [push_cast,↓zK,↓zJ,↓reduceIte,zA,zB,zC,zD,zE,zF,zG,zH,zI,reduceCtorEq]
  all_goals repeat'(first|(apply zO<;>(intro hg;(try simp only [push_cast]at hg)))|(refine⟨_,h8,?_⟩;simp only [push_cast,↓zK,↓zJ,↓reduceIte,zA,zB,zC,zD,zE,zF,zG,zH,zI,reduceCtorEq])|apply And.intro|(intro hg;(try simp only [push_cast]at hg)))
  all_goals try exact gA
  all_goals first|(refine hK _ ?_;clear hK K)|(simp only [push_cast];done)
  refine zX ?_
  (try simp only [zR,zS])
  refine⟨Or.inl rfl,?_⟩
  simp only [zg,push_cast,↓zK,↓zJ,↓reduceIte,zA,zB,zC,zD,zE,zF,zG,zH,zI,reduceCtorEq]
  rw [WE hb]
  all_goals first|rfl|exact⟨rfl,rfl⟩
def Yp (g:Pa)(l:Ls):Int:=if zu g then wX (za g) l else 0
theorem zGE {g:Pa}{l:Ls}(h:zu g=false):Yp g l=0:=by unfold Yp;rw [h];rfl
theorem kw {g:Pa}{l:Ls}(h:zu g=true):Yp g l=wX (za g) l:=by unfold Yp;rw [h];rfl
set_option maxRecDepth 20000 in
set_option maxHeartbeats 4000000 in
theorem kY (g:Pa)(hg:g.Ln 1048576)(l:Ls)(hl:l.Ln 1048576):Fn Try.prog tyT 51 [.agg (dPa g), .agg (dLs l)] [.c (.int .i64 (Yp g l))]:=by
 have hB:=XI g hg
 have hL:=zBt (za g) l (Xw hg) hl
 unfold dPa dWt at hB
 unfold dWt dLs at hL
 unfold dPa dLs
 refine zt (fn:=Try.f51) (ts:= [4]) Try.func51 (by kernel_rfl) rfl rfl (by rw [Try.ntmps51];exact Nat.le_of_ble_eq_true rfl) rfl (by simp only [szA,List.mem_cons,List.not_mem_nil,or_false,forall_eq_or_imp,forall_eq,VT.cells,szL];try decide) ?_
 rw [Try.ntmps51]
 simp only [push_cast,↓zK,↓zJ,↓reduceIte,zA,zB,zC,zD,zE,zF,zG,zH,zI,reduceCtorEq]
 refine zL fun K hK=> ?_
 refine zM zP zN [] rfl ?_
 simp only [push_cast,↓zK,↓zJ,↓reduceIte,zA,zB,zC,zD,zE,zF,zG,zH,zI,reduceCtorEq]
 repeat' apply And.intro
 all_goals try exact gB
 all_goals first|(refine hK _ ?_;clear hK K)|(simp only [push_cast];done)
 refine zL fun K hK=> ?_
 refine zM zP zN [] rfl ?_
 all_goals refine zm 2 fun K9 hK9=> ?_
 all_goals simp only [push_cast,↓zK,↓zJ,↓reduceIte,zA,zB,zC,zD,zE,zF,zG,zH,zI,reduceCtorEq]
 all_goals repeat'(first|(apply zO<;>(intro hg;(try simp only [push_cast]at hg)))|(refine⟨_,hB,?_⟩;simp only [push_cast,↓zK,↓zJ,↓reduceIte,zA,zB,zC,zD,zE,zF,zG,zH,zI,reduceCtorEq])|apply And.intro|(intro hg;(try simp only [push_cast]at hg)))
 all_goals try exact gA
 all_goals first|(refine hK9 _ ?_;clear hK9 K9)|(simp only [push_cast];done)
 all_goals simp only [push_cast,↓zK,↓zJ,↓reduceIte,zA,zB,zC,zD,zE,zF,zG,zH,zI,reduceCtorEq]
 all_goals repeat'(first|(apply zO<;>(intro hg;(try simp only [push_cast]at hg)))|(refine⟨_,hB,?_⟩;simp only [push_cast,↓zK,↓zJ,↓reduceIte,zA,zB,zC,zD,zE,zF,zG,zH,zI,reduceCtorEq])|apply And.intro|(intro hg;(try simp only [push_cast]at hg)))
 all_goals try exact gA
 all_goals first|(refine hK _ ?_;clear hK K)|(simp only [push_cast];done)
 refine zL fun K1 hK1=> ?_
 refine zL fun K hK=> ?_
 refine zM zP zN [] rfl ?_
 simp only [push_cast,↓zK,↓zJ,↓reduceIte,zA,zB,zC,zD,zE,zF,zG,zH,zI,reduceCtorEq]
 repeat' apply And.intro
 all_goals try exact gB
 all_goals first|(refine hK _ ?_;clear hK K)|(simp only [push_cast];done)
 refine zU rfl (fun hc=> ?_) (fun hc=> ?_)<;>(try simp only [push_cast]at hc)
 ·
  refine zL fun K hK=> ?_
  refine zM zP zN [] rfl ?_
  simp only [push_cast,↓zK,↓zJ,↓reduceIte,zA,zB,zC,zD,zE,zF,zG,zH,zI,reduceCtorEq]
  repeat' apply And.intro
  all_goals try exact gB
  all_goals first|(refine hK _ ?_;clear hK K)|(simp only [push_cast];done)
  refine zX ?_
  (try simp only [zR,zS])
  refine⟨Or.inl rfl,?_⟩
  simp only [zg,push_cast,↓zK,↓zJ,↓reduceIte,zA,zB,zC,zD,zE,zF,zG,zH,zI,reduceCtorEq]
  exact(zGE (by with_reducible assumption)).symm
 ·
  refine zV ?_
  (try simp only [zR,zS,reduceIte,zF]);refine hK1 _ ?_
  refine zL fun K hK=> ?_
  refine zM zP zN [] rfl ?_
  all_goals refine zm 3 fun K9 hK9=> ?_
  all_goals simp only [push_cast,↓zK,↓zJ,↓reduceIte,zA,zB,zC,zD,zE,zF,zG,zH,zI,reduceCtorEq]
  all_goals repeat'(first|(apply zO<;>(intro hg;(try simp only [push_cast]at hg)))|(refine⟨_,hL,?_⟩;simp only [push_cast,↓zK,↓zJ,↓reduceIte,zA,zB,zC,zD,zE,zF,zG,zH,zI,reduceCtorEq])|apply And.intro|(intro hg;(try simp only [push_cast]at hg)))
  all_goals try exact gA
  all_goals first|(refine hK9 _ ?_;clear hK9 K9)|(simp only [push_cast];done)
  all_goals simp only [push_cast,↓zK,↓zJ,↓reduceIte,zA,zB,zC,zD,zE,zF,zG,zH,zI,reduceCtorEq]
  all_goals repeat'(first|(apply zO<;>(intro hg;(try simp only [push_cast]at hg)))|(refine⟨_,hL,?_⟩;simp only [push_cast,↓zK,↓zJ,↓reduceIte,zA,zB,zC,zD,zE,zF,zG,zH,zI,reduceCtorEq])|apply And.intro|(intro hg;(try simp only [push_cast]at hg)))
  all_goals try exact gA
  all_goals first|(refine hK _ ?_;clear hK K)|(simp only [push_cast];done)
  refine zX ?_
  (try simp only [zR,zS])
  refine⟨Or.inl rfl,?_⟩
  simp only [zg,push_cast,↓zK,↓zJ,↓reduceIte,zA,zB,zC,zD,zE,zF,zG,zH,zI,reduceCtorEq]
  exact(kw (by with_reducible assumption)).symm
inductive Pth (E:List (List Int))(ins:List Bool)(v:Nat):List Nat→Nat→Prop
 |one {j:Nat}:j<(gl E v).length→gb ins (gi (gl E v) j).toNat=true→Pth E ins v [v] (gi (gl E v) j).toNat
 |step {L:List Nat} {x j:Nat}:Pth E ins v L x→j<(gl E x).length→gb ins (gi (gl E x) j).toNat=true→Pth E ins v (L++ [x]) (gi (gl E x) j).toNat
section
variable {E:List (List Int)} {ins:List Bool} {v n:Nat}
theorem zIe {u:Nat}(h:Rch E ins v u): ∃L,Pth E ins v L u:=by
 induction h with
 |one h1 h2=>exact⟨_, .one h1 h2⟩
 |step _ h1 h2 ih=>obtain⟨L,hL⟩:=ih;exact⟨_, .step hL h1 h2⟩
def RS (E:List (List Int))(ins:List Bool)(v k u:Nat):Prop:= ∃L:List Nat,L.length≤k∧Pth E ins v L u
theorem RS.up {k m u:Nat}(h:RS E ins v k u)(hk:k≤m):RS E ins v m u:=by
 obtain⟨L,h1,h2⟩:=h
 exact⟨L,by omega,h2⟩
theorem zEI {k:Nat}(hc: ∀u,u<n→RS E ins v (k+1) u→RS E ins v k u)(hv:v<n)(hE: ∀x,x<n→∀j,j<(gl E x).length→0≤gi (gl E x) j∧gi (gl E x) j<n): ∀{L u},Pth E ins v L u→u<n∧RS E ins v k u:=by
 intro L u h
 induction h with
 |one h1 h2=>
  have :=hE v hv _ h1
  exact⟨by omega,hc _ (by omega) (RS.up (k:=1) ⟨_,Nat.le_refl _, .one h1 h2⟩ (by omega))⟩
 |step _ h1 h2 ih=>
  have :=hE _ ih.1 _ h1
  obtain⟨L',l1,l2⟩:=ih.2
  exact⟨by omega,hc _ (by omega) ⟨L'++ [_],by simp;omega, .step l2 h1 h2⟩⟩
theorem zEg (hv:v<n)(hE: ∀x,x<n→∀j,j<(gl E x).length→0≤gi (gl E x) j∧gi (gl E x) j<n){u:Nat}(h:Rch E ins v u):RS E ins v n u:=by
 obtain⟨L,hL⟩:=zIe h
 let mk:Nat→List Bool:=fun k=>(List.range n).map fun u=> @decide (RS E ins v k u) (Classical.propDecidable _)
 have hmk: ∀k u,u<n→(gb (mk k) u=true↔RS E ins v k u):=fun k u hu=>by
  show gb ((List.range n).map fun u=> @decide (RS E ins v k u) (Classical.propDecidable _)) u=true↔_
  rw [Wa hu, @decide_eq_true_eq _ (Classical.propDecidable _)]
 have key: ∀j,(∃k,k≤j∧∀u,u<n→RS E ins v (k+1) u→RS E ins v k u)∨j≤xC (mk j) n:=fun j=>by
  induction j with
  |zero=>exact .inr (Nat.zero_le _)
  |succ j ih=>
   rcases ih with⟨k,h1,h2⟩|ih
   ·exact .inl ⟨k,by omega,h2⟩
   ·by_cases hc: ∀u,u<n→RS E ins v (j+1) u→RS E ins v j u
    ·exact .inl ⟨j,by omega,hc⟩
    ·refine .inr ?_
     have : ∃u,u<n∧RS E ins v (j+1) u∧¬RS E ins v j u:=by
      refine Classical.byContradiction fun hn=>hc fun u hu h1=>Classical.byContradiction fun h2=>hn ⟨u,hu,h1,h2⟩
     obtain⟨u,hu,h1,h2⟩:=this
     have :=Wz (a:=mk j) (b:=mk (j+1)) n (fun x hx hb=>(hmk _ _ hx).2 (((hmk _ _ hx).1 hb).up (by omega))) ⟨u,hu,Bool.eq_false_iff.2 fun e=>h2 ((hmk _ _ hu).1 e),(hmk _ _ hu).2 h1⟩
     omega
 have hfin: ∀k,k≤n→(∀u,u<n→RS E ins v (k+1) u→RS E ins v k u)→RS E ins v n u:=fun k hk hc=>(zEI hc hv hE hL).2.up hk
 rcases key n with⟨k,h1,h2⟩|hcnt
 ·exact hfin k h1 h2
 ·refine hfin n (Nat.le_refl _) fun x hx _=>(hmk n x hx).1 ?_
  cases hb:gb (mk n) x
  ·exfalso
   have :=Wz (a:=mk n) (b:=ZY n) n (fun y hy _=>kJ hy) ⟨x,hx,hb,kJ hx⟩
   have :=Zv (ZY n) n
   omega
  ·rfl
theorem zEd {L:List Nat}{u:Nat}(h:Pth E ins v L u):v∈L:=by
 induction h with
 |one _ _=>exact List.mem_singleton.2 rfl
 |step _ _ _ ih=>exact List.mem_append.2 (.inl ih)
theorem zJv {L:List Nat}{u:Nat}(h:Pth E ins v L u):gb ins u=true∧∀x∈L,x=v∨gb ins x=true:=by
 induction h with
 |one _ h2=>exact⟨h2,fun x hx=> .inl (List.mem_singleton.1 hx)⟩
 |step _ _ h2 ih=>
  refine⟨h2,fun y hy=> ?_⟩
  rcases List.mem_append.1 hy with hy|hy
  ·exact ih.2 y hy
  ·rw [List.mem_singleton.1 hy];exact .inr ih.1
theorem WB (f:Nat→Int)(x:Nat): ∀L,qX f (L++ [x])=qX f L+f x
 | []=>by show f x+0=0+f x;omega
 |y::L=>by show f y+qX f (L++ [x])=f y+qX f L+f x;rw [WB f x L];omega
theorem KN (f:Nat→Int): ∀L,qX (fun x=> -f x) L= -qX f L
 | []=>rfl
 |y::L=>by show -f y+qX (fun x=> -f x) L= -(f y+qX f L);rw [KN f L];omega
theorem zHn {f B:Nat→Int}{S:Nat→Prop}(h: ∀x j,S x→j<(gl E x).length→S (gi (gl E x) j).toNat∧B (gi (gl E x) j).toNat≤B x+f x)(hv:S v){L:List Nat}{u:Nat}(hp:Pth E ins v L u):S u∧B u≤B v+qX f L:=by
 induction hp with
 |one h1 _=>
  have :=h v _ hv h1
  refine⟨this.1,?_⟩
  show _≤B v+(f v+0)
  omega
 |step _ h1 _ ih=>
  have :=h _ _ ih.1 h1
  refine⟨this.1,?_⟩
  rw [WB]
  have :=ih.2
  omega
end
def rgL (won:List Int)(k:Nat):List Int:=((List.range k).filter fun(v:Nat)=>gi won v==0).map fun(v:Nat)=>(v:Int)
theorem rgL_0 (won:List Int):rgL won 0= []:=rfl
theorem zHu {won:List Int}{k:Nat}(h:gi won k=0):rgL won (k+1)=rgL won k++ [(k:Int)]:=by
 unfold rgL
 rw [List.range_succ,List.filter_append,List.map_append]
 simp [h]
theorem zJQ {won:List Int}{k:Nat}(h: ¬gi won k=0):rgL won (k+1)=rgL won k:=by
 unfold rgL
 rw [List.range_succ,List.filter_append,List.map_append]
 simp [h]
theorem zHl (won:List Int)(k:Nat):(rgL won k).length≤k:=by
 unfold rgL
 rw [List.length_map]
 exact Nat.le_trans (List.length_filter_le _ _) (by simp)
theorem zCK {won:List Int}{k:Nat}{w:Int}:w∈rgL won k↔0≤w∧w<k∧gi won w.toNat=0:=by
 unfold rgL
 rw [List.mem_map]
 constructor
 ·rintro⟨u,hu,rfl⟩
  obtain⟨h1,h2⟩:=List.mem_filter.1 hu
  have :=List.mem_range.1 h1
  exact⟨by omega,by omega,by simpa using h2⟩
 ·rintro⟨h1,h2,h3⟩
  exact⟨w.toNat,List.mem_filter.2 ⟨List.mem_range.2 (by omega),by simpa using h3⟩,by omega⟩
theorem XD {won:List Int}{k i:Nat}(h:i<(rgL won k).length):0≤gi (rgL won k) i∧gi (rgL won k) i<k∧gi won (gi (rgL won k) i).toNat=0:=zCK.1 (zAI h)
theorem zHb (won:List Int)(k:Nat):qC (rgL won k) k=true:=by
 refine xO fun i hi=> ?_
 have hp:(rgL won k).Pairwise (· < ·):=by
  unfold rgL
  rw [List.pairwise_map]
  refine List.Pairwise.imp (fun h=> ?_) (List.Pairwise.filter _ List.pairwise_lt_range)
  omega
 have h1:=XD hi
 refine decide_eq_true ⟨h1.1,h1.2.1,?_⟩
 by_cases h0:i=0
 ·exact .inl h0
 ·right
  have :=List.pairwise_iff_getElem.1 hp (i - 1) i (by omega) hi (by omega)
  unfold gi
  rw [List.getD_eq_getElem?_getD,List.getD_eq_getElem?_getD,List.getElem?_eq_getElem (by omega),List.getElem?_eq_getElem hi]
  exact this
theorem zEG {won:List Int}{n u:Nat}(hu:u<n):gb (mkS (rgL won n) n (rgL won n).length) u=true↔gi won u=0:=by
 rw [zE9 (fun j hj=>⟨(XD hj).1,(XD hj).2.1⟩) _ (Nat.le_refl _) u hu]
 constructor
 ·rintro⟨j,hj,e⟩
  have :=(XD hj).2.2
  rw [e,Int.toNat_natCast]at this
  exact this
 ·intro h
  obtain⟨j,hj,e⟩:=xv.1 ((Zp _ _).2 (zCK.2 ⟨by omega,by omega,by rw [Int.toNat_natCast];exact h⟩:(u:Int)∈rgL won n))
  exact⟨j,hj,e⟩
section
variable {g:Pa} {c:List Int}
theorem ua (w:Wt):yo w ⟨0,1⟩=w:=by
 unfold yo
 have : ∀row:List Int,row.map (vG ⟨0,1⟩)=row:=fun row=>by
  conv=>rhs;rw [←List.map_id row]
  refine List.map_congr_left fun x _=> ?_
  show x*1 - 0=x
  omega
 have :w.cost.map (List.map (vG ⟨0,1⟩))=w.cost:=by
  conv=>rhs;rw [←List.map_id w.cost]
  exact List.map_congr_left fun x _=>this x
 rw [this]
theorem zCe (hb:zu g=true)(hm:vz (za g)=true)(hL:xJ (za g) (zk (za g)) c){v:Nat}(hv:v<g.a.owner.length):gi c v≤zk (za g)↔gi (yn g) v=0:=by
 have hw:=vQ (yI hb)
 have hf:VZ ⟨0,1⟩=true:=by decide
 have hfor:=zH9 (w:=za g) (f:=⟨0,1⟩) hm hf (by decide) (by decide)
 have hno:(za g).a.owner.length=g.a.owner.length:=by rw [xZ hb]
 have h:=zBi (c:=c) hfor (by rw [ua];exact hL) (v:=v) (by omega)
 rw [Kr hfor,ua,KV (by rw [hL.len];omega),zCR hm (by omega) hf,Int.toNat_natCast,Bool.not_eq_true']at h
 have hr:=hL.rg v (by omega)
 have h2:0≤yL (zk (za g)) (gi c v)↔gi c v≤zk (za g):=by
  unfold yL
  split<;>constructor<;>intro h'<;>omega
 rw [←h2,h]
 have hs:=zA0 hb hv
 unfold JP
 rw [decide_eq_false_iff_not]
 constructor
 ·intro h3
  rcases hs with e|e
  ·exact e.1
  ·exfalso
   apply h3
   show(qo (za g) v).num*1<0*(qo (za g) v).den
   rw [Int.zero_mul];omega
 ·intro h3 h4
  have h5:(qo (za g) v).num*1<0*(qo (za g) v).den:=h4
  rw [Int.zero_mul]at h5
  rcases hs with e|e<;>omega
theorem zCp (hb:zu g=true){v j:Nat}(hv:v<g.a.owner.length)(hj:j<(gl g.a.next v).length):gi (gl (za g).cost v) j=sg g.a.owner.length (gi g.prio v).toNat:=by
 have hsc:=(vP hb).2.2
 rw [xZ hb]
 show gi (gl (yk g g.a.owner.length) v) j=_
 rw [wT hv]
 unfold Vb
 rw [Kn hj]
 have :=hsc v hv
 unfold vL at this
 exact(VE (of_decide_eq_true this)).2
theorem zHs (hb:zu g=true)(hL:xJ (za g) (zk (za g)) c){v:Nat}(hv:v<g.a.owner.length)(hf:gi c v≤zk (za g)):
  (gi g.a.owner v=0→∃j,j<(gl g.a.next v).length∧gi (xj g c) v=gi (gl g.a.next v) j∧gi c (gi (gl g.a.next v) j).toNat≤zk (za g)∧gi c (gi (gl g.a.next v) j).toNat - sg g.a.owner.length (gi g.prio v).toNat≤gi c v)∧
  (¬gi g.a.owner v=0→gi (xj g c) v= -1∧∀j,j<(gl g.a.next v).length→gi c (gi (gl g.a.next v) j).toNat≤zk (za g)∧gi c (gi (gl g.a.next v) j).toNat - sg g.a.owner.length (gi g.prio v).toNat≤gi c v):=by
 have hwb:=yI hb
 have hw:=vQ hwb
 have ha:(za g).a=g.a:=by rw [xZ hb]
 have hv':v<(za g).a.owner.length:=by rw [ha];exact hv
 have hr:=hL.rg v hv'
 have hpl:gi (xj g c) v=wl (za g) (c.map (yL (zk (za g)))) v:=by rw [WE hb,QN hwb,Uc hv']
 have hed: ∀j,j<(gl g.a.next v).length→Ed (za g) (zk (za g)) c v j (gi c v)→gi c (gi (gl g.a.next v) j).toNat≤zk (za g)∧gi c (gi (gl g.a.next v) j).toNat - sg g.a.owner.length (gi g.prio v).toNat≤gi c v:=fun j hj he=>by
  unfold Ed toE coE at he
  rw [ha,zCp hb hv hj]at he
  exact he
 constructor
 ·intro e
  obtain⟨j,hj,he,e2⟩:=uZ hw hL hv' (by rw [ha];exact e) hf
  rw [ha]at hj e2
  exact⟨j,hj,by rw [hpl];exact e2,hed j hj he⟩
 ·intro e
  refine⟨by rw [hpl,WX (by rw [ha];exact fun h=>e h.1)],fun j hj=> ?_⟩
  have ho:gi (za g).a.owner v=1:=(hw.own v hv').resolve_left fun h=>e (by rw [ha]at h;exact h)
  exact hed j hj (((wO hw hw.bound.1 hv' hr.1 hf).1 (hL.pre v hv')).2 ho j (by rw [ha];exact hj))
theorem zD4 (hb:zu g=true)(hm:vz (za g)=true)(hL:xJ (za g) (zk (za g)) c):wy g (rgL (yn g) g.a.owner.length) (xj g c):=by
 obtain⟨hpar,-,-⟩:=vP hb
 obtain⟨hao,hpl,hpr⟩:=yS hpar
 have hal:=zw hao
 have ha:(za g).a=g.a:=by rw [xZ hb]
 have hpo:qt g.a 0 (xj g c)=true:=by have :=zDj (yI hb) hL;rw [ha]at this;rw [WE hb];exact this
 have hfw:=fun v hv=>zCe hb hm hL (v:=v) hv
 have hst:=fun v hv hf=>zHs hb hL (v:=v) hv hf
 have hrow:=fun v (hv:v<g.a.owner.length) j (hj:j<(gl g.a.next v).length)=>vK (yG hao hv).2.2.2.2 hj
 have hin: ∀i v:Nat,i<(rgL (yn g) g.a.owner.length).length→gi (rgL (yn g) g.a.owner.length) i=(v:Int)→v<g.a.owner.length∧gi c v≤zk (za g):=fun i v hi e=>by
  have h:=XD hi
  rw [e,Int.toNat_natCast]at h
  exact⟨by omega,(hfw v (by omega)).2 h.2.2⟩
 refine⟨hpar,hpo,zHb _ _,fun i v hi e h0=> ?_,fun i v hi e h0 j hj=> ?_,fun i v hi e hodd=> ?_⟩
 ·obtain⟨hv,hf⟩:=hin i v hi e
  obtain⟨j,hj,e2,a1,-⟩:=(hst v hv hf).1 h0
  have :=hrow v hv j hj
  rw [e2]
  exact⟨this.1,(zEG (by omega)).2 ((hfw _ (by omega)).1 a1)⟩
 ·obtain⟨hv,hf⟩:=hin i v hi e
  have :=hrow v hv j hj
  exact(zEG (by omega)).2 ((hfw _ (by omega)).1 (((hst v hv hf).2 h0).2 j hj).1)
 ·obtain⟨hv,hf⟩:=hin i v hi e
  refine Bool.eq_false_iff.2 fun hbey=> ?_
  have hR:=(zCi hv).1 hbey
  have hErg: ∀x,x<g.a.owner.length→∀j,j<(gl (vI g.a (xj g c)) x).length→0≤gi (gl (vI g.a (xj g c)) x) j∧gi (gl (vI g.a (xj g c)) x) j<g.a.owner.length:=fun x hx=>by
   have hp:=wJ (xe hpo).2.2
   rw [JL (by omega)]
   unfold WR
   split
   ·rename_i h0
    intro j hj
    have :j=0:=by simp at hj;omega
    subst this
    refine⟨h0,?_⟩
    rcases hp.2 x (by omega)with e|⟨-,e⟩
    ·omega
    ·obtain⟨j,hj,e2⟩:=xv.1 e
     have :=hrow x hx j hj
     show gi (xj g c) x<_
     omega
   ·exact fun j hj=>hrow x hx j hj
  obtain⟨L,hl,hp⟩:=zEg hv hErg hR
  have hlow:=fun u hu=>zCa (g:=g) (reg:=rgL (yn g) g.a.owner.length) (v:=v) (n:=g.a.owner.length) (fun j hj=>⟨(XD hj).1,(XD hj).2.1⟩) _ (Nat.le_refl _) u hu
  have hpot:=zHn (f:=fun x=>sg g.a.owner.length (gi g.prio x).toNat) (B:=fun x=>gi c x) (S:=fun x=>x<g.a.owner.length∧gi c x≤zk (za g)) (E:=vI g.a (xj g c)) (fun x j hx hj=>by
   obtain⟨hx1,hx2⟩:=hx
   have hg9:=hErg x hx1 j hj
   have key:gi c (gi (gl (vI g.a (xj g c)) x) j).toNat≤zk (za g)∧gi c (gi (gl (vI g.a (xj g c)) x) j).toNat - sg g.a.owner.length (gi g.prio x).toNat≤gi c x:=by
    rw [JL (by omega)]at hj⊢
    unfold WR at hj⊢
    by_cases h0:gi g.a.owner x=0
    ·obtain⟨j',hj',e2,a1,a2⟩:=(hst x hx1 hx2).1 h0
     have hr:=hrow x hx1 j' hj'
     rw [if_pos (by rw [e2];exact hr.1)]at hj⊢
     have :j=0:=by simp at hj;omega
     subst this
     show gi c (gi (xj g c) x).toNat≤_∧gi c (gi (xj g c) x).toNat - _≤_
     rw [e2]
     exact⟨a1,a2⟩
    ·obtain⟨e2,a1⟩:=(hst x hx1 hx2).2 h0
     rw [if_neg (by rw [e2];decide)]at hj⊢
     exact a1 j hj
   refine⟨⟨by omega,key.1⟩,?_⟩
   show gi c _≤gi c x+sg _ _
   omega) ⟨hv,hf⟩ hp
  have hpv:=hpr v hv
  have hs0:0≤qX (fun x=>sg g.a.owner.length (gi g.prio x).toNat) L:=by
   have h9:gi c v≤gi c v+qX (fun x=>sg g.a.owner.length (gi g.prio x).toNat) L:=hpot.2
   omega
  have hpin:=zJv hp
  have hsign:=(VK (n:=g.a.owner.length) (by omega) (pr:=fun x=>(gi g.prio x).toNat) (t:=(gi g.prio v).toNat) hl (fun x hx=>by
   rcases hpin.2 x hx with e2|e2
   ·rw [e2];exact Nat.le_refl _
   ·have hxn:x<g.a.owner.length:=by
     rcases Nat.lt_or_ge x g.a.owner.length with h|h
     ·exact h
     ·exfalso
      unfold gb at e2
      rw [List.getD_eq_getElem?_getD,List.getElem?_eq_none (by rw [Zx];exact h)]at e2
      cases e2
    have :=(hlow x hxn e2).2
    have :=(hpr x hxn).1
    omega) ⟨v,zEd hp,rfl⟩).2 (by
   rw [zHF hpv.1]at hodd
   have :(gi g.prio v).toNat%2≠0:=fun e=>hodd (by rw [e];rfl)
   omega)
  rw [KN]at hsign
  omega
theorem zGA (hb:zu g=true)(hm:vz (za g)=true)(hL:xJ (za g) (zk (za g)) c):kX g c=yn g:=by
 have hno:(za g).a.owner.length=g.a.owner.length:=by rw [xZ hb]
 have hcl:=hL.len
 rw [zAl hb]
 refine KI (by simp;rw [YF];omega) fun v hv=> ?_
 rw [List.length_map,List.length_map]at hv
 have hv':v<g.a.owner.length:=by omega
 have e1:gi ((c.map (yL (zk (za g)))).map wA) v=wA (yL (zk (za g)) (gi c v)):=by
  unfold gi
  rw [List.getD_eq_getElem?_getD,List.getElem?_map,List.getElem?_map,List.getD_eq_getElem?_getD,List.getElem?_eq_getElem hv]
  rfl
 rw [e1]
 have hf:=zCe hb hm hL hv'
 have hr:=hL.rg v (by omega)
 have hw:gi (yn g) v=0∨gi (yn g) v=1:=by rcases zA0 hb hv' with e|e<;>omega
 unfold wA yL
 split<;>split<;>omega
end
end Go.Proofs.Ytdbecmmeifdafaa
