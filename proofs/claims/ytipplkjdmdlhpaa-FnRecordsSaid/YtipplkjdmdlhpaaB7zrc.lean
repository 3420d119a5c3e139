/- full plans and plays by them: plain -/
import Derived.Test.YtipplkjdmdlhpaaB6zrc
import Derived.Test.YtipplkjdmdlhpaaGWzrc
namespace Go.Proofs.Ytipplkjdmdlhpaa
open Go.RowKit
set_option linter.unusedVariables false
set_option linter.unusedSimpArgs false
theorem Jg : ∀(N:Nat) (l:List Nat),l.Nodup→(∀x∈l,x<N)→l.length≤N
 |0,l,_,h=>by
  cases l with
  |nil=>simp
  |cons x l=>have :=h x List.mem_cons_self;omega
 |N+1,l,hn,h=>by
  have h1:=List.length_eq_countP_add_countP (p:=fun x=>x==N) (l:=l)
  have h2:l.countP (fun x=>x==N)≤1:=List.nodup_iff_count.1 hn N
  have h4:=Jg N (l.filter (fun x=> !(x==N))) (hn.filter _) fun x hx=>by
   have h5:=List.mem_filter.1 hx
   have h6:=h x h5.1
   have h7: ¬x=N:=by simpa using h5.2
   omega
  have h3:(l.filter (fun x=> !(x==N))).length=l.countP (fun x=> !(x==N)):=(List.countP_eq_length_filter ..).symm
  have h8:l.countP (fun x=>decide ¬(x==N)=true)=l.countP (fun x=> !(x==N)):=by
   congr 1
   funext x
   by_cases e:x=N<;>simp [e]
  omega
theorem qW {xs:List Int}{y:Int}{j:Nat}(h:j<xs.length+1):gi (xs++ [y]) j=if j=xs.length then y else gi xs j:=by
 by_cases e:j=xs.length
 ·subst e;rw [if_pos rfl,Ve]
 ·rw [if_neg e,KP (by omega)]
def xi (a:Ar)(who:Int)(plan:List Int):Bool:=vA a who plan&&wU plan.length (fun v=> !(decide (gi a.owner v=who)&&decide (gi plan v<0)))
theorem zDc {a:Ar}{who:Int}{plan:List Int}(h:vA a who plan=false):xi a who plan=false:=by unfold xi;rw [h];rfl
theorem zDd {a:Ar}{who:Int}{plan:List Int}{v:Nat}(hv:v<plan.length)(h:gi a.owner v=who)(h2:gi plan v<0):xi a who plan=false:=by
 unfold xi;rw [vH hv (by rw [decide_eq_true h,decide_eq_true h2];rfl),Bool.and_false]
theorem kL {a:Ar}{who:Int}{plan:List Int}(h:vA a who plan=true)(h2: ∀v,v<plan.length→¬(gi a.owner v=who∧gi plan v<0)):xi a who plan=true:=by
 unfold xi
 rw [h,xq fun v hv=>by
  have :=h2 v hv
  rw [Bool.not_eq_true',Bool.and_eq_false_iff,decide_eq_false_iff_not,decide_eq_false_iff_not]
  omega]
 rfl
theorem zFc {xs:List Int}{n:Int}(h:yN xs n=true){j:Nat}(hj:j<xs.length):0≤gi xs j∧gi xs j<n:=by
 have :=qI h hj
 unfold qF at this
 have :=of_decide_eq_true this
 exact⟨this.1,this.2.1⟩
theorem zDp {a:Ar}(h:zv a=true){v:Nat}(hv:v<a.owner.length){u:Int}(hu:zt (gl a.next v) u=true):0≤u∧u<a.owner.length:=by
 have h1:=(vf h hv).2.2.2.2
 unfold zt yd at hu
 rw [decide_eq_true_eq]at hu
 have h2:=List.findIdx_getElem (p:=fun y=>y==u) (xs:=gl a.next v) (w:=hu)
 have h3:=zFc h1 hu
 have h4:gi (gl a.next v) ((gl a.next v).findIdx fun y=>y==u)=u:=by
  unfold gi
  rw [List.getD_eq_getElem?_getD,List.getElem?_eq_getElem hu]
  simpa using h2
 rw [h4]at h3
 exact h3
theorem ZW {a:Ar}{who:Int}{plan:List Int}(h:xi a who plan=true):vA a who plan=true∧∀v,v<plan.length→¬(gi a.owner v=who∧gi plan v<0):=by
 unfold xi at h
 rw [Bool.and_eq_true]at h
 refine⟨h.1,fun v hv=> ?_⟩
 have :=qI (p:=fun v=> !(decide (gi a.owner v=who)&&decide (gi plan v<0))) h.2 hv
 simp only [Bool.not_eq_true',Bool.and_eq_false_iff,decide_eq_false_iff_not]at this
 omega
def goP (a:Ar)(even odd:List Int)(v:Int):Int:=if gi a.owner v.toNat=0 then gi even v.toNat else gi odd v.toNat
def Vy (a:Ar)(even odd:List Int):Nat→List Int→Int→Ls
 |0,_,_=>⟨[],[]⟩
 |F+1,met,v=>if yd met v<met.length then⟨met.take (yd met v),met.drop (yd met v)⟩else Vy a even odd F (met++ [v]) (goP a even odd v)
theorem zAD {a:Ar}{even odd:List Int}{F:Nat}{met:List Int}{v:Int}(h:zt met v=true):Vy a even odd (F+1) met v=⟨met.take (yd met v),met.drop (yd met v)⟩:=if_pos (of_decide_eq_true h)
theorem jf {a:Ar}{even odd:List Int}{F:Nat}{met:List Int}{v:Int}(h:zt met v=false):Vy a even odd (F+1) met v=Vy a even odd F (met++ [v]) (goP a even odd v):=if_neg (of_decide_eq_false h)
structure Zq (a:Ar)(even odd:List Int)(v0:Int)(met:List Int)(v:Int):Prop where
 rg: ∀j,j<met.length→0≤gi met j∧gi met j<a.owner.length
 ne: ∀j,j<met.length→∀i,i<j→¬gi met i=gi met j
 go: ∀j,j+1<met.length→gi met (j+1)=goP a even odd (gi met j)
 last:1≤met.length→v=goP a even odd (gi met (met.length - 1))
 f0:met.length=0→v=v0
 f1:1≤met.length→gi met 0=v0
 hv:0≤v∧v<a.owner.length
theorem Zq.start {a:Ar}{even odd:List Int}{v0:Int}(h:0≤v0∧v0<a.owner.length):Zq a even odd v0 [] v0:=
 ⟨fun j hj=>by simp at hj,fun j hj=>by simp at hj,fun j hj=>by simp at hj,fun h=>by simp at h,fun _=>rfl,fun h=>by simp at h,h⟩
theorem Zq.next {a:Ar}{even odd:List Int}{v0:Int}{met:List Int}{v:Int}(h:Zq a even odd v0 met v)(hn:zt met v=false)(hg:0≤goP a even odd v∧goP a even odd v<a.owner.length):Zq a even odd v0 (met++ [v]) (goP a even odd v):=by
 have hne: ∀i,i<met.length→¬gi met i=v:=fun i hi e=>by
  have h1:v∈met:=by rw [←e];exact List.mem_of_getElem? (wt hi)
  rw [←xQ]at h1
  rw [h1]at hn
  cases hn
 have hl:(met++ [v]).length=met.length+1:=by simp
 refine⟨fun j hj=> ?_,fun j hj i hi=> ?_,fun j hj=> ?_,fun _=> ?_,fun e=>by rw [hl]at e;omega,fun _=> ?_,hg⟩
 ·rw [hl]at hj
  rw [qW hj]
  split
  ·exact h.hv
  ·exact h.rg j (by omega)
 ·rw [hl]at hj
  rw [qW hj,qW (by omega),if_neg (by omega)]
  split
  ·exact hne i (by omega)
  ·exact h.ne j (by omega) i hi
 ·rw [hl]at hj
  rw [qW (j:=j+1) (by omega),qW (j:=j) (by omega),if_neg (show ¬j=met.length by omega)]
  split
  ·have h5:=h.last (by omega)
   rw [show met.length - 1=j from by omega]at h5
   exact h5
  ·exact h.go j (by omega)
 ·rw [hl,Nat.add_sub_cancel,qW (j:=met.length) (by omega),if_pos rfl]
 ·rw [qW (by omega)]
  split
  ·exact h.f0 (by omega)
  ·exact h.f1 (by omega)
theorem kW {f:Nat→Nat}: ∀n,(∀i j,i<j→j<n→f i≠f j)→((List.range n).map f).Nodup
 |0,_=>by simp
 |n+1,h=>by
  rw [List.range_succ,List.map_append,List.nodup_append]
  refine⟨kW n fun i j hij hj=>h i j hij (by omega),by simp,fun x hx y hy=> ?_⟩
  obtain⟨i,hi,rfl⟩:=List.mem_map.1 hx
  have hy2:y=f n:=by simpa using hy
  rw [hy2]
  exact h i n (List.mem_range.1 hi) (by omega)
theorem Zq.le {a:Ar}{even odd:List Int}{v0:Int}{met:List Int}{v:Int}(h:Zq a even odd v0 met v):met.length≤a.owner.length:=by
 have hl:((List.range met.length).map fun j=>(gi met j).toNat).length=met.length:=by simp
 rw [←hl]
 refine Jg _ _ (kW _ fun i j hij hj=> ?_) fun x hx=> ?_
 ·have h1:=h.ne j hj i hij
  have h2:=h.rg i (by omega)
  have h3:=h.rg j hj
  omega
 ·obtain⟨j,hj,rfl⟩:=List.mem_map.1 hx
  have :=h.rg j (List.mem_range.1 hj)
  omega
theorem UZ {a:Ar}(ha:zv a=true){even odd:List Int}(h0:xi a 0 even=true)(h1:xi a 1 odd=true){v:Int}(hv:0≤v∧v<a.owner.length):zt (gl a.next v.toNat) (goP a even odd v)=true∧0≤goP a even odd v∧goP a even odd v<a.owner.length:=by
 obtain⟨p0,q0⟩:=ZW h0
 obtain⟨p1,q1⟩:=ZW h1
 obtain⟨l0,a0⟩:=Ye p0
 obtain⟨l1,a1⟩:=Ye p1
 have ho:=(vf ha (v:=v.toNat) (by omega))
 have h9:zt (gl a.next v.toNat) (goP a even odd v)=true:=by
  unfold goP
  split
  ·rename_i e
   have :=q0 v.toNat (by omega)
   rcases a0 v.toNat (by omega)with e2|e2
   ·omega
   ·exact e2.2
  ·rename_i e
   have :=q1 v.toNat (by omega)
   have h5:=ho.1
   have h6:=ho.2.1
   rcases a1 v.toNat (by omega)with e2|e2
   ·omega
   ·exact e2.2
 exact⟨h9,zDp ha (by omega) h9⟩
theorem zBv {a:Ar}(ha:zv a=true){even odd:List Int}(h0:xi a 0 even=true)(h1:xi a 1 odd=true){v0:Int}: ∀(F:Nat) (met:List Int) (v:Int),Zq a even odd v0 met v→a.owner.length+1≤F+met.length→
  ∃m2 v2,Zq a even odd v0 m2 v2∧yd m2 v2<m2.length∧Vy a even odd F met v=⟨m2.take (yd m2 v2),m2.drop (yd m2 v2)⟩
 |0,met,v,hM,hF=>by have :=hM.le;omega
 |F+1,met,v,hM,hF=>by
  cases hb:zt met v
  ·rw [jf hb]
   exact zBv ha h0 h1 F _ _ (hM.next hb (UZ ha h0 h1 hM.hv).2) (by rw [List.length_append];simp;omega)
  ·exact⟨met,v,hM,of_decide_eq_true hb,zAD hb⟩
def Qn (a:Ar)(even odd:List Int)(v:Int):Bool:=zv a&&(xi a 0 even&&(xi a 1 odd&&decide (0≤v∧v<a.owner.length)))
def Qo (a:Ar)(even odd:List Int)(v:Int):Ls:=if Qn a even odd v then Vy a even odd 257 [] v else⟨[],[]⟩
theorem ka {a:Ar}{even odd:List Int}{v:Int}(ha:zv a=true)(h0:xi a 0 even=true)(h1:xi a 1 odd=true)(hv:0≤v∧v<a.owner.length):Qn a even odd v=true:=by unfold Qn;rw [ha,h0,h1,decide_eq_true hv];rfl
theorem zFQ {a:Ar}{even odd:List Int}{v:Int}(h:Qn a even odd v=false):Qo a even odd v=⟨[],[]⟩:=if_neg (by rw [h];decide)
theorem kb {a:Ar}{even odd:List Int}{v:Int}(h:Qn a even odd v=true):Qo a even odd v=Vy a even odd 257 [] v:=if_pos h
structure PlayP (a:Ar)(even odd:List Int)(v0:Int)(l:Ls):Prop where
 ok:xj a l=true
 first:gi (yM l) 0=v0
 rg: ∀i,i≤l.stem.length+l.loop.length→0≤gi (yM l) i∧gi (yM l) i<a.owner.length
 go: ∀i,i<l.stem.length+l.loop.length→gi (yM l) (i+1)=goP a even odd (gi (yM l) i)
 last:gi (yM l) (l.stem.length+l.loop.length)=gi (yM l) l.stem.length
 pos:1≤l.loop.length
 len:l.stem.length+l.loop.length≤a.owner.length
theorem zBn {a:Ar}(ha:zv a=true){even odd:List Int}(h0:xi a 0 even=true)(h1:xi a 1 odd=true){v0:Int}(hv:0≤v0∧v0<a.owner.length):PlayP a even odd v0 (Qo a even odd v0):=by
 have hn:=(yS ha).2.1
 obtain⟨m,v,hM,hk,he⟩:=zBv ha h0 h1 257 [] v0 (Zq.start hv) (by simp;omega)
 rw [kb (ka ha h0 h1 hv),he]
 have hle:=hM.le
 have hsp:=kI hk
 generalize yd m v=k at hk hsp⊢
 have hls:(m.take k).length=k:=by rw [List.length_take];omega
 have hll:(m.drop k).length=m.length - k:=List.length_drop ..
 have hg0:gi (m.drop k) 0=v:=by
  rw [←hsp]
  unfold gi
  rw [List.getD_eq_getElem?_getD,List.getElem?_drop,List.getD_eq_getElem?_getD,Nat.add_zero]
 have hw:yM ⟨m.take k,m.drop k⟩=m++ [v]:=by
  unfold yM
  show m.take k++m.drop k++ [gi (m.drop k) 0]=_
  rw [List.take_append_drop,hg0]
 have hlen:(yM ⟨m.take k,m.drop k⟩).length=m.length+1:=by rw [hw];simp
 have hrg: ∀i,i<m.length+1→0≤gi (m++ [v]) i∧gi (m++ [v]) i<a.owner.length:=fun i hi=>by
  rw [qW hi]
  split
  ·exact hM.hv
  ·exact hM.rg i (by omega)
 have hgo: ∀i,i<m.length→gi (m++ [v]) (i+1)=goP a even odd (gi (m++ [v]) i):=fun i hi=>by
  rw [qW (j:=i+1) (by omega),qW (j:=i) (by omega),if_neg (show ¬i=m.length by omega)]
  split
  ·have h5:=hM.last (by omega)
   rw [show m.length - 1=i from by omega]at h5
   exact h5
  ·exact hM.go i (by omega)
 refine⟨xM.2 ⟨?_,?_,?_⟩,?_,?_,?_,?_,?_,?_⟩
 ·show(m.take k).length≤256∧1≤(m.drop k).length∧(m.drop k).length≤256
  omega
 ·intro j hj
  rw [hlen]at hj
  rw [hw]
  exact hrg j hj
 ·intro j hj1 hj
  rw [hlen]at hj
  rw [hw]
  obtain⟨i,rfl⟩: ∃i,j=i+1:=⟨j - 1,by omega⟩
  rw [hgo i (by omega),Nat.add_sub_cancel]
  exact(UZ ha h0 h1 (hrg i (by omega))).1
 ·rw [hw,qW (by omega)]
  split
  ·exact hM.f0 (by omega)
  ·exact hM.f1 (by omega)
 ·intro i hi
  rw [hw]
  refine hrg i ?_
  have :i≤(m.take k).length+(m.drop k).length:=hi
  omega
 ·intro i hi
  rw [hw]
  refine hgo i ?_
  have :i<(m.take k).length+(m.drop k).length:=hi
  omega
 ·show gi (yM ⟨m.take k,m.drop k⟩) ((m.take k).length+(m.drop k).length)=gi (yM ⟨m.take k,m.drop k⟩) (m.take k).length
  rw [hw,hls,hll,show k+(m.length - k)=m.length from by omega,qW (j:=m.length) (by omega),qW (j:=k) (by omega),if_pos rfl,if_neg (show ¬k=m.length by omega),hsp]
 ·show 1≤(m.drop k).length
  omega
 ·show(m.take k).length+(m.drop k).length≤a.owner.length
  omega
theorem zEB (a:Ar)(even odd:List Int)(v:Int):(Qo a even odd v).Ln 1048576:=by
 cases h:Qn a even odd v
 ·rw [zFQ h];exact⟨by simp [LnI],by simp [LnI]⟩
 ·unfold Qn at h
  simp only [Bool.and_eq_true,decide_eq_true_eq]at h
  have :=(xM.1 (zBn h.1 h.2.1 h.2.2.1 h.2.2.2).ok).1
  exact⟨by unfold LnI;omega,by unfold LnI;omega⟩
open Nat renaming reduceMod → zA, reduceMul → zB, reduceDiv → zC, reduceAdd → zD, reduceSub → zE, reduceEqDiff → zF, reduceBEq → zG, reduceLT → zH, reduceLeDiff → zI
def ZM (a:Ar)(who:Int)(plan:List Int):Bool:=zv a&&(decide (0≤who∧who≤1)&&vA a who plan)
theorem zCn {a:Ar}{who:Int}{plan:List Int}(h:zv a=false):ZM a who plan=false:=by unfold ZM;rw [h];rfl
theorem zCo {a:Ar}{who:Int}{plan:List Int}(h: ¬(0≤who∧who≤1)):ZM a who plan=false:=by unfold ZM;rw [decide_eq_false h,Bool.false_and,Bool.and_false]
theorem kZ {a:Ar}{who:Int}{plan:List Int}(h1:zv a=true)(h2:0≤who∧who≤1):ZM a who plan=vA a who plan:=by unfold ZM;rw [h1,decide_eq_true h2];rfl
set_option maxRecDepth 20000 in
set_option maxHeartbeats 4000000 in
theorem zB7 (a:Ar)(ha:a.Ln 1048576)(who:Int)(plan:List Int)(hp:plan.length≤1048576):Fn Try.prog tyT 76 [.agg (dAr a), .c (.int .i64 who), .c (DI plan)] [.c (.bool (ZM a who plan))]:=by
 have hA:=wF a ha
 have hI:=yW who 0 1
 have hP:=fun h=>zDt a ha h who plan hp
 have hno:=ha.owner
 unfold LnI at hno
 unfold dAr at hA hP⊢
 refine yG (fn:=Try.f76) (ts:= [6]) Try.func76 (by kernel_rfl) rfl rfl (by rw [Try.ntmps76];exact Nat.le_of_ble_eq_true rfl) rfl (by simp only [szA,List.mem_cons,List.not_mem_nil,or_false,forall_eq_or_imp,forall_eq,VT.cells,szL];try decide) ?_
 rw [Try.ntmps76]
 simp only [push_cast,↓zK,↓zJ,↓reduceIte,zA,zB,zC,zD,zE,zF,zG,zH,zI,reduceCtorEq]
 refine zL fun K hK=> ?_
 refine zM zQ zN [] rfl ?_
 simp only [push_cast,↓zK,↓zJ,↓reduceIte,zA,zB,zC,zD,zE,zF,zG,zH,zI,reduceCtorEq]
 repeat' apply And.intro
 all_goals try exact gB
 all_goals first|(refine hK _ ?_;clear hK K)|(simp only [push_cast];done)
 refine zL fun K hK=> ?_
 refine ze false zQ zN ?_ rfl ?_
 ·kernel_rfl
 all_goals refine zj 2 fun K9 hK9=> ?_
 all_goals simp only [push_cast,↓zK,↓zJ,↓reduceIte,zA,zB,zC,zD,zE,zF,zG,zH,zI,reduceCtorEq]
 all_goals repeat'(first|(apply zO<;>(intro hg;(try simp only [push_cast]at hg)))|(refine⟨_,hA,?_⟩;simp only [push_cast,↓zK,↓zJ,↓reduceIte,zA,zB,zC,zD,zE,zF,zG,zH,zI,reduceCtorEq])|(refine⟨_,hI,?_⟩;simp only [push_cast,↓zK,↓zJ,↓reduceIte,zA,zB,zC,zD,zE,zF,zG,zH,zI,reduceCtorEq])|(refine⟨_,hP (yS (by with_reducible assumption)).2.2,?_⟩;simp only [push_cast,↓zK,↓zJ,↓reduceIte,zA,zB,zC,zD,zE,zF,zG,zH,zI,reduceCtorEq])|apply And.intro|(intro hg;(try simp only [push_cast]at hg)))
 all_goals try exact gA
 all_goals first|(refine hK9 _ ?_;clear hK9 K9)|(simp only [push_cast];done)
 all_goals refine zj 3 fun K9 hK9=> ?_
 all_goals simp only [push_cast,↓zK,↓zJ,↓reduceIte,zA,zB,zC,zD,zE,zF,zG,zH,zI,reduceCtorEq]
 all_goals repeat'(first|(apply zO<;>(intro hg;(try simp only [push_cast]at hg)))|(refine⟨_,hA,?_⟩;simp only [push_cast,↓zK,↓zJ,↓reduceIte,zA,zB,zC,zD,zE,zF,zG,zH,zI,reduceCtorEq])|(refine⟨_,hI,?_⟩;simp only [push_cast,↓zK,↓zJ,↓reduceIte,zA,zB,zC,zD,zE,zF,zG,zH,zI,reduceCtorEq])|(refine⟨_,hP (yS (by with_reducible assumption)).2.2,?_⟩;simp only [push_cast,↓zK,↓zJ,↓reduceIte,zA,zB,zC,zD,zE,zF,zG,zH,zI,reduceCtorEq])|apply And.intro|(intro hg;(try simp only [push_cast]at hg)))
 all_goals try exact gA
 all_goals first|(refine hK9 _ ?_;clear hK9 K9)|(simp only [push_cast];done)
 all_goals refine zj 6 fun K9 hK9=> ?_
 all_goals simp only [push_cast,↓zK,↓zJ,↓reduceIte,zA,zB,zC,zD,zE,zF,zG,zH,zI,reduceCtorEq]
 all_goals repeat'(first|(apply zO<;>(intro hg;(try simp only [push_cast]at hg)))|(refine⟨_,hA,?_⟩;simp only [push_cast,↓zK,↓zJ,↓reduceIte,zA,zB,zC,zD,zE,zF,zG,zH,zI,reduceCtorEq])|(refine⟨_,hI,?_⟩;simp only [push_cast,↓zK,↓zJ,↓reduceIte,zA,zB,zC,zD,zE,zF,zG,zH,zI,reduceCtorEq])|(refine⟨_,hP (yS (by with_reducible assumption)).2.2,?_⟩;simp only [push_cast,↓zK,↓zJ,↓reduceIte,zA,zB,zC,zD,zE,zF,zG,zH,zI,reduceCtorEq])|apply And.intro|(intro hg;(try simp only [push_cast]at hg)))
 all_goals try exact gA
 all_goals first|(refine hK9 _ ?_;clear hK9 K9)|(simp only [push_cast];done)
 all_goals simp only [push_cast,↓zK,↓zJ,↓reduceIte,zA,zB,zC,zD,zE,zF,zG,zH,zI,reduceCtorEq]
 all_goals repeat'(first|(apply zO<;>(intro hg;(try simp only [push_cast]at hg)))|(refine⟨_,hA,?_⟩;simp only [push_cast,↓zK,↓zJ,↓reduceIte,zA,zB,zC,zD,zE,zF,zG,zH,zI,reduceCtorEq])|(refine⟨_,hI,?_⟩;simp only [push_cast,↓zK,↓zJ,↓reduceIte,zA,zB,zC,zD,zE,zF,zG,zH,zI,reduceCtorEq])|(refine⟨_,hP (yS (by with_reducible assumption)).2.2,?_⟩;simp only [push_cast,↓zK,↓zJ,↓reduceIte,zA,zB,zC,zD,zE,zF,zG,zH,zI,reduceCtorEq])|apply And.intro|(intro hg;(try simp only [push_cast]at hg)))
 all_goals try exact gA
 all_goals first|(refine hK _ ?_;clear hK K)|(simp only [push_cast];done)
 all_goals(
   refine zZ ?_
   (try simp only [zR,zT])
   refine⟨Or.inl rfl,?_⟩
   simp only [zf,push_cast,↓zK,↓zJ,↓reduceIte,zA,zB,zC,zD,zE,zF,zG,zH,zI,reduceCtorEq]
   first|exact(zCn (by with_reducible assumption)).symm|exact(zCo (by omega)).symm|exact(kZ (by with_reducible assumption) (by omega)).symm)
set_option maxRecDepth 20000 in
set_option maxHeartbeats 4000000 in
theorem jp (a:Ar)(ha:a.Ln 1048576)(hok:zv a=true)(who:Int)(hw:0≤who∧who≤1)(plan:List Int)(hp:plan.length≤1048576):Fn Try.prog tyT 42 [.agg (dAr a), .c (.int .i64 who), .c (DI plan)] [.c (.bool (xi a who plan))]:=by
 have hno:=ha.owner
 unfold LnI at hno
 have hP:=zB7 a ha who plan hp
 rw [kZ hok hw]at hP
 unfold dAr at hP⊢
 refine yG (fn:=Try.f42) (ts:= [6]) Try.func42 (by kernel_rfl) rfl rfl (by rw [Try.ntmps42];exact Nat.le_of_ble_eq_true rfl) rfl (by simp only [szA,List.mem_cons,List.not_mem_nil,or_false,forall_eq_or_imp,forall_eq,VT.cells,szL];try decide) ?_
 rw [Try.ntmps42]
 simp only [push_cast,↓zK,↓zJ,↓reduceIte,zA,zB,zC,zD,zE,zF,zG,zH,zI,reduceCtorEq]
 refine zL fun K hK=> ?_
 refine zM zQ zN [] rfl ?_
 simp only [push_cast,↓zK,↓zJ,↓reduceIte,zA,zB,zC,zD,zE,zF,zG,zH,zI,reduceCtorEq]
 repeat' apply And.intro
 all_goals try exact gB
 all_goals first|(refine hK _ ?_;clear hK K)|(simp only [push_cast];done)
 refine zL fun K1 hK1=> ?_
 refine zL fun K hK=> ?_
 refine zM zQ zN [] rfl ?_
 all_goals refine yC 4 fun K9 hK9=> ?_
 all_goals simp only [push_cast,↓zK,↓zJ,↓reduceIte,zA,zB,zC,zD,zE,zF,zG,zH,zI,reduceCtorEq]
 all_goals repeat'(first|(apply zO<;>(intro hg;(try simp only [push_cast]at hg)))|(refine⟨_,hP,?_⟩;simp only [push_cast,↓zK,↓zJ,↓reduceIte,zA,zB,zC,zD,zE,zF,zG,zH,zI,reduceCtorEq])|apply And.intro|(intro hg;(try simp only [push_cast]at hg)))
 all_goals try exact gA
 all_goals first|(refine hK9 _ ?_;clear hK9 K9)|(simp only [push_cast];done)
 all_goals simp only [push_cast,↓zK,↓zJ,↓reduceIte,zA,zB,zC,zD,zE,zF,zG,zH,zI,reduceCtorEq]
 all_goals repeat'(first|(apply zO<;>(intro hg;(try simp only [push_cast]at hg)))|(refine⟨_,hP,?_⟩;simp only [push_cast,↓zK,↓zJ,↓reduceIte,zA,zB,zC,zD,zE,zF,zG,zH,zI,reduceCtorEq])|apply And.intro|(intro hg;(try simp only [push_cast]at hg)))
 all_goals try exact gA
 all_goals first|(refine hK _ ?_;clear hK K)|(simp only [push_cast];done)
 refine zV rfl (fun hc=> ?_) (fun hc=> ?_)<;>(try simp only [push_cast]at hc)
 ·
  refine zL fun K hK=> ?_
  refine zM zQ zN [] rfl ?_
  simp only [push_cast,↓zK,↓zJ,↓reduceIte,zA,zB,zC,zD,zE,zF,zG,zH,zI,reduceCtorEq]
  repeat' apply And.intro
  all_goals try exact gB
  all_goals first|(refine hK _ ?_;clear hK K)|(simp only [push_cast];done)
  refine zZ ?_
  (try simp only [zR,zT])
  refine⟨Or.inl rfl,?_⟩
  simp only [zf,push_cast,↓zK,↓zJ,↓reduceIte,zA,zB,zC,zD,zE,zF,zG,zH,zI,reduceCtorEq]
  symm
  exact zDc (by with_reducible assumption)
 ·
  refine zX ?_
  (try simp only [zR,zT,reduceIte,zF]);refine hK1 _ ?_
  refine zL fun K2 hK2=> ?_
  have hpok:vA a who plan=true:=by with_reducible assumption
  have hpn:=(Ye hpok).1
  refine zL fun K hK=> ?_
  refine zM zQ zN [] rfl ?_
  simp only [push_cast,↓zK,↓zJ,↓reduceIte,zA,zB,zC,zD,zE,zF,zG,zH,zI,reduceCtorEq]
  repeat' apply And.intro
  all_goals try exact gB
  all_goals first|(refine hK _ ?_;clear hK K)|(simp only [push_cast];done)
  refine zW ?_
  refine zk [6,7,13,14,15,16,17,18,19,20,21,22,23,24,25,26,27,28,29,30,31,32] [] (fun(k:Nat)=> [(7, .int .i64 k)]) (fun k=> []) (fun k=> []) (fun k=>k≤plan.length∧∀j,j<k→¬(gi a.owner j=who∧gi plan j<0)) (fun k=>plan.length - k) 0 ?_ ⟨by omega,fun j hj=>by omega⟩ ?_
  ·
   refine zb rfl ?_ ?_ ?_<;>simp only [zi,zh,push_cast,↓zK,↓zJ,↓reduceIte,zA,zB,zC,zD,zE,zF,zG,zH,zI,reduceCtorEq]
  ·rintro k ⟨hk,hall⟩ KL0 hL0
   skip
   simp only [push_cast,↓zK,↓zJ,↓reduceIte,zA,zB,zC,zD,zE,zF,zG,zH,zI,reduceCtorEq]
   refine zL fun K3 hK3=> ?_
   refine zL fun K hK=> ?_
   refine zM zQ zN [] rfl ?_
   simp only [push_cast,↓zK,↓zJ,↓reduceIte,zA,zB,zC,zD,zE,zF,zG,zH,zI,reduceCtorEq]
   repeat' apply And.intro
   all_goals try exact gB
   all_goals first|(refine hK _ ?_;clear hK K)|(simp only [push_cast];done)
   refine zV rfl (fun hc=> ?_) (fun hc=> ?_)<;>(try simp only [push_cast]at hc)
   ·
    refine zX ?_
    (try simp only [zR,zT,reduceIte,zF]);refine hK3 _ ?_
    refine zL fun K4 hK4=> ?_
    refine zW ?_
    refine zL fun K hK=> ?_
    refine ze false zQ zN ?_ rfl ?_
    ·kernel_rfl
    all_goals simp only [push_cast,↓zK,↓zJ,↓reduceIte,zA,zB,zC,zD,zE,zF,zG,zH,zI,reduceCtorEq]
    all_goals repeat'(first|(apply zO<;>(intro hg;(try simp only [push_cast]at hg)))|apply And.intro|(intro hg;(try simp only [push_cast]at hg)))
    all_goals try exact gA
    all_goals first|(refine hK _ ?_;clear hK K)|(simp only [push_cast];done)
    all_goals refine zV rfl (fun hc=> ?_) (fun hc=> ?_)
    all_goals(first|(cases hc;done)|skip)
    all_goals(try simp only [push_cast]at hc)
    all_goals first
     |(
       refine zX ?_
       (try simp only [zR,zT,reduceIte,zF]);refine hK4 _ ?_
       refine zM zQ zN [] rfl ?_
       simp only [push_cast,↓zK,↓zJ,↓reduceIte,zA,zB,zC,zD,zE,zF,zG,zH,zI,reduceCtorEq]
       repeat' apply And.intro
       all_goals try exact gB
       refine hL0 _ ⟨k+1,⟨by omega,fun j hj=>(by
         by_cases hjk:j=k
         ·subst hjk;omega
         ·exact hall j (by omega))⟩,by omega,?_⟩
       refine zb rfl ?_ ?_ ?_<;>simp only [zi,zh,push_cast,↓zK,↓zJ,↓reduceIte,zA,zB,zC,zD,zE,zF,zG,zH,zI,reduceCtorEq]
       done)
     |(
       refine zL fun K hK=> ?_
       refine zM zQ zN [] rfl ?_
       simp only [push_cast,↓zK,↓zJ,↓reduceIte,zA,zB,zC,zD,zE,zF,zG,zH,zI,reduceCtorEq]
       repeat' apply And.intro
       all_goals try exact gB
       all_goals first|(refine hK _ ?_;clear hK K)|(simp only [push_cast];done)
       refine zZ ?_
       (try simp only [zR,zT])
       refine⟨Or.inl rfl,?_⟩
       simp only [zf,push_cast,↓zK,↓zJ,↓reduceIte,zA,zB,zC,zD,zE,zF,zG,zH,zI,reduceCtorEq]
       symm
       exact zDd (v:=k) (by omega) (by omega) (by omega)
       done)
   ·
    refine zn ?_
    (try simp only [zR,zT,reduceIte,zF]);refine hK2 _ ?_
    refine zL fun K hK=> ?_
    refine zM zQ zN [] rfl ?_
    simp only [push_cast,↓zK,↓zJ,↓reduceIte,zA,zB,zC,zD,zE,zF,zG,zH,zI,reduceCtorEq]
    repeat' apply And.intro
    all_goals try exact gB
    all_goals first|(refine hK _ ?_;clear hK K)|(simp only [push_cast];done)
    refine zZ ?_
    (try simp only [zR,zT])
    refine⟨Or.inl rfl,?_⟩
    simp only [zf,push_cast,↓zK,↓zJ,↓reduceIte,zA,zB,zC,zD,zE,zF,zG,zH,zI,reduceCtorEq]
    symm
    exact kL (by with_reducible assumption) fun v hv=>hall v (by omega)
set_option maxRecDepth 20000 in
set_option maxHeartbeats 4000000 in
theorem zCb (xs:List Int)(x:Int)(hl:xs.length≤1048576):Fn Try.prog tyT 45 [.c (DI xs), .c (.int .i64 x)] [.c (.int .i64 (ixB xs x))]:=by
 refine yG (fn:=Try.f45) (ts:= [4]) Try.func45 (by kernel_rfl) rfl rfl (by rw [Try.ntmps45];exact Nat.le_of_ble_eq_true rfl) rfl (by simp only [szA,List.mem_cons,List.not_mem_nil,or_false,forall_eq_or_imp,forall_eq,VT.cells,szL];try decide) ?_
 rw [Try.ntmps45]
 simp only [push_cast,↓zK,↓zJ,↓reduceIte,zA,zB,zC,zD,zE,zF,zG,zH,zI,reduceCtorEq]
 refine zL fun K hK=> ?_
 refine zM zQ zN [] rfl ?_
 simp only [push_cast,↓zK,↓zJ,↓reduceIte,zA,zB,zC,zD,zE,zF,zG,zH,zI,reduceCtorEq]
 repeat' apply And.intro
 all_goals try exact gB
 all_goals first|(refine hK _ ?_;clear hK K)|(simp only [push_cast];done)
 refine zL fun K1 hK1=> ?_
 refine zL fun K hK=> ?_
 refine zM zQ zN [] rfl ?_
 simp only [push_cast,↓zK,↓zJ,↓reduceIte,zA,zB,zC,zD,zE,zF,zG,zH,zI,reduceCtorEq]
 repeat' apply And.intro
 all_goals try exact gB
 all_goals first|(refine hK _ ?_;clear hK K)|(simp only [push_cast];done)
 refine zW ?_
 refine zk [4,5,6,7,8,9,10,11,12,13,14,15,16,17,18] [] (fun(k:Nat)=> [(5, .int .i64 k)]) (fun k=> []) (fun k=> []) (fun k=>k≤xs.length∧∀j,j<k→¬gi xs j=x) (fun k=>xs.length - k) 0 ?_ ⟨by omega,fun j hj=>by omega⟩ ?_
 ·
  refine zb rfl ?_ ?_ ?_<;>simp only [zi,zh,push_cast,↓zK,↓zJ,↓reduceIte,zA,zB,zC,zD,zE,zF,zG,zH,zI,reduceCtorEq]
 ·rintro k ⟨hk,hall⟩ KL0 hL0
  simp only [push_cast,↓zK,↓zJ,↓reduceIte,zA,zB,zC,zD,zE,zF,zG,zH,zI,reduceCtorEq]
  refine zL fun K2 hK2=> ?_
  refine zL fun K hK=> ?_
  refine zM zQ zN [] rfl ?_
  simp only [push_cast,↓zK,↓zJ,↓reduceIte,zA,zB,zC,zD,zE,zF,zG,zH,zI,reduceCtorEq]
  repeat' apply And.intro
  all_goals try exact gB
  all_goals first|(refine hK _ ?_;clear hK K)|(simp only [push_cast];done)
  refine zV rfl (fun hc=> ?_) (fun hc=> ?_)<;>(try simp only [push_cast]at hc)
  ·
   refine zX ?_
   (try simp only [zR,zT,reduceIte,zF]);refine hK2 _ ?_
   refine zL fun K3 hK3=> ?_
   refine zW ?_
   refine zL fun K hK=> ?_
   refine zM zQ zN [] rfl ?_
   simp only [push_cast,↓zK,↓zJ,↓reduceIte,zA,zB,zC,zD,zE,zF,zG,zH,zI,reduceCtorEq]
   repeat' apply And.intro
   all_goals try exact gB
   all_goals first|(refine hK _ ?_;clear hK K)|(simp only [push_cast];done)
   refine zV rfl (fun hc=> ?_) (fun hc=> ?_)<;>(try simp only [push_cast]at hc)
   ·
    refine zL fun K hK=> ?_
    refine zM zQ zN [] rfl ?_
    simp only [push_cast,↓zK,↓zJ,↓reduceIte,zA,zB,zC,zD,zE,zF,zG,zH,zI,reduceCtorEq]
    repeat' apply And.intro
    all_goals try exact gB
    all_goals first|(refine hK _ ?_;clear hK K)|(simp only [push_cast];done)
    refine zZ ?_
    (try simp only [zR,zT])
    refine⟨Or.inl rfl,?_⟩
    simp only [zf,push_cast,↓zK,↓zJ,↓reduceIte,zA,zB,zC,zD,zE,zF,zG,zH,zI,reduceCtorEq]
    symm
    exact kP (k:=k) (by omega) hall (by omega)
   ·
    refine zX ?_
    (try simp only [zR,zT,reduceIte,zF]);refine hK3 _ ?_
    refine zM zQ zN [] rfl ?_
    simp only [push_cast,↓zK,↓zJ,↓reduceIte,zA,zB,zC,zD,zE,zF,zG,zH,zI,reduceCtorEq]
    repeat' apply And.intro
    all_goals try exact gB
    refine hL0 _ ⟨k+1,⟨by omega,fun j hj=>(by
      by_cases hjk:j=k
      ·subst hjk;omega
      ·exact hall j (by omega))⟩,by omega,?_⟩
    refine zb rfl ?_ ?_ ?_<;>simp only [zi,zh,push_cast,↓zK,↓zJ,↓reduceIte,zA,zB,zC,zD,zE,zF,zG,zH,zI,reduceCtorEq]
  ·
   refine zn ?_
   (try simp only [zR,zT,reduceIte,zF]);refine hK1 _ ?_
   refine zL fun K hK=> ?_
   refine zM zQ zN [] rfl ?_
   simp only [push_cast,↓zK,↓zJ,↓reduceIte,zA,zB,zC,zD,zE,zF,zG,zH,zI,reduceCtorEq]
   repeat' apply And.intro
   all_goals try exact gB
   all_goals first|(refine hK _ ?_;clear hK K)|(simp only [push_cast];done)
   refine zZ ?_
   (try simp only [zR,zT])
   refine⟨Or.inl rfl,?_⟩
   simp only [zf,push_cast,↓zK,↓zJ,↓reduceIte,zA,zB,zC,zD,zE,zF,zG,zH,zI,reduceCtorEq]
   symm
   exact Ue fun j hj=>hall j (by omega)
set_option maxRecDepth 20000 in
set_option maxHeartbeats 4000000 in
theorem zC7 (a:Ar)(ha:a.Ln 1048576)(hok:zv a=true)(even odd:List Int)(h0:xi a 0 even=true)(h1:xi a 1 odd=true)(v0:Int)(hv0:0≤v0∧v0<a.owner.length):Fn Try.prog tyT 14 [.agg (dAr a), .c (DI even), .c (DI odd), .c (.int .i64 v0)] [.agg (dLs (Qo a even odd v0)), .c (.bool true)]:=by
 have hal:=yS hok
 have hno:=ha.owner
 unfold LnI at hno
 obtain⟨f0,q0⟩:=ZW h0
 obtain⟨f1,q1⟩:=ZW h1
 have l0:=(Ye f0).1
 have l1:=(Ye f1).1
 have hF0:=jp a ha hok 0 (by omega) even (by omega)
 have hF1:=jp a ha hok 1 (by omega) odd (by omega)
 rw [h0]at hF0
 rw [h1]at hF1
 have hT:=KY a v0 (by omega)
 rw [decide_eq_true hv0]at hT
 have hR0:=(kb (ka hok h0 h1 hv0)).symm
 generalize hR:Qo a even odd v0=R at hR0
 unfold dAr at hF0 hF1 hT
 unfold dAr dLs
 refine Xe (fn:=Try.f14) (rs:= [.cell 8 43, .tmp 9]) zQ zN Try.func14 (by kernel_rfl) rfl rfl (by rw [Try.ntmps14];exact Nat.le_of_ble_eq_true rfl) rfl (by simp only [szA,List.mem_cons,List.not_mem_nil,or_false,forall_eq_or_imp,forall_eq,VT.cells,szL];try decide) ?_
 rw [Try.ntmps14]
 simp only [push_cast,↓zK,↓zJ,↓reduceIte,zA,zB,zC,zD,zE,zF,zG,zH,zI,reduceCtorEq]
 refine zL fun K hK=> ?_
 refine zM zQ zN [] rfl ?_
 simp only [push_cast,↓zK,↓zJ,↓reduceIte,zA,zB,zC,zD,zE,zF,zG,zH,zI,reduceCtorEq]
 repeat' apply And.intro
 all_goals try exact gB
 all_goals first|(refine hK _ ?_;clear hK K)|(simp only [push_cast];done)
 refine zL fun K1 hK1=> ?_
 refine zL fun K hK=> ?_
 refine ze false zQ zN ?_ rfl ?_
 ·kernel_rfl
 all_goals refine zj 3 fun K9 hK9=> ?_
 all_goals simp only [push_cast,↓zK,↓zJ,↓reduceIte,zA,zB,zC,zD,zE,zF,zG,zH,zI,reduceCtorEq]
 all_goals repeat'(first|(apply zO<;>(intro hg;(try simp only [push_cast]at hg)))|(refine⟨_,hF0,?_⟩;simp only [push_cast,↓zK,↓zJ,↓reduceIte,zA,zB,zC,zD,zE,zF,zG,zH,zI,reduceCtorEq])|(refine⟨_,hF1,?_⟩;simp only [push_cast,↓zK,↓zJ,↓reduceIte,zA,zB,zC,zD,zE,zF,zG,zH,zI,reduceCtorEq])|(refine⟨_,hT,?_⟩;simp only [push_cast,↓zK,↓zJ,↓reduceIte,zA,zB,zC,zD,zE,zF,zG,zH,zI,reduceCtorEq])|apply And.intro|(intro hg;(try simp only [push_cast]at hg)))
 all_goals try exact gA
 all_goals first|(refine hK9 _ ?_;clear hK9 K9)|(simp only [push_cast];done)
 all_goals refine zj 5 fun K9 hK9=> ?_
 all_goals simp only [push_cast,↓zK,↓zJ,↓reduceIte,zA,zB,zC,zD,zE,zF,zG,zH,zI,reduceCtorEq]
 all_goals repeat'(first|(apply zO<;>(intro hg;(try simp only [push_cast]at hg)))|(refine⟨_,hF0,?_⟩;simp only [push_cast,↓zK,↓zJ,↓reduceIte,zA,zB,zC,zD,zE,zF,zG,zH,zI,reduceCtorEq])|(refine⟨_,hF1,?_⟩;simp only [push_cast,↓zK,↓zJ,↓reduceIte,zA,zB,zC,zD,zE,zF,zG,zH,zI,reduceCtorEq])|(refine⟨_,hT,?_⟩;simp only [push_cast,↓zK,↓zJ,↓reduceIte,zA,zB,zC,zD,zE,zF,zG,zH,zI,reduceCtorEq])|apply And.intro|(intro hg;(try simp only [push_cast]at hg)))
 all_goals try exact gA
 all_goals first|(refine hK9 _ ?_;clear hK9 K9)|(simp only [push_cast];done)
 all_goals refine zj 6 fun K9 hK9=> ?_
 all_goals simp only [push_cast,↓zK,↓zJ,↓reduceIte,zA,zB,zC,zD,zE,zF,zG,zH,zI,reduceCtorEq]
 all_goals repeat'(first|(apply zO<;>(intro hg;(try simp only [push_cast]at hg)))|(refine⟨_,hF0,?_⟩;simp only [push_cast,↓zK,↓zJ,↓reduceIte,zA,zB,zC,zD,zE,zF,zG,zH,zI,reduceCtorEq])|(refine⟨_,hF1,?_⟩;simp only [push_cast,↓zK,↓zJ,↓reduceIte,zA,zB,zC,zD,zE,zF,zG,zH,zI,reduceCtorEq])|(refine⟨_,hT,?_⟩;simp only [push_cast,↓zK,↓zJ,↓reduceIte,zA,zB,zC,zD,zE,zF,zG,zH,zI,reduceCtorEq])|apply And.intro|(intro hg;(try simp only [push_cast]at hg)))
 all_goals try exact gA
 all_goals first|(refine hK9 _ ?_;clear hK9 K9)|(simp only [push_cast];done)
 all_goals simp only [push_cast,↓zK,↓zJ,↓reduceIte,zA,zB,zC,zD,zE,zF,zG,zH,zI,reduceCtorEq]
 all_goals repeat'(first|(apply zO<;>(intro hg;(try simp only [push_cast]at hg)))|(refine⟨_,hF0,?_⟩;simp only [push_cast,↓zK,↓zJ,↓reduceIte,zA,zB,zC,zD,zE,zF,zG,zH,zI,reduceCtorEq])|(refine⟨_,hF1,?_⟩;simp only [push_cast,↓zK,↓zJ,↓reduceIte,zA,zB,zC,zD,zE,zF,zG,zH,zI,reduceCtorEq])|(refine⟨_,hT,?_⟩;simp only [push_cast,↓zK,↓zJ,↓reduceIte,zA,zB,zC,zD,zE,zF,zG,zH,zI,reduceCtorEq])|apply And.intro|(intro hg;(try simp only [push_cast]at hg)))
 all_goals try exact gA
 all_goals first|(refine hK _ ?_;clear hK K)|(simp only [push_cast];done)
 refine zV rfl (fun hc=> ?_) (fun hc=> ?_)
 skip
 ·exfalso;first|(cases hc;done)|(simp only [push_cast]at hc;done)|(simp only [push_cast]at hc;omega)|omega
 refine zX ?_
 (try simp only [zR,zT,reduceIte,zF]);refine hK1 _ ?_
 refine zL fun K hK=> ?_
 refine zM zQ zN [] rfl ?_
 simp only [push_cast,↓zK,↓zJ,↓reduceIte,zA,zB,zC,zD,zE,zF,zG,zH,zI,reduceCtorEq]
 repeat' apply And.intro
 all_goals try exact gB
 all_goals first|(refine hK _ ?_;clear hK K)|(simp only [push_cast];done)
 refine zL fun K2 hK2=> ?_
 refine zW ?_
 refine zk [3,10,16,22,30,31,32,33,34,35,36,37,38,39,40,41,42,43,44,45,46,47,48,49,50,51] [160] (fun(p:List Int×Int×Nat)=> [(3, .int .i64 p.2.1),(10, .sl 160 [] 0 p.1.length 2)]) (fun p=> []) (fun p=> [(160,⟨.ex,2,dI p.1,none⟩)]) (fun p=>Zq a even odd v0 p.1 p.2.1∧Vy a even odd p.2.2 p.1 p.2.1=R∧p.2.2+p.1.length=257) (fun p=>p.2.2) ([],v0,257) ?_ ⟨Zq.start hv0,hR0,rfl⟩ ?_
 ·
  rw [show dI ([]:List Int)= []from rfl]
  refine zb rfl ?_ ?_ ?_<;>simp only [zi,zh,push_cast,↓zK,↓zJ,↓reduceIte,zA,zB,zC,zD,zE,zF,zG,zH,zI,reduceCtorEq]
 ·rintro⟨met,v,F⟩ ⟨hM,hrun,hF⟩ KL0 hL0
  dsimp only at hM hrun hF
  have hle:=hM.le
  obtain⟨F,rfl⟩: ∃F9,F=F9+1:=⟨F - 1,by omega⟩
  have hvv:=hM.hv
  have hgo:=UZ hok h0 h1 hM.hv
  simp only [push_cast,↓zK,↓zJ,↓reduceIte,zA,zB,zC,zD,zE,zF,zG,zH,zI,reduceCtorEq]
  refine zL fun K3 hK3=> ?_
  refine zL fun K hK=> ?_
  refine zM zQ zN [] rfl ?_
  all_goals refine yC 3 fun K9 hK9=> ?_
  all_goals simp only [push_cast,↓zK,↓zJ,↓reduceIte,zA,zB,zC,zD,zE,zF,zG,zH,zI,reduceCtorEq]
  all_goals repeat'(first|(apply zO<;>(intro hg;(try simp only [push_cast]at hg)))|(refine⟨_,yP met v (by omega),?_⟩;simp only [push_cast,↓zK,↓zJ,↓reduceIte,zA,zB,zC,zD,zE,zF,zG,zH,zI,reduceCtorEq])|apply And.intro|(intro hg;(try simp only [push_cast]at hg)))
  all_goals try exact gA
  all_goals first|(refine hK9 _ ?_;clear hK9 K9)|(simp only [push_cast];done)
  all_goals simp only [push_cast,↓zK,↓zJ,↓reduceIte,zA,zB,zC,zD,zE,zF,zG,zH,zI,reduceCtorEq]
  all_goals repeat'(first|(apply zO<;>(intro hg;(try simp only [push_cast]at hg)))|(refine⟨_,yP met v (by omega),?_⟩;simp only [push_cast,↓zK,↓zJ,↓reduceIte,zA,zB,zC,zD,zE,zF,zG,zH,zI,reduceCtorEq])|apply And.intro|(intro hg;(try simp only [push_cast]at hg)))
  all_goals try exact gA
  all_goals first|(refine hK _ ?_;clear hK K)|(simp only [push_cast];done)
  refine zV rfl (fun hc=> ?_) (fun hc=> ?_)<;>(try simp only [push_cast]at hc)
  ·
   refine zX ?_
   (try simp only [zR,zT,reduceIte,zF]);refine hK3 _ ?_
   refine zW ?_
   have hbf:zt met v=false:=by cases hb9:zt met v<;>simp_all
   refine zL fun K hK=> ?_
   refine zM zQ zN [] rfl ?_
   simp only [push_cast,↓zK,↓zJ,↓reduceIte,zA,zB,zC,zD,zE,zF,zG,zH,zI,reduceCtorEq]
   repeat' apply And.intro
   all_goals try exact gB
   all_goals first|(refine hK _ ?_;clear hK K)|(simp only [push_cast];done)
   refine zL fun K hK=> ?_
   refine zM zQ zN [] rfl ?_
   simp only [push_cast,↓zK,↓zJ,↓reduceIte,zA,zB,zC,zD,zE,zF,zG,zH,zI,reduceCtorEq]
   repeat' apply And.intro
   all_goals try exact gB
   all_goals first|(refine hK _ ?_;clear hK K)|(simp only [push_cast];done)
   refine zV rfl (fun hc=> ?_) (fun hc=> ?_)<;>(try simp only [push_cast]at hc)
   ·
    refine zM zQ zN [] rfl ?_
    simp only [push_cast,↓zK,↓zJ,↓reduceIte,zA,zB,zC,zD,zE,zF,zG,zH,zI,reduceCtorEq]
    repeat' apply And.intro
    all_goals try exact gB
    refine hL0 _ ⟨(met++ [v],goP a even odd v,F),⟨hM.next hbf hgo.2,(jf hbf).symm.trans hrun,by simp only [List.length_append,List.length_cons,List.length_nil];omega⟩,by dsimp only;omega,?_⟩
    rw [show goP a even odd v=gi even v.toNat from if_pos (by omega)]
    (try rw [List.take_of_length_le (l:=met) (by omega)])
    simp only [List.length_append,List.length_cons,List.length_nil,Nat.zero_add]
    refine zb rfl ?_ ?_ ?_<;>simp only [zi,zh,push_cast,↓zK,↓zJ,↓reduceIte,zA,zB,zC,zD,zE,zF,zG,zH,zI,reduceCtorEq]
   ·
    refine zM zQ zN [] rfl ?_
    simp only [push_cast,↓zK,↓zJ,↓reduceIte,zA,zB,zC,zD,zE,zF,zG,zH,zI,reduceCtorEq]
    repeat' apply And.intro
    all_goals try exact gB
    refine hL0 _ ⟨(met++ [v],goP a even odd v,F),⟨hM.next hbf hgo.2,(jf hbf).symm.trans hrun,by simp only [List.length_append,List.length_cons,List.length_nil];omega⟩,by dsimp only;omega,?_⟩
    rw [show goP a even odd v=gi odd v.toNat from if_neg (by omega)]
    (try rw [List.take_of_length_le (l:=met) (by omega)])
    simp only [List.length_append,List.length_cons,List.length_nil,Nat.zero_add]
    refine zb rfl ?_ ?_ ?_<;>simp only [zi,zh,push_cast,↓zK,↓zJ,↓reduceIte,zA,zB,zC,zD,zE,zF,zG,zH,zI,reduceCtorEq]
  ·
   refine zn ?_
   (try simp only [zR,zT,reduceIte,zF]);refine hK2 _ ?_
   have hbt:zt met v=true:=by cases hb9:zt met v<;>simp_all
   have hfx:=of_decide_eq_true hbt
   have hix:ixB met v=(yd met v:Int):=by unfold ixB;rw [if_pos hfx]
   have hPl:=zCb met v (by omega)
   rw [hix]at hPl
   have hdt:List.take (met.length - yd met v) (List.drop (yd met v) met)=met.drop (yd met v):=List.take_of_length_le (by rw [List.length_drop];omega)
   have hcd:Fn Try.prog tyT 46 [.c (DI (List.take (met.length - yd met v) (List.drop (yd met v) met)))] [.c (DI (met.drop (yd met v)))]:=by rw [hdt];exact Zh (met.drop (yd met v)) (by rw [List.length_drop];omega)
   refine zL fun K hK=> ?_
   refine zM zQ zN [] rfl ?_
   all_goals refine yC 3 fun K9 hK9=> ?_
   all_goals simp only [push_cast,↓zK,↓zJ,↓reduceIte,zA,zB,zC,zD,zE,zF,zG,zH,zI,reduceCtorEq]
   all_goals repeat'(first|(apply zO<;>(intro hg;(try simp only [push_cast]at hg)))|(refine⟨_,hPl,?_⟩;simp only [push_cast,↓zK,↓zJ,↓reduceIte,zA,zB,zC,zD,zE,zF,zG,zH,zI,reduceCtorEq])|apply And.intro|(intro hg;(try simp only [push_cast]at hg)))
   all_goals try exact gA
   all_goals first|(refine hK9 _ ?_;clear hK9 K9)|(simp only [push_cast];done)
   all_goals simp only [push_cast,↓zK,↓zJ,↓reduceIte,zA,zB,zC,zD,zE,zF,zG,zH,zI,reduceCtorEq]
   all_goals repeat'(first|(apply zO<;>(intro hg;(try simp only [push_cast]at hg)))|(refine⟨_,hPl,?_⟩;simp only [push_cast,↓zK,↓zJ,↓reduceIte,zA,zB,zC,zD,zE,zF,zG,zH,zI,reduceCtorEq])|apply And.intro|(intro hg;(try simp only [push_cast]at hg)))
   all_goals try exact gA
   all_goals first|(refine hK _ ?_;clear hK K)|(simp only [push_cast];done)
   refine zL fun K hK=> ?_
   refine yJ false zQ zN xC ?_ rfl ?_
   ·kernel_rfl
   intro E hE
   all_goals refine yw 4 (by decide) fun K9 hK9=> ?_
   all_goals simp only [push_cast,↓zK,↓zJ,↓reduceIte,zA,zB,zC,zD,zE,zF,zG,zH,zI,reduceCtorEq]
   all_goals repeat'(first|(apply zO<;>(intro hg;(try simp only [push_cast]at hg)))|(refine⟨_,Zh (met.take (yd met v)) (by rw [List.length_take];omega),?_⟩;simp only [push_cast,↓zK,↓zJ,↓reduceIte,zA,zB,zC,zD,zE,zF,zG,zH,zI,reduceCtorEq])|(refine⟨_,hcd,?_⟩;simp only [push_cast,↓zK,↓zJ,↓reduceIte,zA,zB,zC,zD,zE,zF,zG,zH,zI,reduceCtorEq])|apply And.intro|(intro hg;(try simp only [push_cast]at hg)))
   all_goals try exact gA
   all_goals first|(refine hK9 _ _ ?_;clear hK9 K9)|(simp only [push_cast];done)
   all_goals refine yw 4 (by decide) fun K9 hK9=> ?_
   all_goals simp only [push_cast,↓zK,↓zJ,↓reduceIte,zA,zB,zC,zD,zE,zF,zG,zH,zI,reduceCtorEq]
   all_goals repeat'(first|(apply zO<;>(intro hg;(try simp only [push_cast]at hg)))|(refine⟨_,Zh (met.take (yd met v)) (by rw [List.length_take];omega),?_⟩;simp only [push_cast,↓zK,↓zJ,↓reduceIte,zA,zB,zC,zD,zE,zF,zG,zH,zI,reduceCtorEq])|(refine⟨_,hcd,?_⟩;simp only [push_cast,↓zK,↓zJ,↓reduceIte,zA,zB,zC,zD,zE,zF,zG,zH,zI,reduceCtorEq])|apply And.intro|(intro hg;(try simp only [push_cast]at hg)))
   all_goals try exact gA
   all_goals first|(refine hK9 _ _ ?_;clear hK9 K9)|(simp only [push_cast];done)
   all_goals simp only [push_cast,↓zK,↓zJ,↓reduceIte,zA,zB,zC,zD,zE,zF,zG,zH,zI,reduceCtorEq]
   all_goals repeat'(first|(apply zO<;>(intro hg;(try simp only [push_cast]at hg)))|(refine⟨_,Zh (met.take (yd met v)) (by rw [List.length_take];omega),?_⟩;simp only [push_cast,↓zK,↓zJ,↓reduceIte,zA,zB,zC,zD,zE,zF,zG,zH,zI,reduceCtorEq])|(refine⟨_,hcd,?_⟩;simp only [push_cast,↓zK,↓zJ,↓reduceIte,zA,zB,zC,zD,zE,zF,zG,zH,zI,reduceCtorEq])|apply And.intro|(intro hg;(try simp only [push_cast]at hg)))
   all_goals first|exact gA|(refine hE _ _ ?_ ?_;kernel_rfl)|skip
   all_goals clear hE E
   all_goals first|(refine hK _ ?_;clear hK K)|(simp only [push_cast];done)
   refine zZ ?_
   (try simp only [zR,zT])
   refine⟨Or.inl rfl,?_⟩
   simp only [zf,yF,ye,push_cast,↓zK,↓zJ,↓reduceIte,zA,zB,zC,zD,zE,zF,zG,zH,zI,reduceCtorEq]
   have h9:R=⟨met.take (yd met v),met.drop (yd met v)⟩:=hrun.symm.trans (zAD hbt)
   rw [h9]
   all_goals first|rfl|(simp [dI];done)|(simp [dI];omega)
attribute [-push_cast] rm
def pJ (a:Ar)(who:Int)(j:Nat):Nat→Nat
 |0=>j
 |v+1=>if gi a.owner v=who then pJ a who j v+1 else pJ a who j v
def pL (code:List Int)(seed:Int)(a:Ar)(who:Int)(j:Nat):Nat→List Int
 |0=> []
 |v+1=>pL code seed a who j v++ [if gi a.owner v=who then gi (gl a.next v) (dv code seed (pJ a who j v) (gl a.next v).length).toNat else -1]
theorem Xw (code:List Int)(seed:Int)(a:Ar)(who:Int)(j:Nat): ∀v,(pL code seed a who j v).length=v
 |0=>rfl
 |v+1=>by simp [pL,Xw code seed a who j v]
theorem zIM {a:Ar}{who:Int}{j v:Nat}(h:gi a.owner v=who):pJ a who j (v+1)=pJ a who j v+1:=if_pos h
theorem pJ_no {a:Ar}{who:Int}{j v:Nat}(h: ¬gi a.owner v=who):pJ a who j (v+1)=pJ a who j v:=if_neg h
theorem zIN {code:List Int}{seed:Int}{a:Ar}{who:Int}{j v:Nat}(h:gi a.owner v=who):pL code seed a who j (v+1)=pL code seed a who j v++ [gi (gl a.next v) (dv code seed (pJ a who j v) (gl a.next v).length).toNat]:=by show _++ [if _ then _ else _]=_;rw [if_pos h]
theorem pL_no {code:List Int}{seed:Int}{a:Ar}{who:Int}{j v:Nat}(h: ¬gi a.owner v=who):pL code seed a who j (v+1)=pL code seed a who j v++ [-1]:=by show _++ [if _ then _ else _]=_;rw [if_neg h]
set_option maxRecDepth 20000 in
set_option maxHeartbeats 4000000 in
theorem km (code:List Int)(hby:xJ code)(seed:Int)(j:Nat)(a:Ar)(ha:zv a=true)(who:Int):FnB Try.prog tyT 15 (dSt code seed j) [.agg (dAr a), .c (.int .i64 who)] (dSt code seed (pJ a who j a.owner.length)) [.c (DI (pL code seed a who j a.owner.length))]:=by
 have hcl:=hby.1
 have hln:=yS ha
 have hrv:=fun v hv=>(vf ha (v:=v) hv).2.2
 unfold dAr
 refine VH (fn:=Try.f15) (rs:= [.tmp 6]) zQ zN Try.func15 (by kernel_rfl) rfl rfl (by rw [Try.ntmps15];exact Nat.le_of_ble_eq_true rfl) rfl (by simp only [szA,List.mem_cons,List.not_mem_nil,or_false,forall_eq_or_imp,forall_eq,false_implies,implies_true,VT.cells,szL];try decide) (Nat.le_of_ble_eq_true rfl) (by simp only [szL];decide) (Nat.le_of_ble_eq_true rfl) rfl ?_
 rw [Try.ntmps15]
 simp only [push_cast,↓zK,↓zJ,↓reduceIte,zA,zB,zC,zD,zE,zF,zG,zH,zI,reduceCtorEq]
 refine zL fun K hK=> ?_
 refine zM zQ zN [] rfl ?_
 all_goals simp only [push_cast,↓zK,↓zJ,↓reduceIte,zA,zB,zC,zD,zE,zF,zG,zH,zI,reduceCtorEq]
 all_goals repeat'(first|(apply zO<;>(intro hg;(try simp only [push_cast]at hg)))|apply And.intro|(intro hg;(try simp only [push_cast]at hg)))
 all_goals first|exact gA|(exact zP (by omega))|skip
 all_goals first|(refine hK _ ?_;clear hK K)|(simp only [push_cast];done)
 refine zL fun K hK=> ?_
 refine zM zQ zN [] rfl ?_
 all_goals simp only [push_cast,↓zK,↓zJ,↓reduceIte,zA,zB,zC,zD,zE,zF,zG,zH,zI,reduceCtorEq]
 all_goals repeat'(first|(apply zO<;>(intro hg;(try simp only [push_cast]at hg)))|apply And.intro|(intro hg;(try simp only [push_cast]at hg)))
 all_goals first|exact gA|(exact zP (by omega))|skip
 all_goals first|(refine hK _ ?_;clear hK K)|(simp only [push_cast];done)
 refine zL fun K1 hK1=> ?_
 refine zL fun K hK=> ?_
 refine zM zQ zN [] rfl ?_
 all_goals simp only [push_cast,↓zK,↓zJ,↓reduceIte,zA,zB,zC,zD,zE,zF,zG,zH,zI,reduceCtorEq]
 all_goals repeat'(first|(apply zO<;>(intro hg;(try simp only [push_cast]at hg)))|apply And.intro|(intro hg;(try simp only [push_cast]at hg)))
 all_goals first|exact gA|(exact zP (by omega))|skip
 all_goals first|(refine hK _ ?_;clear hK K)|(simp only [push_cast];done)
 refine zW ?_
 refine zk [7,8,9,11,12,13,14,15,16,17,18,19,20,21,22,23,24,25,26,27,28,29,30,31,32,33,34,35,36,37,38,39,40,41,42,43,1000000] [112] (fun(v:Nat)=> [(8, .int .i64 v),(7, .sl 112 [] 0 v 2)]) (fun v=> [(1000000,[.sl 16000000 [] 0 code.length 5, .int .i64 (nI code (pJ a who j v)), .int .u64 (nH code seed (pJ a who j v))])]) (fun v=> [(112,⟨.ex,2,dI (pL code seed a who j v),none⟩),(16000000,⟨.sh,5,dU code,some 16000000⟩)]) (fun v=>v≤a.owner.length) (fun v=>a.owner.length - v) 0 ?_ (by omega) ?_
 ·
  rw [show pL code seed a who j 0= []from rfl,show dI []= []from rfl,show pJ a who j 0=j from rfl]
  refine zb rfl ?_ ?_ ?_<;>simp only [zi,zh,push_cast,↓zK,↓zJ,↓reduceIte,zA,zB,zC,zD,zE,zF,zG,zH,zI,reduceCtorEq]
 ·rintro v hv KL0 hL0
  have hpl:=Xw code seed a who j v
  simp only [push_cast,↓zK,↓zJ,↓reduceIte,zA,zB,zC,zD,zE,zF,zG,zH,zI,reduceCtorEq]
  refine zL fun K2 hK2=> ?_
  refine zL fun K hK=> ?_
  refine zM zQ zN [] rfl ?_
  all_goals simp only [push_cast,↓zK,↓zJ,↓reduceIte,zA,zB,zC,zD,zE,zF,zG,zH,zI,reduceCtorEq]
  all_goals repeat'(first|(apply zO<;>(intro hg;(try simp only [push_cast]at hg)))|apply And.intro|(intro hg;(try simp only [push_cast]at hg)))
  all_goals first|exact gA|(exact zP (by omega))|skip
  all_goals first|(refine hK _ ?_;clear hK K)|(simp only [push_cast];done)
  refine zV rfl (fun hc=> ?_) (fun hc=> ?_)<;>(try simp only [push_cast]at hc)
  ·
   refine zX ?_
   (try simp only [zR,zT,reduceIte,zF]);refine hK2 _ ?_
   refine zL fun K3 hK3=> ?_
   refine zW ?_
   have hr1:=hrv v (by omega)
   have hD:=wZ hby seed (pJ a who j v) ((gl a.next v).length:Nat) (by omega)
   have hr2:=wQ hby seed (pJ a who j v) (n:=((gl a.next v).length:Nat)) (by omega)
   refine zL fun K hK=> ?_
   refine zM zQ zN [] rfl ?_
   all_goals simp only [push_cast,↓zK,↓zJ,↓reduceIte,zA,zB,zC,zD,zE,zF,zG,zH,zI,reduceCtorEq]
   all_goals repeat'(first|(apply zO<;>(intro hg;(try simp only [push_cast]at hg)))|apply And.intro|(intro hg;(try simp only [push_cast]at hg)))
   all_goals first|exact gA|(exact zP (by omega))|skip
   all_goals first|(refine hK _ ?_;clear hK K)|(simp only [push_cast];done)
   refine zL fun K4 hK4=> ?_
   refine zL fun K hK=> ?_
   refine zM zQ zN [] rfl ?_
   all_goals simp only [push_cast,↓zK,↓zJ,↓reduceIte,zA,zB,zC,zD,zE,zF,zG,zH,zI,reduceCtorEq]
   all_goals repeat'(first|(apply zO<;>(intro hg;(try simp only [push_cast]at hg)))|apply And.intro|(intro hg;(try simp only [push_cast]at hg)))
   all_goals first|exact gA|(exact zP (by omega))|skip
   all_goals first|(refine hK _ ?_;clear hK K)|(simp only [push_cast];done)
   refine zV rfl (fun hc=> ?_) (fun hc=> ?_)<;>(try simp only [push_cast]at hc)
   ·
    refine yJ false zQ zN xC ?_ rfl ?_
    ·kernel_rfl
    intro E hE
    all_goals refine yw 13 (by decide) fun K9 hK9=> ?_
    all_goals simp only [push_cast,↓zK,↓zJ,↓reduceIte,zA,zB,zC,zD,zE,zF,zG,zH,zI,reduceCtorEq]
    all_goals repeat'(first|(apply zO<;>(intro hg;(try simp only [push_cast]at hg)))|(refine⟨_,_,hD,?_⟩;simp only [push_cast,↓zK,↓zJ,↓reduceIte,zA,zB,zC,zD,zE,zF,zG,zH,zI,reduceCtorEq])|apply And.intro|(intro hg;(try simp only [push_cast]at hg)))
    all_goals first|exact gA|(exact zP (by omega))|skip
    all_goals first|(refine hK9 _ _ ?_;clear hK9 K9)|(simp only [push_cast];done)
    all_goals simp only [push_cast,↓zK,↓zJ,↓reduceIte,zA,zB,zC,zD,zE,zF,zG,zH,zI,reduceCtorEq]
    all_goals repeat'(first|(apply zO<;>(intro hg;(try simp only [push_cast]at hg)))|(refine⟨_,_,hD,?_⟩;simp only [push_cast,↓zK,↓zJ,↓reduceIte,zA,zB,zC,zD,zE,zF,zG,zH,zI,reduceCtorEq])|apply And.intro|(intro hg;(try simp only [push_cast]at hg)))
    all_goals first|exact gA|(refine hE _ _ ?_ ?_;kernel_rfl)|(exact zP (by omega))|skip
    all_goals clear hE E
    (try simp only [zR,zT,reduceIte,zF]);refine hK4 _ ?_
    refine zM zQ zN [] rfl ?_
    all_goals simp only [push_cast,↓zK,↓zJ,↓reduceIte,zA,zB,zC,zD,zE,zF,zG,zH,zI,reduceCtorEq]
    all_goals repeat'(first|(apply zO<;>(intro hg;(try simp only [push_cast]at hg)))|apply And.intro|(intro hg;(try simp only [push_cast]at hg)))
    all_goals first|exact gA|(exact zP (by omega))|skip
    (try simp only [zR,zT,reduceIte,zF]);refine hK3 _ ?_
    refine zM zQ zN [] rfl ?_
    all_goals simp only [push_cast,↓zK,↓zJ,↓reduceIte,zA,zB,zC,zD,zE,zF,zG,zH,zI,reduceCtorEq]
    all_goals repeat'(first|(apply zO<;>(intro hg;(try simp only [push_cast]at hg)))|apply And.intro|(intro hg;(try simp only [push_cast]at hg)))
    all_goals first|exact gA|(exact zP (by omega))|skip
    refine hL0 _ ⟨v+1,by omega,by omega,?_⟩
    (try rw [List.take_of_length_le (l:=pL code seed a who j v) (by omega)])
    rw [zIN hc,zIM hc]
    refine zb rfl ?_ ?_ ?_<;>simp only [zi,zh,push_cast,↓zK,↓zJ,↓reduceIte,zA,zB,zC,zD,zE,zF,zG,zH,zI,reduceCtorEq]
    all_goals first|exact rfl|exact⟨rfl,rfl⟩|skip
   ·
    refine zX ?_
    (try simp only [zR,zT,reduceIte,zF]);refine hK4 _ ?_
    refine zM zQ zN [] rfl ?_
    all_goals simp only [push_cast,↓zK,↓zJ,↓reduceIte,zA,zB,zC,zD,zE,zF,zG,zH,zI,reduceCtorEq]
    all_goals repeat'(first|(apply zO<;>(intro hg;(try simp only [push_cast]at hg)))|apply And.intro|(intro hg;(try simp only [push_cast]at hg)))
    all_goals first|exact gA|(exact zP (by omega))|skip
    (try simp only [zR,zT,reduceIte,zF]);refine hK3 _ ?_
    refine zM zQ zN [] rfl ?_
    all_goals simp only [push_cast,↓zK,↓zJ,↓reduceIte,zA,zB,zC,zD,zE,zF,zG,zH,zI,reduceCtorEq]
    all_goals repeat'(first|(apply zO<;>(intro hg;(try simp only [push_cast]at hg)))|apply And.intro|(intro hg;(try simp only [push_cast]at hg)))
    all_goals first|exact gA|(exact zP (by omega))|skip
    refine hL0 _ ⟨v+1,by omega,by omega,?_⟩
    (try rw [List.take_of_length_le (l:=pL code seed a who j v) (by omega)])
    rw [pL_no hc,pJ_no hc]
    refine zb rfl ?_ ?_ ?_<;>simp only [zi,zh,push_cast,↓zK,↓zJ,↓reduceIte,zA,zB,zC,zD,zE,zF,zG,zH,zI,reduceCtorEq]
    all_goals first|exact rfl|exact⟨rfl,rfl⟩|skip
  ·
   refine zn ?_
   have hvv:v=a.owner.length:=by omega
   subst hvv
   (try simp only [zR,zT,reduceIte,zF]);refine hK1 _ ?_
   refine zL fun K hK=> ?_
   refine zM zQ zN [] rfl ?_
   all_goals simp only [push_cast,↓zK,↓zJ,↓reduceIte,zA,zB,zC,zD,zE,zF,zG,zH,zI,reduceCtorEq]
   all_goals repeat'(first|(apply zO<;>(intro hg;(try simp only [push_cast]at hg)))|apply And.intro|(intro hg;(try simp only [push_cast]at hg)))
   all_goals first|exact gA|(exact zP (by omega))|skip
   all_goals first|(refine hK _ ?_;clear hK K)|(simp only [push_cast];done)
   refine zZ ?_
   (try simp only [zR,zT])
   refine⟨Or.inl rfl,?_⟩
   simp only [VO,zf,vP,yF,ye,push_cast,↓zK,↓zJ,↓reduceIte,zA,zB,zC,zD,zE,zF,zG,zH,zI,reduceCtorEq]
   all_goals first|rfl|exact hpl.symm|skip
attribute [-push_cast] rm
theorem zF3 (code:List Int)(seed:Int)(a:Ar)(who:Int)(j:Nat): ∀v k,k<v→gi (pL code seed a who j v) k=if gi a.owner k=who then gi (gl a.next k) (dv code seed (pJ a who j k) (gl a.next k).length).toNat else -1
 |0,k,h=>absurd h (Nat.not_lt_zero k)
 |v+1,k,h=>by
  show gi (pL code seed a who j v++ [_]) k=_
  have hl:=Xw code seed a who j v
  rcases Nat.lt_or_ge k v with h1|h1
  ·rw [KQ (by omega)];exact zF3 code seed a who j v k h1
  ·have e:k=v:=by omega
   subst e
   have :=zCU (pL code seed a who j k) (if gi a.owner k=who then gi (gl a.next k) (dv code seed (pJ a who j k) (gl a.next k).length).toNat else -1)
   rw [hl]at this
   exact this
theorem zGi {xs:List Int}{k:Nat}(h:k<xs.length):zt xs (gi xs k)=true:=by
 rw [xQ]
 unfold gi
 rw [List.getD_eq_getElem?_getD,List.getElem?_eq_getElem h]
 exact List.getElem_mem _
attribute [-push_cast] rm
theorem zGa {a:Ar}(ha:zv a=true){who:Int}{plan:List Int}(hl:plan.length=a.owner.length)(h: ∀v,v<a.owner.length→(gi a.owner v=who→zt (gl a.next v) (gi plan v)=true)∧(¬gi a.owner v=who→gi plan v= -1)):xi a who plan=true:=by
 refine kL (kY hl fun v hv=>Kn ?_) fun v hv he=> ?_
 ·by_cases e:gi a.owner v=who
  ·exact .inr ⟨e,(h v (by omega)).1 e⟩
  ·exact .inl ((h v (by omega)).2 e)
 ·have h1:=zDp ha (v:=v) (by omega) ((h v (by omega)).1 he.1)
  omega
theorem zBk {code:List Int}(hby:xJ code)(seed:Int){a:Ar}(ha:zv a=true)(who:Int)(j:Nat):xi a who (pL code seed a who j a.owner.length)=true:=by
 refine zGa ha (Xw ..) fun v hv=> ?_
 rw [zF3 _ _ _ _ _ _ _ hv]
 refine⟨fun e=> ?_,fun e=>if_neg e⟩
 rw [if_pos e]
 have h1:=(vf ha hv).2.2.1
 have h2:=wQ hby seed (pJ a who j v) (n:=(gl a.next v).length) (by omega)
 exact zGi (by omega)
def ilv (ps:List Pr):List (List Int):=ps.flatMap fun p=> [p.ask,p.give]
def gp (ps:List Pr)(k:Nat):Pr:=ps.getD k ⟨[],[]⟩
theorem Ja (p:Pr)(ps:List Pr):ilv (p::ps)=p.ask::p.give::ilv ps:=rfl
theorem m2d (n:Nat):n*2 / 2=n:=by omega
theorem xY (ps:List Pr):(ilv ps).length=ps.length*2:=by
 induction ps with
 |nil=>rfl
 |cons p ps ih=>rw [Ja,List.length_cons,List.length_cons,ih,List.length_cons];omega
theorem zGg (ps:List Pr)(k:Nat):gl (ilv ps) (k*2)=(gp ps k).ask:=by
 induction ps generalizing k with
 |nil=>rfl
 |cons p ps ih=>
  cases k with
  |zero=>rfl
  |succ k=>rw [show(k+1)*2=k*2+1+1 from by omega,Ja];exact ih k
theorem zGh (ps:List Pr)(k:Nat):gl (ilv ps) (k*2+1)=(gp ps k).give:=by
 induction ps generalizing k with
 |nil=>rfl
 |cons p ps ih=>
  cases k with
  |zero=>rfl
  |succ k=>rw [show(k+1)*2+1=k*2+1+1+1 from by omega,Ja];exact ih k
theorem gp_lt {ps:List Pr}{k:Nat}(h:k<ps.length):ps[k]? =some (gp ps k):=by
 unfold gp
 rw [List.getD_eq_getElem?_getD,List.getElem?_eq_getElem h]
 rfl
theorem zDm {ps:List Pr}{k:Nat}(h:k<ps.length):gp ps k∈ps:=List.mem_of_getElem? (gp_lt h)
attribute [push_cast] m2d xY zGg zGh
theorem zGj (ps qs:List Pr):ilv (ps++qs)=ilv ps++ilv qs:=List.flatMap_append ..
theorem zEW (ps:List Pr):(ilv ps).take (ps.length*2)=ilv ps:=List.take_of_length_le (by rw [xY];exact Nat.le_refl _)
attribute [push_cast] zEW
def PLn (B:Nat)(ps:List Pr):Prop:=ps.length≤B∧∀p∈ps,p.Ln B
theorem QV {B:Nat}{ps:List Pr}(h:PLn B ps)(k:Nat):(gp ps k).Ln B:=by
 rcases Nat.lt_or_ge k ps.length with hk|hk
 ·exact h.2 _ (zDm hk)
 ·unfold gp
  rw [List.getD_eq_getElem?_getD,List.getElem?_eq_none hk]
  exact⟨Nat.zero_le _,Nat.zero_le _⟩
theorem PLn.mono {B C:Nat}(hB:B≤C){ps:List Pr}(h:PLn B ps):PLn C ps:=⟨Nat.le_trans h.1 hB,fun p hp=>Pr.ln_mono hB (h.2 p hp)⟩
end Go.Proofs.Ytipplkjdmdlhpaa
