/- The attractor, as the reference reckons it: the walk -/
import Derived.Test.YtcleaokoimhedaaGreatB15zmo
import Derived.Test.YtcleaokoimhedaaGreatB6zmo
namespace Go.Proofs.YtcleaokoimhedaaGreat
open Nat renaming reduceMod → zA, reduceMul → zB, reduceDiv → zC, reduceAdd → zD, reduceSub → zE, reduceEqDiff → zF, reduceBEq → zG, reduceLT → zH, reduceLeDiff → zI
open Go.RowKit
set_option linter.unusedVariables false
set_option linter.unusedSimpArgs false
theorem zE4 {b:Bool}{P:Prop}(h1:b=true)(h2:b=false):P:=by rw [h1]at h2;cases h2
theorem xt {xs:List Int}{u:Int}:yI xs u=true↔∃i,i<xs.length∧gi xs i=u:=by
 rw [xe]
 constructor
 ·intro h
  obtain⟨i,hi⟩:=List.getElem?_of_mem h
  have hl:i<xs.length:=(List.getElem?_eq_some_iff.1 hi).1
  refine⟨i,hl,?_⟩
  have :=qk hl
  rw [hi]at this
  exact(Option.some.inj this).symm
 ·rintro⟨i,hi,rfl⟩
  exact List.mem_of_getElem? (qk hi)
theorem ZT {xs:List Int}{k i:Nat}(h:i<k):gi (xs.take k) i=gi xs i:=by
 unfold gi
 rw [List.getD_eq_getElem?_getD,List.getD_eq_getElem?_getD,List.getElem?_take,if_pos h]
theorem YF {xs:List Int}{k:Nat}(h:k<xs.length)(u:Int):yI (xs.take (k+1)) u=(yI (xs.take k) u||decide (u=gi xs k)):=by
 rw [Bool.eq_iff_iff,Bool.or_eq_true,decide_eq_true_eq,xt,xt]
 constructor
 ·rintro⟨i,hi,e⟩
  rw [List.length_take]at hi
  rw [ZT (by omega)]at e
  by_cases hk:i=k
  ·subst hk;exact .inr e.symm
  ·exact .inl ⟨i,by rw [List.length_take];omega,by rw [ZT (by omega)];exact e⟩
 ·rintro(⟨i,hi,e⟩|e)
  ·rw [List.length_take]at hi
   rw [ZT (by omega)]at e
   exact⟨i,by rw [List.length_take];omega,by rw [ZT (by omega)];exact e⟩
  ·exact⟨k,by rw [List.length_take];omega,by rw [ZT (by omega)];exact e.symm⟩
def PK (x:L7)(qi:List Int)(u0:Int)(k:Nat)(v:Nat)(u:Int):Bool:=yI qi u||(decide (u=u0)&&yI ((gl x.prev u0.toNat).take k) (v:Int))
theorem PK_s {x:L7}{qi:List Int}{u0:Int}{k:Nat}(hk:k<(gl x.prev u0.toNat).length)(h0:0≤gi (gl x.prev u0.toNat) k)(v:Nat)(u:Int):PK x qi u0 (k+1) v u=(PK x qi u0 k v u||(decide (v=(gi (gl x.prev u0.toNat) k).toNat)&&decide (u=u0))):=by
 unfold PK
 rw [YF hk,Bool.eq_iff_iff]
 simp only [Bool.or_eq_true,Bool.and_eq_true,decide_eq_true_eq]
 have :((v:Int)=gi (gl x.prev u0.toNat) k)↔v=(gi (gl x.prev u0.toNat) k).toNat:=by omega
 rw [this]
 constructor
 ·rintro(h|⟨h1,h2|h2⟩)
  ·exact .inl (.inl h)
  ·exact .inl (.inr ⟨h1,h2⟩)
  ·exact .inr ⟨h2,h1⟩
 ·rintro((h|h)|h)
  ·exact .inl h
  ·exact .inr ⟨h.1, .inl h.2⟩
  ·exact .inr ⟨h.2, .inr h.1⟩
section
variable {x:L7} {n:Nat} {inn goal out:List Bool} {who:Int} {left queue:List Int}
theorem zGs {P:Nat→Int→Bool}(hx:x.Ok n)(h:AtI x n inn who goal out left queue P){i:Nat}(hi:i<queue.length){k:Nat}(hk:k<(gl x.prev (gi queue i).toNat).length):PK x (queue.take i) (gi queue i) k (gi (gl x.prev (gi queue i).toNat) k).toNat (gi queue i)=false:=by
 have hr:=h.qrg i hi
 have hp:=hx.pin (gi queue i).toNat (by omega) k hk
 unfold PK
 rw [Bool.or_eq_false_iff,Bool.and_eq_false_iff]
 refine⟨Bool.eq_false_iff.2 fun e=> ?_, .inr (Bool.eq_false_iff.2 fun e=> ?_)⟩
 ·obtain⟨j,hj,e2⟩:=xt.1 e
  rw [List.length_take]at hj
  rw [ZT (by omega)]at e2
  exact h.qnd j i (by omega) hi e2
 ·obtain⟨j,hj,e2⟩:=xt.1 e
  rw [List.length_take]at hj
  rw [ZT (by omega),Int.toNat_of_nonneg hp.1.1]at e2
  exact hx.pnd (gi queue i).toNat (by omega) j k (by omega) hk e2
theorem zCB {i:Nat}(h:AtI x n inn who goal out left queue (fun _ u=>yI (queue.take i) u)):AtI x n inn who goal out left queue (PK x (queue.take i) (gi queue i) 0):=
 h.cong fun v hv j hj=>by
  unfold PK
  have :yI ((gl x.prev (gi queue i).toNat).take 0) (v:Int)=false:=rfl
  rw [this,Bool.and_false,Bool.or_false]
theorem zGr (hx:x.Ok n){i:Nat}(hi:i<queue.length){qi:List Int}(hq:queue.take i=qi){u0:Int}(hu:gi queue i=u0){k:Nat}(hk:k=(gl x.prev u0.toNat).length)(h:AtI x n inn who goal out left queue (PK x qi u0 k)):AtI x n inn who goal out left queue (fun _ u=>yI (queue.take (i+1)) u):=
 h.cong fun v hv j hj=>by
  subst hu;subst hq;subst hk
  rw [YF hi]
  unfold PK
  rw [List.take_length]
  by_cases e:gi (gl x.next v) j=gi queue i
  ·obtain⟨m,hm,e2⟩:=hx.pal v hv j hj
   rw [e]at hm e2
   have :yI (gl x.prev (gi queue i).toNat) (v:Int)=true:=xt.2 ⟨m,hm,e2⟩
   rw [this,decide_eq_true e]
   rfl
  ·rw [decide_eq_false e];rfl
theorem AtI.qle {P:Nat→Int→Bool}(h:AtI x n inn who goal out left queue P):queue.length≤n:=by
 have hl:((List.range queue.length).map fun j=>(gi queue j).toNat).length=queue.length:=by simp
 rw [←hl]
 have hnd:((List.range queue.length).map fun j=>(gi queue j).toNat).Nodup:=by
  rw [List.nodup_iff_pairwise_ne,List.pairwise_map]
  refine List.Pairwise.imp_of_mem ?_ (List.pairwise_lt_range)
  intro a b ha hb hab e
  have h1:=h.qrg a (List.mem_range.1 ha)
  have h2:=h.qrg b (List.mem_range.1 hb)
  exact h.qnd a b hab (List.mem_range.1 hb) (by omega)
 have :=List.Nodup.length_le_of_subset (l₂:=List.range n) hnd (fun y hy=>by
  obtain⟨j,hj,rfl⟩:=List.mem_map.1 hy
  have :=h.qrg j (List.mem_range.1 hj)
  exact List.mem_range.2 (by omega))
 simpa using this
theorem AtI.qin {P:Nat→Int→Bool}(h:AtI x n inn who goal out left queue P){i:Nat}(hi:i<queue.length):(0≤gi queue i∧gi queue i<n)∧gb out (gi queue i).toNat=true∧gb inn (gi queue i).toNat=true:=by
 have hr:=h.qrg i hi
 have ho:=(h.qout (gi queue i).toNat (by omega)).2 ⟨i,hi,by omega⟩
 exact⟨hr,ho,(h.sound _ (by omega) ho).inD.2⟩
theorem AtI.end' (hx:x.Ok n)(h:AtI x n inn who goal out left queue (fun _ u=>yI (queue.take queue.length) u)):out=yn x n inn who goal:=
 h.result hx fun v hv j hj hb=>by
  have hto:=hx.to v hv j hj
  obtain⟨i,hi,e⟩:=(h.qout _ (by omega)).1 hb
  rw [List.take_length]
  exact xt.2 ⟨i,hi,by omega⟩
theorem At0.next {k:Nat}(h:At0 x n inn goal k out left queue)(hk:k<n):
  (gb inn k=false→At0 x n inn goal (k+1) out left queue)∧(gb inn k=true→gb goal k=false→At0 x n inn goal (k+1) out (left.set k (wK x inn k)) queue)∧
  (gb inn k=true→gb goal k=true→At0 x n inn goal (k+1) (out.set k true) (left.set k (wK x inn k)) (queue++ [(k:Int)])):=by
 have hll:k<left.length:=by rw [h.ll];exact hk
 have hlo:k<out.length:=by rw [h.lo];exact hk
 have hlef:gb inn k=true→∀v,v<k+1→gb inn v=true→gi (left.set k (wK x inn k)) v=wK x inn v:=fun _ v hv hb=>by
  rw [qb hll]
  split
  ·rename_i e;rw [e]
  ·exact h.lef v (by omega) hb
 have hq2: ∀i,i<queue.length→0≤gi queue i∧gi queue i<((k+1:Nat):Int):=fun i hi=>by have :=h.qrg i hi;omega
 have hstay:(gb inn k&&gb goal k)=false→∀v,v<n→gb out v=(decide (v<k+1)&&(gb inn v&&gb goal v)):=fun hb v hv=>by
  rw [h.outs v hv]
  by_cases e:v=k
  ·rw [e,hb,Bool.and_false,Bool.and_false]
  ·have :decide (v<k)=decide (v<k+1):=decide_eq_decide.2 (by omega)
   rw [this]
 refine⟨fun h1=>⟨h.lo,h.ll,by have :=h.lq;omega,hq2,h.qnd,h.qout,hstay (by rw [h1];rfl),fun v hv hb=> ?_⟩,fun h1 h2=>⟨h.lo,by rw [List.length_set];exact h.ll,by have :=h.lq;omega,hq2,h.qnd,h.qout,hstay (by rw [h2,Bool.and_false]),hlef h1⟩,fun h1 h2=> ?_⟩
 ·refine h.lef v ?_ hb
  rcases Nat.lt_or_ge v k with h5|h5
  ·exact h5
  ·rw [show v=k by omega,h1]at hb;cases hb
 ·have hql:(queue++ [(k:Int)]).length=queue.length+1:=by simp
  have hqs: ∀j,j<queue.length+1→gi (queue++ [(k:Int)]) j=if j=queue.length then(k:Int)else gi queue j:=fun j hj=>by
   split
   ·rename_i e;rw [e];unfold gi;rw [List.getD_eq_getElem?_getD,List.getElem?_append_right (Nat.le_refl _)];simp
   ·unfold gi;rw [List.getD_eq_getElem?_getD,List.getElem?_append_left (by omega),List.getD_eq_getElem?_getD]
  refine⟨by rw [List.length_set];exact h.lo,by rw [List.length_set];exact h.ll,by rw [hql];have :=h.lq;omega,fun i hi=> ?_,fun i j hij hj=> ?_,fun v hv=> ?_,fun v hv=> ?_,hlef h1⟩
  ·rw [hql]at hi
   rw [hqs i hi]
   split
   ·omega
   ·exact hq2 i (by omega)
  ·rw [hql]at hj
   rw [hqs i (by omega),hqs j hj,if_neg (by omega)]
   split
   ·have :=h.qrg i (by omega);omega
   ·exact h.qnd i j hij (by omega)
  ·rw [YE hlo,hql]
   constructor
   ·intro hb
    split at hb
    ·rename_i e;exact⟨queue.length,by omega,by rw [hqs _ (by omega),if_pos rfl,e]⟩
    ·obtain⟨i,hi,e⟩:=(h.qout v hv).1 hb
     exact⟨i,by omega,by rw [hqs i (by omega),if_neg (by omega)];exact e⟩
   ·rintro⟨i,hi,e⟩
    rw [hqs i hi]at e
    split at e
    ·rw [if_pos (by omega)]
    ·split
     ·rfl
     ·exact(h.qout v hv).2 ⟨i,by omega,e⟩
  ·rw [YE hlo]
   split
   ·rename_i e;rw [e,h1,h2,decide_eq_true (by omega)];rfl
   ·rename_i e
    rw [h.outs v hv]
    have :decide (v<k)=decide (v<k+1):=decide_eq_decide.2 (by omega)
    rw [this]
end
set_option maxRecDepth 20000 in
set_option maxHeartbeats 8000000 in
theorem KW (x:L7)(inn:List Bool)(hx:x.Ok inn.length)(who:Int)(goal:List Bool)(hg9:goal.length=inn.length):Fn Tryz.prog tyT 109 [.agg (dL7 x), .c (.lst 4 (dB inn)), .c (.int .i64 who), .c (.lst 4 (dB goal))] [.c (.lst 4 (dB (yn x inn.length inn who goal)))]:=by
 have hn1:=hx.hn
 have hn2:=hx.ho
 have hn3:=hx.hp
 have hn4:=hx.hx
 have hn5:=hx.hv
 have hn6:=hx.hk
 have hDg:=fun v hv=>zEU x inn.length hx inn rfl v hv
 have hEd:=fun v u hv=>zBJ x inn.length hx v u hv
 have hatl:=wu x inn.length inn who goal
 generalize hR:yn x inn.length inn who goal=R at hatl⊢
 unfold dL7 at hDg hEd⊢
 refine zv (fn:=Tryz.f109) (ts:= [8]) Tryz.func109 (by kernel_rfl) rfl rfl (by rw [Tryz.ntmps109];exact Nat.le_of_ble_eq_true rfl) rfl (by simp only [szA,List.mem_cons,List.not_mem_nil,or_false,forall_eq_or_imp,forall_eq,VT.cells,szL];try decide) ?_
 rw [Tryz.ntmps109]
 push_cast [↓zK,↓zJ]
 refine zL fun K hK=> ?_
 refine zM zO zN [] rfl ?_
 all_goals push_cast [↓zK,↓zJ]
 all_goals repeat'(first|(apply zP<;>(intro hg;(try simp only [push_cast]at hg)))|apply And.intro|(intro hg;(try simp only [push_cast]at hg)))
 all_goals first|exact gA|(exact zQ (by omega))|skip
 all_goals(refine hK _ ?_;clear hK K)
 refine zL fun K hK=> ?_
 refine zM zO zN [] rfl ?_
 all_goals push_cast [↓zK,↓zJ]
 all_goals repeat'(first|(apply zP<;>(intro hg;(try simp only [push_cast]at hg)))|apply And.intro|(intro hg;(try simp only [push_cast]at hg)))
 all_goals first|exact gA|(exact zQ (by omega))|skip
 all_goals(refine hK _ ?_;clear hK K)
 refine zL fun K hK=> ?_
 refine zM zO zN [] rfl ?_
 all_goals push_cast [↓zK,↓zJ]
 all_goals repeat'(first|(apply zP<;>(intro hg;(try simp only [push_cast]at hg)))|apply And.intro|(intro hg;(try simp only [push_cast]at hg)))
 all_goals first|exact gA|(exact zQ (by omega))|skip
 all_goals(refine hK _ ?_;clear hK K)
 refine zL fun K hK=> ?_
 refine zM zO zN [] rfl ?_
 all_goals push_cast [↓zK,↓zJ]
 all_goals repeat'(first|(apply zP<;>(intro hg;(try simp only [push_cast]at hg)))|apply And.intro|(intro hg;(try simp only [push_cast]at hg)))
 all_goals first|exact gA|(exact zQ (by omega))|skip
 all_goals(refine hK _ ?_;clear hK K)
 refine zL fun K1 hK1=> ?_
 refine zL fun K hK=> ?_
 refine zM zO zN [] rfl ?_
 all_goals push_cast [↓zK,↓zJ]
 all_goals repeat'(first|(apply zP<;>(intro hg;(try simp only [push_cast]at hg)))|apply And.intro|(intro hg;(try simp only [push_cast]at hg)))
 all_goals first|exact gA|(exact zQ (by omega))|skip
 all_goals(refine hK _ ?_;clear hK K)
 refine zV ?_
 refine zg [11,12,24,25,26,27,28,29,30,31,32,33,34,35,36,37,38,39,40,41,42,43,44,45,46,47,48,49,50,51,52,53,54,55,56,57] [144,160,176] (fun(p:Nat×List Bool×List Int×List Int)=> [(12, .int .i64 p.1),(9, .sl 144 [] 0 inn.length 4),(10, .sl 160 [] 0 inn.length 2),(11, .sl 176 [] 0 p.2.2.2.length 2)]) (fun p=> []) (fun p=> [(144,⟨.ex,4,dB p.2.1,none⟩),(160,⟨.ex,2,dI p.2.2.1,none⟩),(176,⟨.ex,2,dI p.2.2.2,none⟩)]) (fun p=>p.1≤inn.length∧At0 x inn.length inn goal p.1 p.2.1 p.2.2.1 p.2.2.2) (fun p=>inn.length - p.1) (0,List.replicate inn.length false,List.replicate inn.length 0,[]) ?_ ⟨by omega,At0.start inn.length inn goal⟩ ?_
 ·
  rw [show dI ([]:List Int)= []from rfl]
  skip
  refine zY rfl ?_ ?_ ?_<;>push_cast [zb,za,↓zK,↓zJ]
 ·rintro⟨v,out,left,queue⟩ ⟨hv,h0⟩ KL0 hL0
  dsimp only at hv h0
  push_cast [↓zK,↓zJ]
  refine zL fun K2 hK2=> ?_
  refine zL fun K hK=> ?_
  refine zM zO zN [] rfl ?_
  all_goals push_cast [↓zK,↓zJ]
  all_goals repeat'(first|(apply zP<;>(intro hg;(try simp only [push_cast]at hg)))|apply And.intro|(intro hg;(try simp only [push_cast]at hg)))
  all_goals first|exact gA|(exact zQ (by omega))|skip
  all_goals(refine hK _ ?_;clear hK K)
  refine zT rfl (fun hc=> ?_) (fun hc=> ?_)<;>(try simp only [push_cast]at hc)
  ·
   refine zU ?_
   refine hK2 _ ?_
   refine zL fun K3 hK3=> ?_
   refine zV ?_
   refine zL fun K4 hK4=> ?_
   have hl0:=h0.lo
   have hl1:=h0.ll
   have hl2:=h0.lq
   have hnx:=At0.next h0 (by omega)
   refine zL fun K hK=> ?_
   refine zM zO zN [] rfl ?_
   all_goals push_cast [↓zK,↓zJ]
   all_goals repeat'(first|(apply zP<;>(intro hg;(try simp only [push_cast]at hg)))|apply And.intro|(intro hg;(try simp only [push_cast]at hg)))
   all_goals first|exact gA|(exact zQ (by omega))|skip
   all_goals(refine hK _ ?_;clear hK K)
   refine zT rfl (fun hc=> ?_) (fun hc=> ?_)<;>(try simp only [push_cast]at hc)
   ·
    refine zM zO zN [] rfl ?_
    all_goals refine zm 6 fun K9 hK9=> ?_
    all_goals push_cast [↓zK,↓zJ]
    all_goals repeat'(first|(apply zP<;>(intro hg;(try simp only [push_cast]at hg)))|(refine⟨_,hDg v (by omega),?_⟩;push_cast [↓zK,↓zJ])|apply And.intro|(intro hg;(try simp only [push_cast]at hg)))
    all_goals first|exact gA|(exact zQ (by omega))|skip
    all_goals(refine hK9 _ ?_;clear hK9 K9)
    all_goals push_cast [↓zK,↓zJ]
    all_goals repeat'(first|(apply zP<;>(intro hg;(try simp only [push_cast]at hg)))|(refine⟨_,hDg v (by omega),?_⟩;push_cast [↓zK,↓zJ])|apply And.intro|(intro hg;(try simp only [push_cast]at hg)))
    all_goals first|exact gA|(exact zQ (by omega))|skip
    refine hK4 _ ?_
    refine zL fun K hK=> ?_
    refine zf false zO zN ?_ rfl ?_
    ·kernel_rfl
    all_goals push_cast [↓zK,↓zJ]
    all_goals repeat'(first|(apply zP<;>(intro hg;(try simp only [push_cast]at hg)))|apply And.intro|(intro hg;(try simp only [push_cast]at hg)))
    all_goals first|exact gA|(exact zE4 (b:=gb inn v) (by with_reducible assumption) (by with_reducible assumption))|(exact zQ (by omega))|skip
    all_goals(refine hK _ ?_;clear hK K)
    all_goals refine zT rfl (fun hc=> ?_) (fun hc=> ?_)
    all_goals(first|(cases hc;done)|skip)
    all_goals(try simp only [push_cast]at hc)
    all_goals first
     |(
       refine zU ?_
       refine hK3 _ ?_
       refine zM zO zN [] rfl ?_
       all_goals push_cast [↓zK,↓zJ]
       all_goals repeat'(first|(apply zP<;>(intro hg;(try simp only [push_cast]at hg)))|apply And.intro|(intro hg;(try simp only [push_cast]at hg)))
       all_goals first|exact gA|(exact zQ (by omega))|skip
       refine hL0 _ ⟨(v+1,out,left.set v (wK x inn v),queue),⟨by dsimp only;omega,hnx.2.1 (by with_reducible assumption) (by with_reducible assumption)⟩,by dsimp only;omega,?_⟩
       skip
       refine zY rfl ?_ ?_ ?_<;>push_cast [zb,za,↓zK,↓zJ]
       done)
     |(
       refine zL fun K hK=> ?_
       refine zM zO zN [] rfl ?_
       all_goals push_cast [↓zK,↓zJ]
       all_goals repeat'(first|(apply zP<;>(intro hg;(try simp only [push_cast]at hg)))|apply And.intro|(intro hg;(try simp only [push_cast]at hg)))
       all_goals first|exact gA|(exact zQ (by omega))|skip
       all_goals(refine hK _ ?_;clear hK K)
       refine zM zO zN [] rfl ?_
       all_goals push_cast [↓zK,↓zJ]
       all_goals repeat'(first|(apply zP<;>(intro hg;(try simp only [push_cast]at hg)))|apply And.intro|(intro hg;(try simp only [push_cast]at hg)))
       all_goals first|exact gA|(exact zQ (by omega))|skip
       refine hK3 _ ?_
       refine zM zO zN [] rfl ?_
       all_goals push_cast [↓zK,↓zJ]
       all_goals repeat'(first|(apply zP<;>(intro hg;(try simp only [push_cast]at hg)))|apply And.intro|(intro hg;(try simp only [push_cast]at hg)))
       all_goals first|exact gA|(exact zQ (by omega))|skip
       refine hL0 _ ⟨(v+1,out.set v true,left.set v (wK x inn v),queue++ [(v:Int)]),⟨by dsimp only;omega,hnx.2.2 (by with_reducible assumption) (by with_reducible assumption)⟩,by dsimp only;omega,?_⟩
       (try rw [List.take_of_length_le (l:=queue) (by omega)])
       simp only [List.length_append,List.length_cons,List.length_nil,Nat.zero_add]
       refine zY rfl ?_ ?_ ?_<;>push_cast [zb,za,↓zK,↓zJ]
       done)
   ·
    refine zU ?_
    refine hK4 _ ?_
    refine zL fun K hK=> ?_
    refine zf false zO zN ?_ rfl ?_
    ·kernel_rfl
    all_goals push_cast [↓zK,↓zJ]
    all_goals repeat'(first|(apply zP<;>(intro hg;(try simp only [push_cast]at hg)))|apply And.intro|(intro hg;(try simp only [push_cast]at hg)))
    all_goals first|exact gA|(exact zE4 (b:=gb inn v) (by with_reducible assumption) (by with_reducible assumption))|(exact zQ (by omega))|skip
    all_goals(refine hK _ ?_;clear hK K)
    all_goals refine zT rfl (fun hc=> ?_) (fun hc=> ?_)
    all_goals(first|(cases hc;done)|skip)
    all_goals(try simp only [push_cast]at hc)
    all_goals first
     |(
       refine zU ?_
       refine hK3 _ ?_
       refine zM zO zN [] rfl ?_
       all_goals push_cast [↓zK,↓zJ]
       all_goals repeat'(first|(apply zP<;>(intro hg;(try simp only [push_cast]at hg)))|apply And.intro|(intro hg;(try simp only [push_cast]at hg)))
       all_goals first|exact gA|(exact zQ (by omega))|skip
       refine hL0 _ ⟨(v+1,out,left,queue),⟨by dsimp only;omega,hnx.1 (by with_reducible assumption)⟩,by dsimp only;omega,?_⟩
       skip
       refine zY rfl ?_ ?_ ?_<;>push_cast [zb,za,↓zK,↓zJ]
       done)
     |(
       refine zL fun K hK=> ?_
       refine zM zO zN [] rfl ?_
       all_goals push_cast [↓zK,↓zJ]
       all_goals repeat'(first|(apply zP<;>(intro hg;(try simp only [push_cast]at hg)))|apply And.intro|(intro hg;(try simp only [push_cast]at hg)))
       all_goals first|exact gA|(exact zQ (by omega))|skip
       all_goals(refine hK _ ?_;clear hK K)
       refine zM zO zN [] rfl ?_
       all_goals push_cast [↓zK,↓zJ]
       all_goals repeat'(first|(apply zP<;>(intro hg;(try simp only [push_cast]at hg)))|apply And.intro|(intro hg;(try simp only [push_cast]at hg)))
       all_goals first|exact gA|(exact zQ (by omega))|skip
       refine hK3 _ ?_
       refine zM zO zN [] rfl ?_
       all_goals push_cast [↓zK,↓zJ]
       all_goals repeat'(first|(apply zP<;>(intro hg;(try simp only [push_cast]at hg)))|apply And.intro|(intro hg;(try simp only [push_cast]at hg)))
       all_goals first|exact gA|(exact zQ (by omega))|skip
       refine hL0 _ ⟨(v+1,out,left,queue),⟨by dsimp only;omega,hnx.1 (by with_reducible assumption)⟩,by dsimp only;omega,?_⟩
       skip
       refine zY rfl ?_ ?_ ?_<;>push_cast [zb,za,↓zK,↓zJ]
       done)
  ·
   refine zh ?_
   have hkk:v=inn.length:=by omega
   subst hkk
   have hA0:=h0.inv (who:=who) hx
   refine hK1 _ ?_
   refine zL fun K5 hK5=> ?_
   refine zL fun K hK=> ?_
   refine zM zO zN [] rfl ?_
   all_goals push_cast [↓zK,↓zJ]
   all_goals repeat'(first|(apply zP<;>(intro hg;(try simp only [push_cast]at hg)))|apply And.intro|(intro hg;(try simp only [push_cast]at hg)))
   all_goals first|exact gA|(exact zQ (by omega))|skip
   all_goals(refine hK _ ?_;clear hK K)
   refine zV ?_
   refine zg [11,13,14,15,16,45,58,59,60,61,62,63,64,65,66,67,68,69,70,71,72,73,74,75,76,77,78,79,80,81,82,83,84,85,86,87,88,89,90,91,92,93,94,95,96,97,98,99,100,101,102,103,104,105,106,107,108,109,110,111,112,113,114,115,116,117,118,119,120,121,122,123,124,125,126,127,128,129,130] [144,160,176] (fun(p:Nat×List Bool×List Int×List Int)=> [(13, .int .i64 p.1),(9, .sl 144 [] 0 inn.length 4),(10, .sl 160 [] 0 inn.length 2),(11, .sl 176 [] 0 p.2.2.2.length 2)]) (fun p=> []) (fun p=> [(144,⟨.ex,4,dB p.2.1,none⟩),(160,⟨.ex,2,dI p.2.2.1,none⟩),(176,⟨.ex,2,dI p.2.2.2,none⟩)]) (fun p=>p.1≤p.2.2.2.length∧AtI x inn.length inn who goal p.2.1 p.2.2.1 p.2.2.2 (fun _ u=>yI (p.2.2.2.take p.1) u)) (fun p=>inn.length - p.1) (0,out,left,queue) ?_ ⟨by dsimp only;omega,hA0⟩ ?_
   ·
    refine zY rfl ?_ ?_ ?_<;>push_cast [zb,za,↓zK,↓zJ]
   ·rintro⟨i,out,left,queue⟩ ⟨hv,hA⟩ KL1 hL1
    dsimp only at hv hA
    push_cast [↓zK,↓zJ]
    refine zL fun K6 hK6=> ?_
    have hl0:=hA.lo
    have hl1:=hA.ll
    have hql:=hA.qle
    refine zL fun K hK=> ?_
    refine zM zO zN [] rfl ?_
    all_goals push_cast [↓zK,↓zJ]
    all_goals repeat'(first|(apply zP<;>(intro hg;(try simp only [push_cast]at hg)))|apply And.intro|(intro hg;(try simp only [push_cast]at hg)))
    all_goals first|exact gA|(exact zQ (by omega))|skip
    all_goals(refine hK _ ?_;clear hK K)
    refine zT rfl (fun hc=> ?_) (fun hc=> ?_)<;>(try simp only [push_cast]at hc)
    ·
     refine zU ?_
     refine hK6 _ ?_
     refine zL fun K7 hK7=> ?_
     refine zV ?_
     have hqi:=hA.qin (i:=i) (by omega)
     skip
     refine zL fun K hK=> ?_
     refine zM zO zN [] rfl ?_
     all_goals push_cast [↓zK,↓zJ]
     all_goals repeat'(first|(apply zP<;>(intro hg;(try simp only [push_cast]at hg)))|apply And.intro|(intro hg;(try simp only [push_cast]at hg)))
     all_goals first|exact gA|(exact zQ (by omega))|skip
     all_goals(refine hK _ ?_;clear hK K)
     refine zL fun K hK=> ?_
     refine zM zO zN [] rfl ?_
     all_goals push_cast [↓zK,↓zJ]
     all_goals repeat'(first|(apply zP<;>(intro hg;(try simp only [push_cast]at hg)))|apply And.intro|(intro hg;(try simp only [push_cast]at hg)))
     all_goals first|exact gA|(exact zQ (by omega))|skip
     all_goals(refine hK _ ?_;clear hK K)
     refine zV ?_
     obtain⟨qi,hqi0⟩: ∃qi,queue.take i=qi:=⟨_,rfl⟩
     obtain⟨u0,hu0⟩: ∃u0,gi queue i=u0:=⟨_,rfl⟩
     rw [hu0]
     rw [hu0]at hqi
     have hAb:=zCB hA
     rw [hu0,hqi0]at hAb
     refine zg [11,15,16,45,59,64,66,68,69,70,71,72,73,74,75,76,77,78,79,80,81,82,83,84,85,86,87,88,89,90,91,92,93,94,95,96,97,98,99,100,101,102,103,104,105,106,107,108,109,110,111,112,113,114,115,116,117,118,119,120,121,122,123,124,125,126,127,128,129,130] [144,160,176] (fun(p:Nat×List Bool×List Int×List Int)=> [(15, .int .i64 p.1),(9, .sl 144 [] 0 inn.length 4),(10, .sl 160 [] 0 inn.length 2),(11, .sl 176 [] 0 p.2.2.2.length 2)]) (fun p=> []) (fun p=> [(144,⟨.ex,4,dB p.2.1,none⟩),(160,⟨.ex,2,dI p.2.2.1,none⟩),(176,⟨.ex,2,dI p.2.2.2,none⟩)]) (fun p=>p.1≤(gl x.prev u0.toNat).length∧AtI x inn.length inn who goal p.2.1 p.2.2.1 p.2.2.2 (PK x qi u0 p.1)∧p.2.2.2.take i=qi∧gi p.2.2.2 i=u0∧i<p.2.2.2.length) (fun p=>(gl x.prev u0.toNat).length - p.1) (0,out,left,queue) ?_ ⟨by dsimp only;omega,hAb,hqi0,hu0,by dsimp only;omega⟩ ?_
     ·
      refine zY rfl ?_ ?_ ?_<;>push_cast [zb,za,↓zK,↓zJ]
     ·rintro⟨k,out,left,queue⟩ ⟨hk,hA2,hq2,hu2,hil⟩ KL2 hL2
      dsimp only at hk hA2 hq2 hu2 hil
      push_cast [↓zK,↓zJ]
      refine zL fun K8 hK8=> ?_
      have hl0:=hA2.lo
      have hl1:=hA2.ll
      have hql:=hA2.qle
      have hpl:=hx.dpv u0.toNat (by omega)
      refine zL fun K hK=> ?_
      refine zM zO zN [] rfl ?_
      all_goals push_cast [↓zK,↓zJ]
      all_goals repeat'(first|(apply zP<;>(intro hg;(try simp only [push_cast]at hg)))|apply And.intro|(intro hg;(try simp only [push_cast]at hg)))
      all_goals first|exact gA|(exact zQ (by omega))|skip
      all_goals(refine hK _ ?_;clear hK K)
      refine zT rfl (fun hc=> ?_) (fun hc=> ?_)<;>(try simp only [push_cast]at hc)
      ·
       refine zU ?_
       refine hK8 _ ?_
       refine zL fun K9 hK9=> ?_
       refine zV ?_
       refine zL fun K hK=> ?_
       refine zM zO zN [] rfl ?_
       all_goals push_cast [↓zK,↓zJ]
       all_goals repeat'(first|(apply zP<;>(intro hg;(try simp only [push_cast]at hg)))|apply And.intro|(intro hg;(try simp only [push_cast]at hg)))
       all_goals first|exact gA|(exact zQ (by omega))|skip
       all_goals(refine hK _ ?_;clear hK K)
       refine zL fun K10 hK10=> ?_
       have hp1:=hx.pin u0.toNat (by omega) k (by omega)
       have hqi2:=hA2.qin (i:=i) hil
       rw [hu2]at hqi2
       have hps:=fun v u=>PK_s (x:=x) (qi:=qi) (u0:=u0) (k:=k) (by omega) (by omega) v u
       refine zL fun K hK=> ?_
       refine zf false zO zN ?_ rfl ?_
       ·kernel_rfl
       all_goals refine yD 16 fun K9 hK9=> ?_
       all_goals push_cast [↓zK,↓zJ]
       all_goals repeat'(first|(apply zP<;>(intro hg;(try simp only [push_cast]at hg)))|(refine⟨_,hEd (gi (gl x.prev u0.toNat) k) u0 (by omega),?_⟩;push_cast [↓zK,↓zJ])|apply And.intro|(intro hg;(try simp only [push_cast]at hg)))
       all_goals first|exact gA|(exact zQ (by omega))|skip
       all_goals(refine hK9 _ ?_;clear hK9 K9)
       all_goals push_cast [↓zK,↓zJ]
       all_goals repeat'(first|(apply zP<;>(intro hg;(try simp only [push_cast]at hg)))|(refine⟨_,hEd (gi (gl x.prev u0.toNat) k) u0 (by omega),?_⟩;push_cast [↓zK,↓zJ])|apply And.intro|(intro hg;(try simp only [push_cast]at hg)))
       all_goals first|exact gA|(exact zQ (by omega))|skip
       all_goals(refine hK _ ?_;clear hK K)
       all_goals refine zT rfl (fun hc=> ?_) (fun hc=> ?_)
       all_goals(first|(cases hc;done)|skip)
       all_goals(try simp only [push_cast]at hc)
       all_goals first
        |(
          refine zU ?_
          refine hK10 _ ?_
          have hlb:0≤gi left (gi (gl x.prev u0.toNat) k).toNat∧gi left (gi (gl x.prev u0.toNat) k).toNat≤256:=by rw [hA2.cnt (gi (gl x.prev u0.toNat) k).toNat (by omega) (by with_reducible assumption) (by with_reducible assumption)];have h5:=jI x inn (gi (gl x.prev u0.toNat) k).toNat (PK x qi u0 k (gi (gl x.prev u0.toNat) k).toNat) (gl x.next (gi (gl x.prev u0.toNat) k).toNat).length;have h6:=hx.deg (gi (gl x.prev u0.toNat) k).toNat (by omega);omega
          have hset:gi (left.set (gi (gl x.prev u0.toNat) k).toNat (gi left (gi (gl x.prev u0.toNat) k).toNat - 1)) (gi (gl x.prev u0.toNat) k).toNat=gi left (gi (gl x.prev u0.toNat) k).toNat - 1:=by rw [qb (by omega),if_pos rfl]
          have hst:=AtI.step hx hA2 (v0:=(gi (gl x.prev u0.toNat) k).toNat) (by omega) (u0:=u0) hqi2.1 hqi2.2.1 hqi2.2.2 (by with_reducible assumption) (by with_reducible assumption) (by rw [Int.toNat_of_nonneg hp1.1.1];with_reducible assumption) (by obtain⟨j9,a9,b9⟩:=hp1.2;exact⟨j9,a9,by rw [b9];omega⟩) (by have h8:=zGs hx hA2 hil (k:=k) (by rw [hu2];omega);rw [hu2,hq2]at h8;exact h8) hps
          have hta: ∀y:Int,(queue++ [y]).take i=qi:=fun y=>by rw [List.take_append_of_le_length (by omega)];exact hq2
          have htg: ∀y:Int,gi (queue++ [y]) i=u0:=fun y=>by rw [Zk hil];exact hu2
          refine zL fun K hK=> ?_
          refine zM zO zN [] rfl ?_
          all_goals push_cast [↓zK,↓zJ]
          all_goals repeat'(first|(apply zP<;>(intro hg;(try simp only [push_cast]at hg)))|apply And.intro|(intro hg;(try simp only [push_cast]at hg)))
          all_goals first|exact gA|(exact zQ (by omega))|skip
          all_goals(refine hK _ ?_;clear hK K)
          refine zL fun K hK=> ?_
          refine zf false zO zN ?_ rfl ?_
          ·kernel_rfl
          all_goals push_cast [↓zK,↓zJ]
          all_goals repeat'(first|(apply zP<;>(intro hg;(try simp only [push_cast]at hg)))|apply And.intro|(intro hg;(try simp only [push_cast]at hg)))
          all_goals first|exact gA|(rw [List.length_set];omega)|(exact zQ (by omega))|skip
          all_goals(refine hK _ ?_;clear hK K)
          all_goals refine zT rfl (fun hc=> ?_) (fun hc=> ?_)
          all_goals(first|(cases hc;done)|skip)
          all_goals(try simp only [push_cast]at hc)
          all_goals first
           |(
             refine zU ?_
             refine hK9 _ ?_
             refine zM zO zN [] rfl ?_
             all_goals push_cast [↓zK,↓zJ]
             all_goals repeat'(first|(apply zP<;>(intro hg;(try simp only [push_cast]at hg)))|apply And.intro|(intro hg;(try simp only [push_cast]at hg)))
             all_goals first|exact gA|(exact zQ (by omega))|skip
             refine hL2 _ ⟨(k+1,out,left.set (gi (gl x.prev u0.toNat) k).toNat (gi left (gi (gl x.prev u0.toNat) k).toNat - 1),queue),⟨by dsimp only;omega,hst.1 (by omega),hq2,hu2,hil⟩,by dsimp only;omega,?_⟩
             skip
             refine zY rfl ?_ ?_ ?_<;>push_cast [zb,za,↓zK,↓zJ]
             done)
           |(
             refine zL fun K hK=> ?_
             refine zM zO zN [] rfl ?_
             all_goals push_cast [↓zK,↓zJ]
             all_goals repeat'(first|(apply zP<;>(intro hg;(try simp only [push_cast]at hg)))|apply And.intro|(intro hg;(try simp only [push_cast]at hg)))
             all_goals first|exact gA|(exact zQ (by omega))|skip
             all_goals(refine hK _ ?_;clear hK K)
             refine zM zO zN [] rfl ?_
             all_goals push_cast [↓zK,↓zJ]
             all_goals repeat'(first|(apply zP<;>(intro hg;(try simp only [push_cast]at hg)))|apply And.intro|(intro hg;(try simp only [push_cast]at hg)))
             all_goals first|exact gA|(exact zQ (by omega))|skip
             refine hK9 _ ?_
             refine zM zO zN [] rfl ?_
             all_goals push_cast [↓zK,↓zJ]
             all_goals repeat'(first|(apply zP<;>(intro hg;(try simp only [push_cast]at hg)))|apply And.intro|(intro hg;(try simp only [push_cast]at hg)))
             all_goals first|exact gA|(exact zQ (by omega))|skip
             refine hL2 _ ⟨(k+1,out.set (gi (gl x.prev u0.toNat) k).toNat true,left.set (gi (gl x.prev u0.toNat) k).toNat (gi left (gi (gl x.prev u0.toNat) k).toNat - 1),queue++ [gi (gl x.prev u0.toNat) k]),⟨by dsimp only;omega,(by have h8:=hst.2 (by omega);rw [Int.toNat_of_nonneg hp1.1.1]at h8;exact h8),hta _,htg _,by simp only [List.length_append];omega⟩,by dsimp only;omega,?_⟩
             (try rw [List.take_of_length_le (l:=queue) (by omega)])
             simp only [List.length_append,List.length_cons,List.length_nil,Nat.zero_add]
             refine zY rfl ?_ ?_ ?_<;>push_cast [zb,za,↓zK,↓zJ]
             done)
          done)
        |(
          refine zh ?_
          refine hK9 _ ?_
          refine zM zO zN [] rfl ?_
          all_goals push_cast [↓zK,↓zJ]
          all_goals repeat'(first|(apply zP<;>(intro hg;(try simp only [push_cast]at hg)))|apply And.intro|(intro hg;(try simp only [push_cast]at hg)))
          all_goals first|exact gA|(exact zQ (by omega))|skip
          refine hL2 _ ⟨(k+1,out,left,queue),⟨by dsimp only;omega,hA2.skip (v0:=(gi (gl x.prev u0.toNat) k).toNat) (by omega) hqi2.2.1 (by first|exact .inl (by with_reducible assumption)|exact .inr (.inl (by with_reducible assumption))|exact .inr (.inr (by rw [Int.toNat_of_nonneg hp1.1.1];with_reducible assumption))) hps,hq2,hu2,hil⟩,by dsimp only;omega,?_⟩
          skip
          refine zY rfl ?_ ?_ ?_<;>push_cast [zb,za,↓zK,↓zJ]
          done)
      ·
       refine zh ?_
       refine hK7 _ ?_
       refine zM zO zN [] rfl ?_
       all_goals push_cast [↓zK,↓zJ]
       all_goals repeat'(first|(apply zP<;>(intro hg;(try simp only [push_cast]at hg)))|apply And.intro|(intro hg;(try simp only [push_cast]at hg)))
       all_goals first|exact gA|(exact zQ (by omega))|skip
       refine hL1 _ ⟨(i+1,out,left,queue),⟨by dsimp only;omega,zGr hx hil hq2 hu2 (by omega) hA2⟩,by dsimp only;omega,?_⟩
       refine zY rfl ?_ ?_ ?_<;>push_cast [zb,za,↓zK,↓zJ]
    ·
     refine zh ?_
     have hie:i=queue.length:=by omega
     subst hie
     have hfin:=AtI.end' hx hA
     rw [hR]at hfin
     refine hK5 _ ?_
     refine zL fun K hK=> ?_
     refine zM zO zN [] rfl ?_
     all_goals push_cast [↓zK,↓zJ]
     all_goals repeat'(first|(apply zP<;>(intro hg;(try simp only [push_cast]at hg)))|apply And.intro|(intro hg;(try simp only [push_cast]at hg)))
     all_goals first|exact gA|(exact zQ (by omega))|skip
     all_goals(refine hK _ ?_;clear hK K)
     refine zZ ?_
     refine⟨Or.inl rfl,?_⟩
     push_cast [zd,↓zK,↓zJ]
     rw [hfin]
     all_goals first|rfl|exact⟨rfl,hatl⟩|exact⟨rfl,hatl.symm⟩|exact hatl.symm|(simp;done)
def xT (x:L7)(inn:List Bool)(top:Int)(v:Nat):Bool:=gb inn v&&(gi x.prio v==top)
def yN (rest low:List Bool)(who:Int)(v:Nat):Bool:=gb rest v&&(gb low v !=(who==0))
def vr (l:List Bool):Nat→Bool
 |0=>false
 |k+1=>vr l k||gb l k
def Zf (inn:List Bool)(who:Int)(v:Nat):Bool:=gb inn v&&(who==0)
def wU (again away:List Bool)(who:Int)(v:Nat):Bool:=gb again v||(gb away v&&(who==1))
def yg (n:Nat)(f:Nat→Bool):List Bool:=(List.range n).map f
theorem qz (n:Nat)(f:Nat→Bool):(yg n f).length=n:=by simp [yg]
theorem QN (n:Nat)(f:Nat→Bool):mkB n f n=yg n f:=zBx n f
theorem yX {n:Nat}{f:Nat→Bool}{v:Nat}(h:v<n):gb (yg n f) v=f v:=UL h
theorem zJZ {n:Nat}{f:Nat→Bool}{k:Nat}(h:k<n):gb (mkB n f (k+1)) k=gb (yg n f) k:=by
 rw [yX h]
 unfold mkB gb
 rw [List.getD_eq_getElem?_getD,List.getElem?_append_left (by simp),List.getElem?_map,List.getElem?_range (by omega)]
 rfl
theorem zC8 {x:L7}{inn:List Bool}{top:Int}{k n:Nat}(hk:k<n)(h:gb inn k=true):(mkB n (xT x inn top) k).set k (gi x.prio k==top)=mkB n (xT x inn top) (k+1):=by
 rw [←qc hk];unfold xT;rw [h];rfl
theorem zFF {x:L7}{inn:List Bool}{top:Int}{k n:Nat}(hk:k<n)(h:gb inn k=false):(mkB n (xT x inn top) k).set k false=mkB n (xT x inn top) (k+1):=by
 rw [←qc hk];unfold xT;rw [h];rfl
theorem zJT {rest low:List Bool}{who:Int}{k n:Nat}(hk:k<n)(h:gb rest k=true):(mkB n (yN rest low who) k).set k (!(gb low k==(who==0)))=mkB n (yN rest low who) (k+1):=by
 rw [←qc hk];unfold yN;rw [h];rfl
theorem zLi {rest low:List Bool}{who:Int}{k n:Nat}(hk:k<n)(h:gb rest k=false):(mkB n (yN rest low who) k).set k false=mkB n (yN rest low who) (k+1):=by
 rw [←qc hk];unfold yN;rw [h];rfl
theorem zKL {inn:List Bool}{who:Int}{k n:Nat}(hk:k<n)(h:gb inn k=true):(mkB n (Zf inn who) k).set k (who==0)=mkB n (Zf inn who) (k+1):=by
 rw [←qc hk];unfold Zf;rw [h];rfl
theorem zMT {inn:List Bool}{who:Int}{k n:Nat}(hk:k<n)(h:gb inn k=false):(mkB n (Zf inn who) k).set k false=mkB n (Zf inn who) (k+1):=by
 rw [←qc hk];unfold Zf;rw [h];rfl
theorem zN8 {again away:List Bool}{who:Int}{k n:Nat}(hk:k<n)(h:gb again k=true):(mkB n (wU again away who) k).set k true=mkB n (wU again away who) (k+1):=by
 rw [←qc hk];unfold wU;rw [h];rfl
theorem zN9 {again away:List Bool}{who:Int}{k n:Nat}(hk:k<n)(h:gb again k=false)(h2:gb away k=true):(mkB n (wU again away who) k).set k (who==1)=mkB n (wU again away who) (k+1):=by
 rw [←qc hk];unfold wU;rw [h,h2];rfl
theorem zOA {again away:List Bool}{who:Int}{k n:Nat}(hk:k<n)(h:gb again k=false)(h2:gb away k=false):(mkB n (wU again away who) k).set k false=mkB n (wU again away who) (k+1):=by
 rw [←qc hk];unfold wU;rw [h,h2];rfl
theorem xx (a b:List Bool):(yY a b).length=a.length:=by simp [yY]
theorem qy {a b:List Bool}{v:Nat}(h:v<a.length):gb (yY a b) v=(gb a v&& !gb b v):=UL h
def yz (l:List Bool):Nat→Nat
 |0=>0
 |k+1=>if gb l k then yz l k+1 else yz l k
theorem KL (l:List Bool)(k:Nat):yz l (k+1)=if gb l k=true then yz l k+1 else yz l k:=rfl
theorem Ux {a b:List Bool}: ∀k,(∀v,v<k→gb a v=true→gb b v=true)→yz a k≤yz b k
 |0,_=>Nat.le_refl _
 |k+1,h=>by
  have ih:=Ux k fun v hv=>h v (by omega)
  have hk:=h k (by omega)
  rw [KL,KL]
  split
  ·rename_i e;rw [if_pos (hk e)];omega
  ·split<;>omega
theorem zE6 {a b:List Bool}: ∀k,(∀v,v<k→gb a v=true→gb b v=true)→(∃v,v<k∧gb a v=false∧gb b v=true)→yz a k<yz b k
 |0,_,⟨v,hv,_⟩=>absurd hv (Nat.not_lt_zero _)
 |k+1,h,⟨v,hv,h1,h2⟩=>by
  have hk:=h k (by omega)
  have hle:=Ux k fun v hv=>h v (by omega)
  rw [KL,KL]
  by_cases e:v=k
  ·subst e;rw [h1,h2];exact Nat.lt_succ_of_le hle
  ·have ih:=zE6 k (fun v hv=>h v (by omega)) ⟨v,by omega,h1,h2⟩
   split
   ·rename_i e;rw [if_pos (hk e)];omega
   ·split<;>omega
theorem Yt (l:List Bool): ∀k,yz l k≤k
 |0=>Nat.le_refl _
 |k+1=>by
  have :=Yt l k
  rw [KL]
  split<;>omega
theorem vS {l:List Bool}: ∀{k:Nat},(vr l k=true↔∃v,v<k∧gb l v=true)
 |0=>⟨fun h=>(by cases h),fun⟨v,h,_⟩=>absurd h (Nat.not_lt_zero _)⟩
 |k+1=>by
  show(vr l k||gb l k)=true↔_
  rw [Bool.or_eq_true,vS]
  constructor
  ·rintro(⟨v,hv,h⟩|h)
   ·exact⟨v,by omega,h⟩
   ·exact⟨k,by omega,h⟩
  ·rintro⟨v,hv,h⟩
   by_cases e:v=k
   ·subst e;exact .inr h
   ·exact .inl ⟨v,by omega,h⟩
noncomputable def yV (x:L7)(n:Nat):Nat→List Bool→List Bool
 |0,_=>List.replicate n false
 |f+1,inn=>
  if yc x inn n<0 then List.replicate n false else
  if vr (yg n (yN (yY inn (yn x n inn (Int.tmod (yc x inn n) 2) (yg n (xT x inn (yc x inn n))))) (yV x n f (yY inn (yn x n inn (Int.tmod (yc x inn n) 2) (yg n (xT x inn (yc x inn n)))))) (Int.tmod (yc x inn n) 2))) n=true then
   yg n (wU (yV x n f (yY inn (yn x n inn (1 - Int.tmod (yc x inn n) 2) (yg n (yN (yY inn (yn x n inn (Int.tmod (yc x inn n) 2) (yg n (xT x inn (yc x inn n))))) (yV x n f (yY inn (yn x n inn (Int.tmod (yc x inn n) 2) (yg n (xT x inn (yc x inn n)))))) (Int.tmod (yc x inn n) 2))))))
    (yn x n inn (1 - Int.tmod (yc x inn n) 2) (yg n (yN (yY inn (yn x n inn (Int.tmod (yc x inn n) 2) (yg n (xT x inn (yc x inn n))))) (yV x n f (yY inn (yn x n inn (Int.tmod (yc x inn n) 2) (yg n (xT x inn (yc x inn n)))))) (Int.tmod (yc x inn n) 2)))) (Int.tmod (yc x inn n) 2))
  else yg n (Zf inn (Int.tmod (yc x inn n) 2))
theorem Un (x:L7)(n f:Nat)(inn:List Bool){top who:Int}{goal rest low lost away:List Bool}(hT:yc x inn n=top)(hW:Int.tmod top 2=who)(hG:yg n (xT x inn top)=goal)(hR:yY inn (yn x n inn who goal)=rest)(hLo:yV x n f rest=low)(hL:yg n (yN rest low who)=lost)(hA2:yn x n inn (1 - who) lost=away):
  yV x n (f+1) inn=if top<0 then List.replicate n false else if vr lost n=true then yg n (wU (yV x n f (yY inn away)) away who)else yg n (Zf inn who):=by
 subst hT hW hG hR hLo hL hA2
 rfl
theorem Jm (x:L7)(n:Nat): ∀f inn,(yV x n f inn).length=n
 |0,inn=>by unfold yV;simp
 |f+1,inn=>by
  rw [Un x n f inn rfl rfl rfl rfl rfl rfl rfl]
  split
  ·simp
  ·split<;>exact qz _ _
theorem zIR (x:L7)(inn:List Bool)(k:Nat):yc x inn (k+1)=if gb inn k=true then max (yc x inn k) (gi x.prio k)else yc x inn k:=rfl
theorem XB {x:L7}{inn:List Bool}: ∀k,∀v,v<k→gb inn v=true→gi x.prio v≤yc x inn k
 |0,v,h,_=>absurd h (Nat.not_lt_zero _)
 |k+1,v,hv,hb=>by
  rw [zIR]
  by_cases e:v=k
  ·subst e;rw [if_pos hb];omega
  ·have :=XB (x:=x) k v (by omega) hb
   split<;>omega
theorem Kw {x:L7}{n:Nat}(hx:x.Ok n){inn:List Bool}: ∀k,k≤n→yc x inn k= -1∨∃v,v<k∧gb inn v=true∧gi x.prio v=yc x inn k
 |0,_=> .inl rfl
 |k+1,hk=>by
  have ih:=Kw hx (inn:=inn) k (by omega)
  have hp:=hx.pr k (by omega)
  rw [zIR]
  by_cases e:gb inn k=true
  ·rw [if_pos e]
   rcases Int.le_total (yc x inn k) (gi x.prio k)with h|h
   ·exact .inr ⟨k,by omega,e,by omega⟩
   ·rcases ih with h2|⟨v,hv,h2,h3⟩
    ·exact .inr ⟨k,by omega,e,by omega⟩
    ·exact .inr ⟨v,by omega,h2,by omega⟩
  ·rw [if_neg e]
   rcases ih with h2|⟨v,hv,h2,h3⟩
   ·exact .inl h2
   ·exact .inr ⟨v,by omega,h2,h3⟩
section
variable {x:L7} {n:Nat} {inn:List Bool}
theorem zIv {who:Int}{goal:List Bool}{v:Nat}(hv:v<n)(h:gb (yn x n inn who goal) v=true):gb inn v=true:=((QI hv).1 h).inD.2
theorem zD8 : ∀f inn,inn.length=n→∀v,v<n→gb (yV x n f inn) v=true→gb inn v=true
 |0,inn,_,v,hv,h=>by
  unfold yV at h
  rw [show gb (List.replicate n false) v=false from by unfold gb;rw [List.getD_eq_getElem?_getD,List.getElem?_replicate];split<;>rfl]at h
  cases h
 |f+1,inn,hi,v,hv,h=>by
  rw [Un x n f inn rfl rfl rfl rfl rfl rfl rfl]at h
  split at h
  ·rw [show gb (List.replicate n false) v=false from by unfold gb;rw [List.getD_eq_getElem?_getD,List.getElem?_replicate];split<;>rfl]at h
   cases h
  ·split at h
   ·rw [yX hv]at h
    unfold wU at h
    rw [Bool.or_eq_true,Bool.and_eq_true]at h
    rcases h with h|h
    ·have :=zD8 f _ (by rw [xx];exact hi) v hv h
     rw [qy (by omega),Bool.and_eq_true]at this
     exact this.1
    ·exact zIv hv h.1
   ·rw [yX hv]at h
    unfold Zf at h
    rw [Bool.and_eq_true]at h
    exact h.1
end
theorem Qe {g:PG}{who:Int}{D goal goal':Nat→Prop}(h: ∀v,D v→(goal v↔goal' v))(v:Nat):Att g who D goal v↔Att g who D goal' v:=by
 have hk: ∀k v,vR g who D goal k v↔vR g who D goal' k v:=by
  intro k
  induction k with
  |zero=>exact fun v=>⟨fun⟨a,b⟩=>⟨a,(h v a).1 b⟩,fun⟨a,b⟩=>⟨a,(h v a).2 b⟩⟩
  |succ k ih=>
   have e:vR g who D goal k=vR g who D goal' k:=funext fun v=>propext (ih v)
   intro v
   show(_∨_)↔(_∨_)
   rw [e]
 exact⟨fun⟨k,a⟩=>⟨k,(hk k v).1 a⟩,fun⟨k,a⟩=>⟨k,(hk k v).2 a⟩⟩
theorem ZG (g:PG)(who:Int)(D U:Nat→Prop)(h: ∀v,¬U v): ∃s,xi g who D U s:=
 ⟨fun _=>0,⟨fun v a=>absurd a (h v),fun v a=>absurd a (h v),fun v u a=>absurd a (h v),fun v t w=>by
  cases w with
  |one a=>exact absurd a.1 (h v)
  |cons a _=>exact absurd a.1 (h v)⟩⟩
section
variable {x:L7} {n:Nat}
theorem Wg {inn:List Bool}(hi:inn.length=n){who:Int}{goal:List Bool}(v:Nat):inD n (yY inn (yn x n inn who goal)) v↔inD n inn v∧¬Att (pgL x) who (inD n inn) (fun v=>gb goal v=true) v:=by
 unfold inD
 constructor
 ·rintro⟨h1,h2⟩
  rw [qy (by omega),Bool.and_eq_true]at h2
  refine⟨⟨h1,h2.1⟩,fun h=> ?_⟩
  rw [(QI h1).2 h]at h2
  cases h2.2
 ·rintro⟨⟨h1,h2⟩,h3⟩
  refine⟨h1,?_⟩
  rw [qy (by omega),h2,Bool.eq_false_iff.2 fun e=>h3 ((QI h1).1 e)]
  rfl
theorem QT {inn:List Bool}(hi:inn.length=n){who:Int}{goal:List Bool}{w:Nat}(hw:w<n)(h1:gb inn w=true)(h2:gb goal w=true):yz (yY inn (yn x n inn who goal)) n<yz inn n:=by
 refine zE6 n (fun v hv h=> ?_) ⟨w,hw,?_,h1⟩
 ·rw [qy (by omega),Bool.and_eq_true]at h;exact h.1
 ·rw [qy (by omega),(QI hw).2 (.base ⟨hw,h1⟩ h2),h1];rfl
theorem Va {t:Int}(h:0≤t):Int.tmod t 2=t%2:=Int.tmod_eq_emod_of_nonneg h
theorem jq (hx:x.Ok n): ∀f inn,inn.length=n→yz inn n<f→vX (pgL x) (inD n inn)→
  (∃s,xi (pgL x) 0 (inD n inn) (fun v=>inD n inn v∧gb (yV x n f inn) v=true) s)∧∃s,xi (pgL x) 1 (inD n inn) (fun v=>inD n inn v∧gb (yV x n f inn) v=false) s
 |0,inn,_,h,_=>absurd h (Nat.not_lt_zero _)
 |f+1,inn,hi,hc,hl=>by
  have hn: ∀v u,(pgL x).E v u→u<n:=jf hx
  obtain⟨top,hT⟩: ∃t,yc x inn n=t:=⟨_,rfl⟩
  obtain⟨who,hW⟩: ∃t,Int.tmod top 2=t:=⟨_,rfl⟩
  obtain⟨goal,hG⟩: ∃t,yg n (xT x inn top)=t:=⟨_,rfl⟩
  obtain⟨rest,hR⟩: ∃t,yY inn (yn x n inn who goal)=t:=⟨_,rfl⟩
  obtain⟨low,hLo⟩: ∃t,yV x n f rest=t:=⟨_,rfl⟩
  obtain⟨lost,hL⟩: ∃t,yg n (yN rest low who)=t:=⟨_,rfl⟩
  obtain⟨away,hA⟩: ∃t,yn x n inn (1 - who) lost=t:=⟨_,rfl⟩
  rw [Un x n f inn hT hW hG hR hLo hL hA]
  have hmax:=fun v hv hb=>XB (x:=x) (inn:=inn) n v hv hb
  have hex:=Kw hx (inn:=inn) n (Nat.le_refl _)
  rw [hT]at hmax hex
  by_cases ht:top<0
  ·have hno: ∀v,¬inD n inn v:=fun v hv=>by
    have :=hmax v hv.1 hv.2
    have :=hx.pr v hv.1
    omega
   exact⟨ZG _ _ _ _ fun v h=>hno v h.1,ZG _ _ _ _ fun v h=>hno v h.1⟩
  rw [if_neg ht]
  have hw2:who=0∨who=1:=by rw [Va (by omega)]at hW;omega
  have hgoal: ∀v,inD n inn v→(gb goal v=true↔(pgL x).pr v=top.toNat):=fun v hv=>by
   rw [←hG,yX hv.1]
   unfold xT
   rw [hv.2,Bool.true_and,beq_iff_eq]
   have :=hx.pr v hv.1
   show _↔(gi x.prio v).toNat=top.toNat
   omega
  obtain⟨w,hw,hw3,hw4⟩:=hex.resolve_left (by omega)
  have hrl:rest.length=n:=by rw [←hR,xx];exact hi
  have hRD: ∀v,inD n rest v↔inD n inn v∧¬Att (pgL x) who (inD n inn) (fun v=>gb goal v=true) v:=fun v=>by rw [←hR];exact Wg hi v
  have hlt:yz rest n<f:=by
   have :yz rest n<yz inn n:=by
    rw [←hR]
    refine QT hi hw hw3 ((hgoal w ⟨hw,hw3⟩).2 ?_)
    show(gi x.prio w).toNat=_
    rw [hw4]
   omega
  have hlr:vX (pgL x) (inD n rest):=by
   have :=VN (who:=who) (goal:=fun v=>gb goal v=true) hn hl
   rw [show inD n rest=_ from funext fun v=>propext (hRD v)]
   exact this
  have ih:=jq hx f rest hrl hlt hlr
  rw [hLo]at ih
  have hlost: ∀v,v<n→(gb lost v=true↔gb rest v=true∧(gb low v=true↔¬who=0)):=fun v hv=>by
   rw [←hL,yX hv]
   unfold yN
   rw [Bool.and_eq_true]
   rcases hw2 with e|e<;>rw [e]<;>cases gb low v<;>simp
  by_cases ha:vr lost n=true
  ·rw [if_pos ha]
   obtain⟨a,ha1,ha2⟩:=vS.1 ha
   obtain⟨rest2,hR2⟩: ∃t,yY inn away=t:=⟨_,rfl⟩
   obtain⟨again,hAg⟩: ∃t,yV x n f rest2=t:=⟨_,rfl⟩
   rw [hR2,hAg]
   have hr2l:rest2.length=n:=by rw [←hR2,xx];exact hi
   have hai:gb inn a=true:=((hRD a).1 ⟨ha1,((hlost a ha1).1 ha2).1⟩).1.2
   have hRD2: ∀v,inD n rest2 v↔inD n inn v∧¬Att (pgL x) (1 - who) (inD n inn) (fun v=>gb lost v=true) v:=fun v=>by rw [←hR2,←hA];exact Wg hi v
   have hlt2:yz rest2 n<f:=by
    have :yz rest2 n<yz inn n:=by rw [←hR2,←hA];exact QT hi ha1 hai ha2
    omega
   have hlr2:vX (pgL x) (inD n rest2):=by
    have :=VN (who:=1 - who) (goal:=fun v=>gb lost v=true) hn hl
    rw [show inD n rest2=_ from funext fun v=>propext (hRD2 v)]
    exact this
   have ih2:=jq hx f rest2 hr2l hlt2 hlr2
   have hsub:=fun v hv=>zD8 (x:=x) f rest2 hr2l v hv
   rw [hAg]at ih2 hsub
   have haw: ∀v,v<n→(gb away v=true↔Att (pgL x) (1 - who) (inD n inn) (fun v=>gb lost v=true) v):=fun v hv=>by rw [←hA];exact QI hv
   have hnot: ∀v,v<n→gb away v=true→gb again v=false:=fun v hv h=>Bool.eq_false_iff.2 fun e=>((hRD2 v).1 ⟨hv,hsub v hv e⟩).2 ((haw v hv).1 h)
   have hown:=JX hx
   rcases hw2 with e|e
   ·subst e
    have hop:((1:Int) - 0)=1:=rfl
    rw [hop]at hRD2 haw
    obtain⟨-,⟨s1,hs1⟩⟩:=ih
    obtain⟨⟨m0,hm0⟩,⟨m1,hm1⟩⟩:=ih2
    have hLs: ∀v,inD n inn v→(gb lost v=true↔inD n rest v∧gb low v=false):=fun v hv=>by
     rw [hlost v hv.1]
     constructor
     ·rintro⟨h1,h2⟩
      exact⟨⟨hv.1,h1⟩,Bool.eq_false_iff.2 fun h3=>h2.1 h3 rfl⟩
     ·rintro⟨h1,h2⟩
      exact⟨h1.2,by rw [h2];simp⟩
    have hatt:=fun v=>Qe (g:=pgL x) (who:=1) hLs v
    obtain⟨s',hs'⟩:=zAi (who:=0) (opp:=1) hown (by decide) (yP hs1 hRD fun v=>Iff.rfl) (yP hm1 (fun v=>by rw [hRD2 v,hatt v]) fun v=>Iff.rfl)
    have hz:=zAj (who:=0) (opp:=1) hown (yP hm0 hRD2 fun v=>Iff.rfl)
    have hres: ∀v,v<n→gb (yg n (wU again away 0)) v=gb again v:=fun v hv=>by
     rw [yX hv];unfold wU;rw [show((0:Int)==1)=false from rfl,Bool.and_false,Bool.or_false]
    refine⟨⟨m0,yP hz (fun v=>Iff.rfl) fun v=> ?_⟩,⟨s',yP hs' (fun v=>Iff.rfl) fun v=> ?_⟩⟩
    ·constructor
     ·rintro⟨h1,h2⟩
      exact⟨((hRD2 v).1 h1).1,by rw [hres v h1.1];exact h2⟩
     ·rintro⟨h1,h2⟩
      rw [hres v h1.1]at h2
      exact⟨⟨h1.1,hsub v h1.1 h2⟩,h2⟩
    ·rw [←hatt v]
     constructor
     ·rintro(⟨h1,h2⟩|h)
      ·exact⟨((hRD2 v).1 h1).1,by rw [hres v h1.1];exact h2⟩
      ·have hv:=h.inD
       exact⟨hv,by rw [hres v hv.1];exact hnot v hv.1 ((haw v hv.1).2 h)⟩
     ·rintro⟨h1,h2⟩
      rw [hres v h1.1]at h2
      by_cases h3:Att (pgL x) 1 (inD n inn) (fun v=>gb lost v=true) v
      ·exact .inr h3
      ·exact .inl ⟨(hRD2 v).2 ⟨h1,h3⟩,h2⟩
   ·subst e
    have hop:((1:Int) - 1)=0:=rfl
    rw [hop]at hRD2 haw
    obtain⟨⟨s1,hs1⟩,-⟩:=ih
    obtain⟨⟨m0,hm0⟩,⟨m1,hm1⟩⟩:=ih2
    have hLs: ∀v,inD n inn v→(gb lost v=true↔inD n rest v∧gb low v=true):=fun v hv=>by
     rw [hlost v hv.1]
     constructor
     ·rintro⟨h1,h2⟩
      exact⟨⟨hv.1,h1⟩,h2.2 (by decide)⟩
     ·rintro⟨h1,h2⟩
      exact⟨h1.2,by rw [h2];simp⟩
    have hatt:=fun v=>Qe (g:=pgL x) (who:=0) hLs v
    have hown2: ∀v,(pgL x).own v=1∨(pgL x).own v=0:=fun v=>(hown v).symm
    obtain⟨s',hs'⟩:=zAi (who:=1) (opp:=0) hown2 (by decide) (yP hs1 hRD fun v=>Iff.rfl) (yP hm0 (fun v=>by rw [hRD2 v,hatt v]) fun v=>Iff.rfl)
    have hz:=zAj (who:=1) (opp:=0) hown2 (yP hm1 hRD2 fun v=>Iff.rfl)
    have hres: ∀v,v<n→gb (yg n (wU again away 1)) v=(gb again v||gb away v):=fun v hv=>by
     rw [yX hv];unfold wU;rw [show((1:Int)==1)=true from rfl,Bool.and_true]
    refine⟨⟨s',yP hs' (fun v=>Iff.rfl) fun v=> ?_⟩,⟨m1,yP hz (fun v=>Iff.rfl) fun v=> ?_⟩⟩
    ·rw [←hatt v]
     constructor
     ·rintro(⟨h1,h2⟩|h)
      ·exact⟨((hRD2 v).1 h1).1,by rw [hres v h1.1,h2];rfl⟩
      ·have hv:=h.inD
       exact⟨hv,by rw [hres v hv.1,(haw v hv.1).2 h,Bool.or_true]⟩
     ·rintro⟨h1,h2⟩
      rw [hres v h1.1,Bool.or_eq_true]at h2
      rcases h2 with h2|h2
      ·exact .inl ⟨⟨h1.1,hsub v h1.1 h2⟩,h2⟩
      ·exact .inr ((haw v h1.1).1 h2)
    ·constructor
     ·rintro⟨h1,h2⟩
      have h3:=(hRD2 v).1 h1
      refine⟨h3.1,?_⟩
      rw [hres v h1.1,h2,Bool.eq_false_iff.2 fun e=>h3.2 ((haw v h1.1).1 e)]
      rfl
     ·rintro⟨h1,h2⟩
      rw [hres v h1.1,Bool.or_eq_false_iff]at h2
      refine⟨(hRD2 v).2 ⟨h1,fun h=> ?_⟩,h2.1⟩
      have :=(haw v h1.1).2 h
      rw [h2.2]at this
      cases this
  ·rw [if_neg ha]
   have hnl: ∀v,v<n→¬gb lost v=true:=fun v hv h=>ha (vS.2 ⟨v,hv,h⟩)
   have hall: ∀s,xi (pgL x) who (inD n rest) (inD n rest) s→∃s',xi (pgL x) who (inD n inn) (inD n inn) s':=fun s h=>by
    refine zFn (top:=top.toNat) hn hl (fun v hv=> ?_) ?_ (s:=s) ?_
    ·have :=hmax v hv.1 hv.2
     have :=hx.pr v hv.1
     show(gi x.prio v).toNat≤_
     omega
    ·rw [←hW,Va (by omega)];omega
    ·refine yP h (fun v=> ?_) (fun v=> ?_)<;>(rw [hRD,Qe fun v hv=>hgoal v hv])
   rcases hw2 with e|e
   ·subst e
    obtain⟨⟨s,hs⟩,-⟩:=ih
    obtain⟨s',hs'⟩:=hall s (yP hs (fun v=>Iff.rfl) fun v=>⟨fun h=>h.1,fun h=>⟨h,by have :=hnl v h.1;rw [hlost v h.1]at this;have h5:=h.2;cases hlv:gb low v<;>simp_all⟩⟩)
    refine⟨⟨s',yP hs' (fun v=>Iff.rfl) fun v=>⟨fun h=>⟨h,by rw [yX h.1];unfold Zf;rw [h.2];rfl⟩,fun h=>h.1⟩⟩,ZG _ _ _ _ fun v h=> ?_⟩
    have h5:=h.2
    rw [yX h.1.1]at h5
    unfold Zf at h5
    rw [h.1.2]at h5
    cases h5
   ·subst e
    obtain⟨-,⟨s,hs⟩⟩:=ih
    obtain⟨s',hs'⟩:=hall s (yP hs (fun v=>Iff.rfl) fun v=>⟨fun h=>h.1,fun h=>⟨h,by have :=hnl v h.1;rw [hlost v h.1]at this;have h5:=h.2;cases hlv:gb low v<;>simp_all⟩⟩)
    refine⟨ZG _ _ _ _ fun v h=> ?_,⟨s',yP hs' (fun v=>Iff.rfl) fun v=>⟨fun h=>⟨h,by rw [yX h.1];unfold Zf;rw [h.2];rfl⟩,fun h=>h.1⟩⟩⟩
    have h5:=h.2
    rw [yX h.1.1]at h5
    unfold Zf at h5
    rw [h.1.2]at h5
    cases h5
end
end Go.Proofs.YtcleaokoimhedaaGreat
