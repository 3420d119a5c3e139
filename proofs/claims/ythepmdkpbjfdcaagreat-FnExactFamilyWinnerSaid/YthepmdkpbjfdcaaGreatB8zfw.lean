/- The attractor, as the reference reckons it: the walk -/
import Derived.Test.YthepmdkpbjfdcaaGreatB7zfw
import Derived.Test.YthepmdkpbjfdcaaGreatB6zfw
import Derived.Test.YthepmdkpbjfdcaaGreatGDzfw
namespace Go.Proofs.YthepmdkpbjfdcaaGreat
open Nat renaming reduceMod → zA, reduceMul → zB, reduceDiv → zC, reduceAdd → zD, reduceSub → zE, reduceEqDiff → zF, reduceBEq → zG, reduceLT → zH, reduceLeDiff → zI
open Go.RowKit
set_option linter.unusedVariables false
set_option linter.unusedSimpArgs false
theorem zCP {b:Bool}{P:Prop}(h1:b=true)(h2:b=false):P:=by rw [h1]at h2;cases h2
theorem vV {xs:List Int}{u:Int}:yD xs u=true↔∃i,i<xs.length∧gi xs i=u:=by
 rw [xD]
 constructor
 ·intro h
  obtain⟨i,hi⟩:=List.getElem?_of_mem h
  have hl:i<xs.length:=(List.getElem?_eq_some_iff.1 hi).1
  refine⟨i,hl,?_⟩
  have :=vC hl
  rw [hi]at this
  exact(Option.some.inj this).symm
 ·rintro⟨i,hi,rfl⟩
  exact List.mem_of_getElem? (vC hi)
theorem wZ {xs:List Int}{k i:Nat}(h:i<k):gi (xs.take k) i=gi xs i:=by
 unfold gi
 rw [List.getD_eq_getElem?_getD,List.getD_eq_getElem?_getD,List.getElem?_take,if_pos h]
theorem ZP {xs:List Int}{k:Nat}(h:k<xs.length)(u:Int):yD (xs.take (k+1)) u=(yD (xs.take k) u||decide (u=gi xs k)):=by
 rw [Bool.eq_iff_iff,Bool.or_eq_true,decide_eq_true_eq,vV,vV]
 constructor
 ·rintro⟨i,hi,e⟩
  rw [List.length_take]at hi
  rw [wZ (by omega)]at e
  by_cases hk:i=k
  ·subst hk;exact .inr e.symm
  ·exact .inl ⟨i,by rw [List.length_take];omega,by rw [wZ (by omega)];exact e⟩
 ·rintro(⟨i,hi,e⟩|e)
  ·rw [List.length_take]at hi
   rw [wZ (by omega)]at e
   exact⟨i,by rw [List.length_take];omega,by rw [wZ (by omega)];exact e⟩
  ·exact⟨k,by rw [List.length_take];omega,by rw [wZ (by omega)];exact e.symm⟩
def PK (x:L7)(qi:List Int)(u0:Int)(k:Nat)(v:Nat)(u:Int):Bool:=yD qi u||(decide (u=u0)&&yD ((gl x.prev u0.toNat).take k) (v:Int))
theorem PK_s {x:L7}{qi:List Int}{u0:Int}{k:Nat}(hk:k<(gl x.prev u0.toNat).length)(h0:0≤gi (gl x.prev u0.toNat) k)(v:Nat)(u:Int):PK x qi u0 (k+1) v u=(PK x qi u0 k v u||(decide (v=(gi (gl x.prev u0.toNat) k).toNat)&&decide (u=u0))):=by
 unfold PK
 rw [ZP hk,Bool.eq_iff_iff]
 simp only [Bool.or_eq_true,Bool.and_eq_true,decide_eq_true_eq]
 have :((v:Int)=gi (gl x.prev u0.toNat) k)↔v=(gi (gl x.prev u0.toNat) k).toNat:=by omega
 rw [this]
 constructor
 ·rintro(h|⟨h1,h2|h2⟩)
  ·exact .inl (.inl h)
  ·exact .inl (.inr ⟨h1,h2⟩)
  ·exact .inr ⟨h2,h1⟩
 ·rintro((h|h)|h)
  ·exact .inl h
  ·exact .inr ⟨h.1, .inl h.2⟩
  ·exact .inr ⟨h.2, .inr h.1⟩
section
variable {x:L7} {n:Nat} {inn goal out:List Bool} {who:Int} {left queue:List Int}
theorem zDy {P:Nat→Int→Bool}(hx:x.Ok n)(h:AtI x n inn who goal out left queue P){i:Nat}(hi:i<queue.length){k:Nat}(hk:k<(gl x.prev (gi queue i).toNat).length):PK x (queue.take i) (gi queue i) k (gi (gl x.prev (gi queue i).toNat) k).toNat (gi queue i)=false:=by
 have hr:=h.qrg i hi
 have hp:=hx.pin (gi queue i).toNat (by omega) k hk
 unfold PK
 rw [Bool.or_eq_false_iff,Bool.and_eq_false_iff]
 refine⟨Bool.eq_false_iff.2 fun e=> ?_, .inr (Bool.eq_false_iff.2 fun e=> ?_)⟩
 ·obtain⟨j,hj,e2⟩:=vV.1 e
  rw [List.length_take]at hj
  rw [wZ (by omega)]at e2
  exact h.qnd j i (by omega) hi e2
 ·obtain⟨j,hj,e2⟩:=vV.1 e
  rw [List.length_take]at hj
  rw [wZ (by omega),Int.toNat_of_nonneg hp.1.1]at e2
  exact hx.pnd (gi queue i).toNat (by omega) j k (by omega) hk e2
theorem Ul {i:Nat}(h:AtI x n inn who goal out left queue (fun _ u=>yD (queue.take i) u)):AtI x n inn who goal out left queue (PK x (queue.take i) (gi queue i) 0):=
 h.cong fun v hv j hj=>by
  unfold PK
  have :yD ((gl x.prev (gi queue i).toNat).take 0) (v:Int)=false:=rfl
  rw [this,Bool.and_false,Bool.or_false]
theorem zDx (hx:x.Ok n){i:Nat}(hi:i<queue.length){qi:List Int}(hq:queue.take i=qi){u0:Int}(hu:gi queue i=u0){k:Nat}(hk:k=(gl x.prev u0.toNat).length)(h:AtI x n inn who goal out left queue (PK x qi u0 k)):AtI x n inn who goal out left queue (fun _ u=>yD (queue.take (i+1)) u):=
 h.cong fun v hv j hj=>by
  subst hu;subst hq;subst hk
  rw [ZP hi]
  unfold PK
  rw [List.take_length]
  by_cases e:gi (gl x.next v) j=gi queue i
  ·obtain⟨m,hm,e2⟩:=hx.pal v hv j hj
   rw [e]at hm e2
   have :yD (gl x.prev (gi queue i).toNat) (v:Int)=true:=vV.2 ⟨m,hm,e2⟩
   rw [this,decide_eq_true e]
   rfl
  ·rw [decide_eq_false e];rfl
theorem AtI.qle {P:Nat→Int→Bool}(h:AtI x n inn who goal out left queue P):queue.length≤n:=by
 have hl:((List.range queue.length).map fun j=>(gi queue j).toNat).length=queue.length:=by simp
 rw [←hl]
 have hnd:((List.range queue.length).map fun j=>(gi queue j).toNat).Nodup:=by
  rw [List.nodup_iff_pairwise_ne,List.pairwise_map]
  refine List.Pairwise.imp_of_mem ?_ (List.pairwise_lt_range)
  intro a b ha hb hab e
  have h1:=h.qrg a (List.mem_range.1 ha)
  have h2:=h.qrg b (List.mem_range.1 hb)
  exact h.qnd a b hab (List.mem_range.1 hb) (by omega)
 have :=List.Nodup.length_le_of_subset (l₂:=List.range n) hnd (fun y hy=>by
  obtain⟨j,hj,rfl⟩:=List.mem_map.1 hy
  have :=h.qrg j (List.mem_range.1 hj)
  exact List.mem_range.2 (by omega))
 simpa using this
theorem AtI.qin {P:Nat→Int→Bool}(h:AtI x n inn who goal out left queue P){i:Nat}(hi:i<queue.length):(0≤gi queue i∧gi queue i<n)∧gb out (gi queue i).toNat=true∧gb inn (gi queue i).toNat=true:=by
 have hr:=h.qrg i hi
 have ho:=(h.qout (gi queue i).toNat (by omega)).2 ⟨i,hi,by omega⟩
 exact⟨hr,ho,(h.sound _ (by omega) ho).inD.2⟩
theorem AtI.end' (hx:x.Ok n)(h:AtI x n inn who goal out left queue (fun _ u=>yD (queue.take queue.length) u)):out=yX x n inn who goal:=
 h.result hx fun v hv j hj hb=>by
  have hto:=hx.to v hv j hj
  obtain⟨i,hi,e⟩:=(h.qout _ (by omega)).1 hb
  rw [List.take_length]
  exact vV.2 ⟨i,hi,by omega⟩
theorem At0.next {k:Nat}(h:At0 x n inn goal k out left queue)(hk:k<n):
  (gb inn k=false→At0 x n inn goal (k+1) out left queue)∧(gb inn k=true→gb goal k=false→At0 x n inn goal (k+1) out (left.set k (ve x inn k)) queue)∧
  (gb inn k=true→gb goal k=true→At0 x n inn goal (k+1) (out.set k true) (left.set k (ve x inn k)) (queue++ [(k:Int)])):=by
 have hll:k<left.length:=by rw [h.ll];exact hk
 have hlo:k<out.length:=by rw [h.lo];exact hk
 have hlef:gb inn k=true→∀v,v<k+1→gb inn v=true→gi (left.set k (ve x inn k)) v=ve x inn v:=fun _ v hv hb=>by
  rw [qN hll]
  split
  ·rename_i e;rw [e]
  ·exact h.lef v (by omega) hb
 have hq2: ∀i,i<queue.length→0≤gi queue i∧gi queue i<((k+1:Nat):Int):=fun i hi=>by have :=h.qrg i hi;omega
 have hstay:(gb inn k&&gb goal k)=false→∀v,v<n→gb out v=(decide (v<k+1)&&(gb inn v&&gb goal v)):=fun hb v hv=>by
  rw [h.outs v hv]
  by_cases e:v=k
  ·rw [e,hb,Bool.and_false,Bool.and_false]
  ·have :decide (v<k)=decide (v<k+1):=decide_eq_decide.2 (by omega)
   rw [this]
 refine⟨fun h1=>⟨h.lo,h.ll,by have :=h.lq;omega,hq2,h.qnd,h.qout,hstay (by rw [h1];rfl),fun v hv hb=> ?_⟩,fun h1 h2=>⟨h.lo,by rw [List.length_set];exact h.ll,by have :=h.lq;omega,hq2,h.qnd,h.qout,hstay (by rw [h2,Bool.and_false]),hlef h1⟩,fun h1 h2=> ?_⟩
 ·refine h.lef v ?_ hb
  rcases Nat.lt_or_ge v k with h5|h5
  ·exact h5
  ·rw [show v=k by omega,h1]at hb;cases hb
 ·have hql:(queue++ [(k:Int)]).length=queue.length+1:=by simp
  have hqs: ∀j,j<queue.length+1→gi (queue++ [(k:Int)]) j=if j=queue.length then(k:Int)else gi queue j:=fun j hj=>by
   split
   ·rename_i e;rw [e];unfold gi;rw [List.getD_eq_getElem?_getD,List.getElem?_append_right (Nat.le_refl _)];simp
   ·unfold gi;rw [List.getD_eq_getElem?_getD,List.getElem?_append_left (by omega),List.getD_eq_getElem?_getD]
  refine⟨by rw [List.length_set];exact h.lo,by rw [List.length_set];exact h.ll,by rw [hql];have :=h.lq;omega,fun i hi=> ?_,fun i j hij hj=> ?_,fun v hv=> ?_,fun v hv=> ?_,hlef h1⟩
  ·rw [hql]at hi
   rw [hqs i hi]
   split
   ·omega
   ·exact hq2 i (by omega)
  ·rw [hql]at hj
   rw [hqs i (by omega),hqs j hj,if_neg (by omega)]
   split
   ·have :=h.qrg i (by omega);omega
   ·exact h.qnd i j hij (by omega)
  ·rw [ZN hlo,hql]
   constructor
   ·intro hb
    split at hb
    ·rename_i e;exact⟨queue.length,by omega,by rw [hqs _ (by omega),if_pos rfl,e]⟩
    ·obtain⟨i,hi,e⟩:=(h.qout v hv).1 hb
     exact⟨i,by omega,by rw [hqs i (by omega),if_neg (by omega)];exact e⟩
   ·rintro⟨i,hi,e⟩
    rw [hqs i hi]at e
    split at e
    ·rw [if_pos (by omega)]
    ·split
     ·rfl
     ·exact(h.qout v hv).2 ⟨i,by omega,e⟩
  ·rw [ZN hlo]
   split
   ·rename_i e;rw [e,h1,h2,decide_eq_true (by omega)];rfl
   ·rename_i e
    rw [h.outs v hv]
    have :decide (v<k)=decide (v<k+1):=decide_eq_decide.2 (by omega)
    rw [this]
end
set_option maxRecDepth 20000 in
set_option maxHeartbeats 8000000 in
theorem We (x:L7)(inn:List Bool)(hx:x.Ok inn.length)(who:Int)(goal:List Bool)(hg9:goal.length=inn.length):Fn Tryz.prog tyT 155 [.agg (dL7 x), .c (.lst 4 (dB inn)), .c (.int .i64 who), .c (.lst 4 (dB goal))] [.c (.lst 4 (dB (yX x inn.length inn who goal)))]:=by
 have hn1:=hx.hn
 have hn2:=hx.ho
 have hn3:=hx.hp
 have hn4:=hx.hx
 have hn5:=hx.hv
 have hn6:=hx.hk
 have hDg:=fun v hv=>zBr x inn.length hx inn rfl v hv
 have hEd:=fun v u hv=>uj x inn.length hx v u hv
 have hatl:=wC x inn.length inn who goal
 generalize hR:yX x inn.length inn who goal=R at hatl⊢
 unfold dL7 at hDg hEd⊢
 refine zr (fn:=Tryz.f155) (ts:= [8]) Tryz.func155 (by kernel_rfl) rfl rfl (by rw [Tryz.ntmps155];exact Nat.le_of_ble_eq_true rfl) rfl (by simp only [szA,List.mem_cons,List.not_mem_nil,or_false,forall_eq_or_imp,forall_eq,VT.cells,szL];try decide) ?_
 rw [Tryz.ntmps155]
 push_cast [↓zK,↓zJ]
 refine zL fun K hK=> ?_
 refine zM zO zN [] rfl ?_
 all_goals push_cast [↓zK,↓zJ]
 all_goals repeat'(first|(apply zP<;>(intro hg;(try simp only [push_cast]at hg)))|apply And.intro|(intro hg;(try simp only [push_cast]at hg)))
 all_goals first|exact gA|(exact zS (by omega))|skip
 all_goals(refine hK _ ?_;clear hK K)
 refine zL fun K hK=> ?_
 refine zM zO zN [] rfl ?_
 all_goals push_cast [↓zK,↓zJ]
 all_goals repeat'(first|(apply zP<;>(intro hg;(try simp only [push_cast]at hg)))|apply And.intro|(intro hg;(try simp only [push_cast]at hg)))
 all_goals first|exact gA|(exact zS (by omega))|skip
 all_goals(refine hK _ ?_;clear hK K)
 refine zL fun K hK=> ?_
 refine zM zO zN [] rfl ?_
 all_goals push_cast [↓zK,↓zJ]
 all_goals repeat'(first|(apply zP<;>(intro hg;(try simp only [push_cast]at hg)))|apply And.intro|(intro hg;(try simp only [push_cast]at hg)))
 all_goals first|exact gA|(exact zS (by omega))|skip
 all_goals(refine hK _ ?_;clear hK K)
 refine zL fun K hK=> ?_
 refine zM zO zN [] rfl ?_
 all_goals push_cast [↓zK,↓zJ]
 all_goals repeat'(first|(apply zP<;>(intro hg;(try simp only [push_cast]at hg)))|apply And.intro|(intro hg;(try simp only [push_cast]at hg)))
 all_goals first|exact gA|(exact zS (by omega))|skip
 all_goals(refine hK _ ?_;clear hK K)
 refine zL fun K1 hK1=> ?_
 refine zL fun K hK=> ?_
 refine zM zO zN [] rfl ?_
 all_goals push_cast [↓zK,↓zJ]
 all_goals repeat'(first|(apply zP<;>(intro hg;(try simp only [push_cast]at hg)))|apply And.intro|(intro hg;(try simp only [push_cast]at hg)))
 all_goals first|exact gA|(exact zS (by omega))|skip
 all_goals(refine hK _ ?_;clear hK K)
 refine zV ?_
 refine zh [11,12,24,25,26,27,28,29,30,31,32,33,34,35,36,37,38,39,40,41,42,43,44,45,46,47,48,49,50,51,52,53,54,55,56,57] [144,160,176] (fun(p:Nat×List Bool×List Int×List Int)=> [(12, .int .i64 p.1),(9, .sl 144 [] 0 inn.length 4),(10, .sl 160 [] 0 inn.length 2),(11, .sl 176 [] 0 p.2.2.2.length 2)]) (fun p=> []) (fun p=> [(144,⟨.ex,4,dB p.2.1,none⟩),(160,⟨.ex,2,dI p.2.2.1,none⟩),(176,⟨.ex,2,dI p.2.2.2,none⟩)]) (fun p=>p.1≤inn.length∧At0 x inn.length inn goal p.1 p.2.1 p.2.2.1 p.2.2.2) (fun p=>inn.length - p.1) (0,List.replicate inn.length false,List.replicate inn.length 0,[]) ?_ ⟨by omega,At0.start inn.length inn goal⟩ ?_
 ·
  rw [show dI ([]:List Int)= []from rfl]
  skip
  refine zX rfl ?_ ?_ ?_<;>push_cast [zg,zf,↓zK,↓zJ]
 ·rintro⟨v,out,left,queue⟩ ⟨hv,h0⟩ KL0 hL0
  dsimp only at hv h0
  push_cast [↓zK,↓zJ]
  refine zL fun K2 hK2=> ?_
  refine zL fun K hK=> ?_
  refine zM zO zN [] rfl ?_
  all_goals push_cast [↓zK,↓zJ]
  all_goals repeat'(first|(apply zP<;>(intro hg;(try simp only [push_cast]at hg)))|apply And.intro|(intro hg;(try simp only [push_cast]at hg)))
  all_goals first|exact gA|(exact zS (by omega))|skip
  all_goals(refine hK _ ?_;clear hK K)
  refine zT rfl (fun hc=> ?_) (fun hc=> ?_)<;>(try simp only [push_cast]at hc)
  ·
   refine zU ?_
   refine hK2 _ ?_
   refine zL fun K3 hK3=> ?_
   refine zV ?_
   refine zL fun K4 hK4=> ?_
   have hl0:=h0.lo
   have hl1:=h0.ll
   have hl2:=h0.lq
   have hnx:=At0.next h0 (by omega)
   refine zL fun K hK=> ?_
   refine zM zO zN [] rfl ?_
   all_goals push_cast [↓zK,↓zJ]
   all_goals repeat'(first|(apply zP<;>(intro hg;(try simp only [push_cast]at hg)))|apply And.intro|(intro hg;(try simp only [push_cast]at hg)))
   all_goals first|exact gA|(exact zS (by omega))|skip
   all_goals(refine hK _ ?_;clear hK K)
   refine zT rfl (fun hc=> ?_) (fun hc=> ?_)<;>(try simp only [push_cast]at hc)
   ·
    refine zM zO zN [] rfl ?_
    all_goals refine zl 6 fun K9 hK9=> ?_
    all_goals push_cast [↓zK,↓zJ]
    all_goals repeat'(first|(apply zP<;>(intro hg;(try simp only [push_cast]at hg)))|(refine⟨_,hDg v (by omega),?_⟩;push_cast [↓zK,↓zJ])|apply And.intro|(intro hg;(try simp only [push_cast]at hg)))
    all_goals first|exact gA|(exact zS (by omega))|skip
    all_goals(refine hK9 _ ?_;clear hK9 K9)
    all_goals push_cast [↓zK,↓zJ]
    all_goals repeat'(first|(apply zP<;>(intro hg;(try simp only [push_cast]at hg)))|(refine⟨_,hDg v (by omega),?_⟩;push_cast [↓zK,↓zJ])|apply And.intro|(intro hg;(try simp only [push_cast]at hg)))
    all_goals first|exact gA|(exact zS (by omega))|skip
    refine hK4 _ ?_
    refine zL fun K hK=> ?_
    refine zj false zO zN ?_ rfl ?_
    ·kernel_rfl
    all_goals push_cast [↓zK,↓zJ]
    all_goals repeat'(first|(apply zP<;>(intro hg;(try simp only [push_cast]at hg)))|apply And.intro|(intro hg;(try simp only [push_cast]at hg)))
    all_goals first|exact gA|(exact zCP (b:=gb inn v) (by with_reducible assumption) (by with_reducible assumption))|(exact zS (by omega))|skip
    all_goals(refine hK _ ?_;clear hK K)
    all_goals refine zT rfl (fun hc=> ?_) (fun hc=> ?_)
    all_goals(first|(cases hc;done)|skip)
    all_goals(try simp only [push_cast]at hc)
    all_goals first
     |(
       refine zU ?_
       refine hK3 _ ?_
       refine zM zO zN [] rfl ?_
       all_goals push_cast [↓zK,↓zJ]
       all_goals repeat'(first|(apply zP<;>(intro hg;(try simp only [push_cast]at hg)))|apply And.intro|(intro hg;(try simp only [push_cast]at hg)))
       all_goals first|exact gA|(exact zS (by omega))|skip
       refine hL0 _ ⟨(v+1,out,left.set v (ve x inn v),queue),⟨by dsimp only;omega,hnx.2.1 (by with_reducible assumption) (by with_reducible assumption)⟩,by dsimp only;omega,?_⟩
       skip
       refine zX rfl ?_ ?_ ?_<;>push_cast [zg,zf,↓zK,↓zJ]
       done)
     |(
       refine zL fun K hK=> ?_
       refine zM zO zN [] rfl ?_
       all_goals push_cast [↓zK,↓zJ]
       all_goals repeat'(first|(apply zP<;>(intro hg;(try simp only [push_cast]at hg)))|apply And.intro|(intro hg;(try simp only [push_cast]at hg)))
       all_goals first|exact gA|(exact zS (by omega))|skip
       all_goals(refine hK _ ?_;clear hK K)
       refine zM zO zN [] rfl ?_
       all_goals push_cast [↓zK,↓zJ]
       all_goals repeat'(first|(apply zP<;>(intro hg;(try simp only [push_cast]at hg)))|apply And.intro|(intro hg;(try simp only [push_cast]at hg)))
       all_goals first|exact gA|(exact zS (by omega))|skip
       refine hK3 _ ?_
       refine zM zO zN [] rfl ?_
       all_goals push_cast [↓zK,↓zJ]
       all_goals repeat'(first|(apply zP<;>(intro hg;(try simp only [push_cast]at hg)))|apply And.intro|(intro hg;(try simp only [push_cast]at hg)))
       all_goals first|exact gA|(exact zS (by omega))|skip
       refine hL0 _ ⟨(v+1,out.set v true,left.set v (ve x inn v),queue++ [(v:Int)]),⟨by dsimp only;omega,hnx.2.2 (by with_reducible assumption) (by with_reducible assumption)⟩,by dsimp only;omega,?_⟩
       (try rw [List.take_of_length_le (l:=queue) (by omega)])
       simp only [List.length_append,List.length_cons,List.length_nil,Nat.zero_add]
       refine zX rfl ?_ ?_ ?_<;>push_cast [zg,zf,↓zK,↓zJ]
       done)
   ·
    refine zU ?_
    refine hK4 _ ?_
    refine zL fun K hK=> ?_
    refine zj false zO zN ?_ rfl ?_
    ·kernel_rfl
    all_goals push_cast [↓zK,↓zJ]
    all_goals repeat'(first|(apply zP<;>(intro hg;(try simp only [push_cast]at hg)))|apply And.intro|(intro hg;(try simp only [push_cast]at hg)))
    all_goals first|exact gA|(exact zCP (b:=gb inn v) (by with_reducible assumption) (by with_reducible assumption))|(exact zS (by omega))|skip
    all_goals(refine hK _ ?_;clear hK K)
    all_goals refine zT rfl (fun hc=> ?_) (fun hc=> ?_)
    all_goals(first|(cases hc;done)|skip)
    all_goals(try simp only [push_cast]at hc)
    all_goals first
     |(
       refine zU ?_
       refine hK3 _ ?_
       refine zM zO zN [] rfl ?_
       all_goals push_cast [↓zK,↓zJ]
       all_goals repeat'(first|(apply zP<;>(intro hg;(try simp only [push_cast]at hg)))|apply And.intro|(intro hg;(try simp only [push_cast]at hg)))
       all_goals first|exact gA|(exact zS (by omega))|skip
       refine hL0 _ ⟨(v+1,out,left,queue),⟨by dsimp only;omega,hnx.1 (by with_reducible assumption)⟩,by dsimp only;omega,?_⟩
       skip
       refine zX rfl ?_ ?_ ?_<;>push_cast [zg,zf,↓zK,↓zJ]
       done)
     |(
       refine zL fun K hK=> ?_
       refine zM zO zN [] rfl ?_
       all_goals push_cast [↓zK,↓zJ]
       all_goals repeat'(first|(apply zP<;>(intro hg;(try simp only [push_cast]at hg)))|apply And.intro|(intro hg;(try simp only [push_cast]at hg)))
       all_goals first|exact gA|(exact zS (by omega))|skip
       all_goals(refine hK _ ?_;clear hK K)
       refine zM zO zN [] rfl ?_
       all_goals push_cast [↓zK,↓zJ]
       all_goals repeat'(first|(apply zP<;>(intro hg;(try simp only [push_cast]at hg)))|apply And.intro|(intro hg;(try simp only [push_cast]at hg)))
       all_goals first|exact gA|(exact zS (by omega))|skip
       refine hK3 _ ?_
       refine zM zO zN [] rfl ?_
       all_goals push_cast [↓zK,↓zJ]
       all_goals repeat'(first|(apply zP<;>(intro hg;(try simp only [push_cast]at hg)))|apply And.intro|(intro hg;(try simp only [push_cast]at hg)))
       all_goals first|exact gA|(exact zS (by omega))|skip
       refine hL0 _ ⟨(v+1,out,left,queue),⟨by dsimp only;omega,hnx.1 (by with_reducible assumption)⟩,by dsimp only;omega,?_⟩
       skip
       refine zX rfl ?_ ?_ ?_<;>push_cast [zg,zf,↓zK,↓zJ]
       done)
  ·
   refine zi ?_
   have hkk:v=inn.length:=by omega
   subst hkk
   have hA0:=h0.inv (who:=who) hx
   refine hK1 _ ?_
   refine zL fun K5 hK5=> ?_
   refine zL fun K hK=> ?_
   refine zM zO zN [] rfl ?_
   all_goals push_cast [↓zK,↓zJ]
   all_goals repeat'(first|(apply zP<;>(intro hg;(try simp only [push_cast]at hg)))|apply And.intro|(intro hg;(try simp only [push_cast]at hg)))
   all_goals first|exact gA|(exact zS (by omega))|skip
   all_goals(refine hK _ ?_;clear hK K)
   refine zV ?_
   refine zh [11,13,14,15,16,45,58,59,60,61,62,63,64,65,66,67,68,69,70,71,72,73,74,75,76,77,78,79,80,81,82,83,84,85,86,87,88,89,90,91,92,93,94,95,96,97,98,99,100,101,102,103,104,105,106,107,108,109,110,111,112,113,114,115,116,117,118,119,120,121,122,123,124,125,126,127,128,129,130] [144,160,176] (fun(p:Nat×List Bool×List Int×List Int)=> [(13, .int .i64 p.1),(9, .sl 144 [] 0 inn.length 4),(10, .sl 160 [] 0 inn.length 2),(11, .sl 176 [] 0 p.2.2.2.length 2)]) (fun p=> []) (fun p=> [(144,⟨.ex,4,dB p.2.1,none⟩),(160,⟨.ex,2,dI p.2.2.1,none⟩),(176,⟨.ex,2,dI p.2.2.2,none⟩)]) (fun p=>p.1≤p.2.2.2.length∧AtI x inn.length inn who goal p.2.1 p.2.2.1 p.2.2.2 (fun _ u=>yD (p.2.2.2.take p.1) u)) (fun p=>inn.length - p.1) (0,out,left,queue) ?_ ⟨by dsimp only;omega,hA0⟩ ?_
   ·
    refine zX rfl ?_ ?_ ?_<;>push_cast [zg,zf,↓zK,↓zJ]
   ·rintro⟨i,out,left,queue⟩ ⟨hv,hA⟩ KL1 hL1
    dsimp only at hv hA
    push_cast [↓zK,↓zJ]
    refine zL fun K6 hK6=> ?_
    have hl0:=hA.lo
    have hl1:=hA.ll
    have hql:=hA.qle
    refine zL fun K hK=> ?_
    refine zM zO zN [] rfl ?_
    all_goals push_cast [↓zK,↓zJ]
    all_goals repeat'(first|(apply zP<;>(intro hg;(try simp only [push_cast]at hg)))|apply And.intro|(intro hg;(try simp only [push_cast]at hg)))
    all_goals first|exact gA|(exact zS (by omega))|skip
    all_goals(refine hK _ ?_;clear hK K)
    refine zT rfl (fun hc=> ?_) (fun hc=> ?_)<;>(try simp only [push_cast]at hc)
    ·
     refine zU ?_
     refine hK6 _ ?_
     refine zL fun K7 hK7=> ?_
     refine zV ?_
     have hqi:=hA.qin (i:=i) (by omega)
     skip
     refine zL fun K hK=> ?_
     refine zM zO zN [] rfl ?_
     all_goals push_cast [↓zK,↓zJ]
     all_goals repeat'(first|(apply zP<;>(intro hg;(try simp only [push_cast]at hg)))|apply And.intro|(intro hg;(try simp only [push_cast]at hg)))
     all_goals first|exact gA|(exact zS (by omega))|skip
     all_goals(refine hK _ ?_;clear hK K)
     refine zL fun K hK=> ?_
     refine zM zO zN [] rfl ?_
     all_goals push_cast [↓zK,↓zJ]
     all_goals repeat'(first|(apply zP<;>(intro hg;(try simp only [push_cast]at hg)))|apply And.intro|(intro hg;(try simp only [push_cast]at hg)))
     all_goals first|exact gA|(exact zS (by omega))|skip
     all_goals(refine hK _ ?_;clear hK K)
     refine zV ?_
     obtain⟨qi,hqi0⟩: ∃qi,queue.take i=qi:=⟨_,rfl⟩
     obtain⟨u0,hu0⟩: ∃u0,gi queue i=u0:=⟨_,rfl⟩
     rw [hu0]
     rw [hu0]at hqi
     have hAb:=Ul hA
     rw [hu0,hqi0]at hAb
     refine zh [11,15,16,45,59,64,66,68,69,70,71,72,73,74,75,76,77,78,79,80,81,82,83,84,85,86,87,88,89,90,91,92,93,94,95,96,97,98,99,100,101,102,103,104,105,106,107,108,109,110,111,112,113,114,115,116,117,118,119,120,121,122,123,124,125,126,127,128,129,130] [144,160,176] (fun(p:Nat×List Bool×List Int×List Int)=> [(15, .int .i64 p.1),(9, .sl 144 [] 0 inn.length 4),(10, .sl 160 [] 0 inn.length 2),(11, .sl 176 [] 0 p.2.2.2.length 2)]) (fun p=> []) (fun p=> [(144,⟨.ex,4,dB p.2.1,none⟩),(160,⟨.ex,2,dI p.2.2.1,none⟩),(176,⟨.ex,2,dI p.2.2.2,none⟩)]) (fun p=>p.1≤(gl x.prev u0.toNat).length∧AtI x inn.length inn who goal p.2.1 p.2.2.1 p.2.2.2 (PK x qi u0 p.1)∧p.2.2.2.take i=qi∧gi p.2.2.2 i=u0∧i<p.2.2.2.length) (fun p=>(gl x.prev u0.toNat).length - p.1) (0,out,left,queue) ?_ ⟨by dsimp only;omega,hAb,hqi0,hu0,by dsimp only;omega⟩ ?_
     ·
      refine zX rfl ?_ ?_ ?_<;>push_cast [zg,zf,↓zK,↓zJ]
     ·rintro⟨k,out,left,queue⟩ ⟨hk,hA2,hq2,hu2,hil⟩ KL2 hL2
      dsimp only at hk hA2 hq2 hu2 hil
      push_cast [↓zK,↓zJ]
      refine zL fun K8 hK8=> ?_
      have hl0:=hA2.lo
      have hl1:=hA2.ll
      have hql:=hA2.qle
      have hpl:=hx.dpv u0.toNat (by omega)
      refine zL fun K hK=> ?_
      refine zM zO zN [] rfl ?_
      all_goals push_cast [↓zK,↓zJ]
      all_goals repeat'(first|(apply zP<;>(intro hg;(try simp only [push_cast]at hg)))|apply And.intro|(intro hg;(try simp only [push_cast]at hg)))
      all_goals first|exact gA|(exact zS (by omega))|skip
      all_goals(refine hK _ ?_;clear hK K)
      refine zT rfl (fun hc=> ?_) (fun hc=> ?_)<;>(try simp only [push_cast]at hc)
      ·
       refine zU ?_
       refine hK8 _ ?_
       refine zL fun K9 hK9=> ?_
       refine zV ?_
       refine zL fun K hK=> ?_
       refine zM zO zN [] rfl ?_
       all_goals push_cast [↓zK,↓zJ]
       all_goals repeat'(first|(apply zP<;>(intro hg;(try simp only [push_cast]at hg)))|apply And.intro|(intro hg;(try simp only [push_cast]at hg)))
       all_goals first|exact gA|(exact zS (by omega))|skip
       all_goals(refine hK _ ?_;clear hK K)
       refine zL fun K10 hK10=> ?_
       have hp1:=hx.pin u0.toNat (by omega) k (by omega)
       have hqi2:=hA2.qin (i:=i) hil
       rw [hu2]at hqi2
       have hps:=fun v u=>PK_s (x:=x) (qi:=qi) (u0:=u0) (k:=k) (by omega) (by omega) v u
       refine zL fun K hK=> ?_
       refine zj false zO zN ?_ rfl ?_
       ·kernel_rfl
       all_goals refine yF 16 fun K9 hK9=> ?_
       all_goals push_cast [↓zK,↓zJ]
       all_goals repeat'(first|(apply zP<;>(intro hg;(try simp only [push_cast]at hg)))|(refine⟨_,hEd (gi (gl x.prev u0.toNat) k) u0 (by omega),?_⟩;push_cast [↓zK,↓zJ])|apply And.intro|(intro hg;(try simp only [push_cast]at hg)))
       all_goals first|exact gA|(exact zS (by omega))|skip
       all_goals(refine hK9 _ ?_;clear hK9 K9)
       all_goals push_cast [↓zK,↓zJ]
       all_goals repeat'(first|(apply zP<;>(intro hg;(try simp only [push_cast]at hg)))|(refine⟨_,hEd (gi (gl x.prev u0.toNat) k) u0 (by omega),?_⟩;push_cast [↓zK,↓zJ])|apply And.intro|(intro hg;(try simp only [push_cast]at hg)))
       all_goals first|exact gA|(exact zS (by omega))|skip
       all_goals(refine hK _ ?_;clear hK K)
       all_goals refine zT rfl (fun hc=> ?_) (fun hc=> ?_)
       all_goals(first|(cases hc;done)|skip)
       all_goals(try simp only [push_cast]at hc)
       all_goals first
        |(
          refine zU ?_
          refine hK10 _ ?_
          have hlb:0≤gi left (gi (gl x.prev u0.toNat) k).toNat∧gi left (gi (gl x.prev u0.toNat) k).toNat≤256:=by rw [hA2.cnt (gi (gl x.prev u0.toNat) k).toNat (by omega) (by with_reducible assumption) (by with_reducible assumption)];have h5:=JL x inn (gi (gl x.prev u0.toNat) k).toNat (PK x qi u0 k (gi (gl x.prev u0.toNat) k).toNat) (gl x.next (gi (gl x.prev u0.toNat) k).toNat).length;have h6:=hx.deg (gi (gl x.prev u0.toNat) k).toNat (by omega);omega
          have hset:gi (left.set (gi (gl x.prev u0.toNat) k).toNat (gi left (gi (gl x.prev u0.toNat) k).toNat - 1)) (gi (gl x.prev u0.toNat) k).toNat=gi left (gi (gl x.prev u0.toNat) k).toNat - 1:=by rw [qN (by omega),if_pos rfl]
          have hst:=AtI.step hx hA2 (v0:=(gi (gl x.prev u0.toNat) k).toNat) (by omega) (u0:=u0) hqi2.1 hqi2.2.1 hqi2.2.2 (by with_reducible assumption) (by with_reducible assumption) (by rw [Int.toNat_of_nonneg hp1.1.1];with_reducible assumption) (by obtain⟨j9,a9,b9⟩:=hp1.2;exact⟨j9,a9,by rw [b9];omega⟩) (by have h8:=zDy hx hA2 hil (k:=k) (by rw [hu2];omega);rw [hu2,hq2]at h8;exact h8) hps
          have hta: ∀y:Int,(queue++ [y]).take i=qi:=fun y=>by rw [List.take_append_of_le_length (by omega)];exact hq2
          have htg: ∀y:Int,gi (queue++ [y]) i=u0:=fun y=>by rw [Wb hil];exact hu2
          refine zL fun K hK=> ?_
          refine zM zO zN [] rfl ?_
          all_goals push_cast [↓zK,↓zJ]
          all_goals repeat'(first|(apply zP<;>(intro hg;(try simp only [push_cast]at hg)))|apply And.intro|(intro hg;(try simp only [push_cast]at hg)))
          all_goals first|exact gA|(exact zS (by omega))|skip
          all_goals(refine hK _ ?_;clear hK K)
          refine zL fun K hK=> ?_
          refine zj false zO zN ?_ rfl ?_
          ·kernel_rfl
          all_goals push_cast [↓zK,↓zJ]
          all_goals repeat'(first|(apply zP<;>(intro hg;(try simp only [push_cast]at hg)))|apply And.intro|(intro hg;(try simp only [push_cast]at hg)))
          all_goals first|exact gA|(rw [List.length_set];omega)|(exact zS (by omega))|skip
          all_goals(refine hK _ ?_;clear hK K)
          all_goals refine zT rfl (fun hc=> ?_) (fun hc=> ?_)
          all_goals(first|(cases hc;done)|skip)
          all_goals(try simp only [push_cast]at hc)
          all_goals first
           |(
             refine zU ?_
             refine hK9 _ ?_
             refine zM zO zN [] rfl ?_
             all_goals push_cast [↓zK,↓zJ]
             all_goals repeat'(first|(apply zP<;>(intro hg;(try simp only [push_cast]at hg)))|apply And.intro|(intro hg;(try simp only [push_cast]at hg)))
             all_goals first|exact gA|(exact zS (by omega))|skip
             refine hL2 _ ⟨(k+1,out,left.set (gi (gl x.prev u0.toNat) k).toNat (gi left (gi (gl x.prev u0.toNat) k).toNat - 1),queue),⟨by dsimp only;omega,hst.1 (by omega),hq2,hu2,hil⟩,by dsimp only;omega,?_⟩
             skip
             refine zX rfl ?_ ?_ ?_<;>push_cast [zg,zf,↓zK,↓zJ]
             done)
           |(
             refine zL fun K hK=> ?_
             refine zM zO zN [] rfl ?_
             all_goals push_cast [↓zK,↓zJ]
             all_goals repeat'(first|(apply zP<;>(intro hg;(try simp only [push_cast]at hg)))|apply And.intro|(intro hg;(try simp only [push_cast]at hg)))
             all_goals first|exact gA|(exact zS (by omega))|skip
             all_goals(refine hK _ ?_;clear hK K)
             refine zM zO zN [] rfl ?_
             all_goals push_cast [↓zK,↓zJ]
             all_goals repeat'(first|(apply zP<;>(intro hg;(try simp only [push_cast]at hg)))|apply And.intro|(intro hg;(try simp only [push_cast]at hg)))
             all_goals first|exact gA|(exact zS (by omega))|skip
             refine hK9 _ ?_
             refine zM zO zN [] rfl ?_
             all_goals push_cast [↓zK,↓zJ]
             all_goals repeat'(first|(apply zP<;>(intro hg;(try simp only [push_cast]at hg)))|apply And.intro|(intro hg;(try simp only [push_cast]at hg)))
             all_goals first|exact gA|(exact zS (by omega))|skip
             refine hL2 _ ⟨(k+1,out.set (gi (gl x.prev u0.toNat) k).toNat true,left.set (gi (gl x.prev u0.toNat) k).toNat (gi left (gi (gl x.prev u0.toNat) k).toNat - 1),queue++ [gi (gl x.prev u0.toNat) k]),⟨by dsimp only;omega,(by have h8:=hst.2 (by omega);rw [Int.toNat_of_nonneg hp1.1.1]at h8;exact h8),hta _,htg _,by simp only [List.length_append];omega⟩,by dsimp only;omega,?_⟩
             (try rw [List.take_of_length_le (l:=queue) (by omega)])
             simp only [List.length_append,List.length_cons,List.length_nil,Nat.zero_add]
             refine zX rfl ?_ ?_ ?_<;>push_cast [zg,zf,↓zK,↓zJ]
             done)
          done)
        |(
          refine zi ?_
          refine hK9 _ ?_
          refine zM zO zN [] rfl ?_
          all_goals push_cast [↓zK,↓zJ]
          all_goals repeat'(first|(apply zP<;>(intro hg;(try simp only [push_cast]at hg)))|apply And.intro|(intro hg;(try simp only [push_cast]at hg)))
          all_goals first|exact gA|(exact zS (by omega))|skip
          refine hL2 _ ⟨(k+1,out,left,queue),⟨by dsimp only;omega,hA2.skip (v0:=(gi (gl x.prev u0.toNat) k).toNat) (by omega) hqi2.2.1 (by first|exact .inl (by with_reducible assumption)|exact .inr (.inl (by with_reducible assumption))|exact .inr (.inr (by rw [Int.toNat_of_nonneg hp1.1.1];with_reducible assumption))) hps,hq2,hu2,hil⟩,by dsimp only;omega,?_⟩
          skip
          refine zX rfl ?_ ?_ ?_<;>push_cast [zg,zf,↓zK,↓zJ]
          done)
      ·
       refine zi ?_
       refine hK7 _ ?_
       refine zM zO zN [] rfl ?_
       all_goals push_cast [↓zK,↓zJ]
       all_goals repeat'(first|(apply zP<;>(intro hg;(try simp only [push_cast]at hg)))|apply And.intro|(intro hg;(try simp only [push_cast]at hg)))
       all_goals first|exact gA|(exact zS (by omega))|skip
       refine hL1 _ ⟨(i+1,out,left,queue),⟨by dsimp only;omega,zDx hx hil hq2 hu2 (by omega) hA2⟩,by dsimp only;omega,?_⟩
       refine zX rfl ?_ ?_ ?_<;>push_cast [zg,zf,↓zK,↓zJ]
    ·
     refine zi ?_
     have hie:i=queue.length:=by omega
     subst hie
     have hfin:=AtI.end' hx hA
     rw [hR]at hfin
     refine hK5 _ ?_
     refine zL fun K hK=> ?_
     refine zM zO zN [] rfl ?_
     all_goals push_cast [↓zK,↓zJ]
     all_goals repeat'(first|(apply zP<;>(intro hg;(try simp only [push_cast]at hg)))|apply And.intro|(intro hg;(try simp only [push_cast]at hg)))
     all_goals first|exact gA|(exact zS (by omega))|skip
     all_goals(refine hK _ ?_;clear hK K)
     refine zW ?_
     refine⟨Or.inl rfl,?_⟩
     push_cast [za,↓zK,↓zJ]
     rw [hfin]
     all_goals first|rfl|exact⟨rfl,hatl⟩|exact⟨rfl,hatl.symm⟩|exact hatl.symm|(simp;done)
def xF (x:L7)(inn:List Bool)(top:Int)(v:Nat):Bool:=gb inn v&&(gi x.prio v==top)
def yP (rest low:List Bool)(who:Int)(v:Nat):Bool:=gb rest v&&(gb low v !=(who==0))
def vS (l:List Bool):Nat→Bool
 |0=>false
 |k+1=>vS l k||gb l k
def wm (inn:List Bool)(who:Int)(v:Nat):Bool:=gb inn v&&(who==0)
def vl (again away:List Bool)(who:Int)(v:Nat):Bool:=gb again v||(gb away v&&(who==1))
def yY (n:Nat)(f:Nat→Bool):List Bool:=(List.range n).map f
theorem qj (n:Nat)(f:Nat→Bool):(yY n f).length=n:=by simp [yY]
theorem Qp (n:Nat)(f:Nat→Bool):mkB n f n=yY n f:=UZ n f
theorem yS {n:Nat}{f:Nat→Bool}{v:Nat}(h:v<n):gb (yY n f) v=f v:=jd h
theorem zGK {n:Nat}{f:Nat→Bool}{k:Nat}(h:k<n):gb (mkB n f (k+1)) k=gb (yY n f) k:=by
 rw [yS h]
 unfold mkB gb
 rw [List.getD_eq_getElem?_getD,List.getElem?_append_left (by simp),List.getElem?_map,List.getElem?_range (by omega)]
 rfl
theorem zAp {x:L7}{inn:List Bool}{top:Int}{k n:Nat}(hk:k<n)(h:gb inn k=true):(mkB n (xF x inn top) k).set k (gi x.prio k==top)=mkB n (xF x inn top) (k+1):=by
 rw [←qO hk];unfold xF;rw [h];rfl
theorem zCd {x:L7}{inn:List Bool}{top:Int}{k n:Nat}(hk:k<n)(h:gb inn k=false):(mkB n (xF x inn top) k).set k false=mkB n (xF x inn top) (k+1):=by
 rw [←qO hk];unfold xF;rw [h];rfl
theorem zGH {rest low:List Bool}{who:Int}{k n:Nat}(hk:k<n)(h:gb rest k=true):(mkB n (yP rest low who) k).set k (!(gb low k==(who==0)))=mkB n (yP rest low who) (k+1):=by
 rw [←qO hk];unfold yP;rw [h];rfl
theorem zHw {rest low:List Bool}{who:Int}{k n:Nat}(hk:k<n)(h:gb rest k=false):(mkB n (yP rest low who) k).set k false=mkB n (yP rest low who) (k+1):=by
 rw [←qO hk];unfold yP;rw [h];rfl
theorem zGp {inn:List Bool}{who:Int}{k n:Nat}(hk:k<n)(h:gb inn k=true):(mkB n (wm inn who) k).set k (who==0)=mkB n (wm inn who) (k+1):=by
 rw [←qO hk];unfold wm;rw [h];rfl
theorem zIV {inn:List Bool}{who:Int}{k n:Nat}(hk:k<n)(h:gb inn k=false):(mkB n (wm inn who) k).set k false=mkB n (wm inn who) (k+1):=by
 rw [←qO hk];unfold wm;rw [h];rfl
theorem zJ4 {again away:List Bool}{who:Int}{k n:Nat}(hk:k<n)(h:gb again k=true):(mkB n (vl again away who) k).set k true=mkB n (vl again away who) (k+1):=by
 rw [←qO hk];unfold vl;rw [h];rfl
theorem zJ5 {again away:List Bool}{who:Int}{k n:Nat}(hk:k<n)(h:gb again k=false)(h2:gb away k=true):(mkB n (vl again away who) k).set k (who==1)=mkB n (vl again away who) (k+1):=by
 rw [←qO hk];unfold vl;rw [h,h2];rfl
theorem zJ6 {again away:List Bool}{who:Int}{k n:Nat}(hk:k<n)(h:gb again k=false)(h2:gb away k=false):(mkB n (vl again away who) k).set k false=mkB n (vl again away who) (k+1):=by
 rw [←qO hk];unfold vl;rw [h,h2];rfl
theorem xf (a b:List Bool):(yJ a b).length=a.length:=by simp [yJ]
theorem qS {a b:List Bool}{v:Nat}(h:v<a.length):gb (yJ a b) v=(gb a v&& !gb b v):=jd h
def yk (l:List Bool):Nat→Nat
 |0=>0
 |k+1=>if gb l k then yk l k+1 else yk l k
theorem WT (l:List Bool)(k:Nat):yk l (k+1)=if gb l k=true then yk l k+1 else yk l k:=rfl
theorem kK {a b:List Bool}: ∀k,(∀v,v<k→gb a v=true→gb b v=true)→yk a k≤yk b k
 |0,_=>Nat.le_refl _
 |k+1,h=>by
  have ih:=kK k fun v hv=>h v (by omega)
  have hk:=h k (by omega)
  rw [WT,WT]
  split
  ·rename_i e;rw [if_pos (hk e)];omega
  ·split<;>omega
theorem zCR {a b:List Bool}: ∀k,(∀v,v<k→gb a v=true→gb b v=true)→(∃v,v<k∧gb a v=false∧gb b v=true)→yk a k<yk b k
 |0,_,⟨v,hv,_⟩=>absurd hv (Nat.not_lt_zero _)
 |k+1,h,⟨v,hv,h1,h2⟩=>by
  have hk:=h k (by omega)
  have hle:=kK k fun v hv=>h v (by omega)
  rw [WT,WT]
  by_cases e:v=k
  ·subst e;rw [h1,h2];exact Nat.lt_succ_of_le hle
  ·have ih:=zCR k (fun v hv=>h v (by omega)) ⟨v,by omega,h1,h2⟩
   split
   ·rename_i e;rw [if_pos (hk e)];omega
   ·split<;>omega
theorem VM (l:List Bool): ∀k,yk l k≤k
 |0=>Nat.le_refl _
 |k+1=>by
  have :=VM l k
  rw [WT]
  split<;>omega
theorem vb {l:List Bool}: ∀{k:Nat},(vS l k=true↔∃v,v<k∧gb l v=true)
 |0=>⟨fun h=>(by cases h),fun⟨v,h,_⟩=>absurd h (Nat.not_lt_zero _)⟩
 |k+1=>by
  show(vS l k||gb l k)=true↔_
  rw [Bool.or_eq_true,vb]
  constructor
  ·rintro(⟨v,hv,h⟩|h)
   ·exact⟨v,by omega,h⟩
   ·exact⟨k,by omega,h⟩
  ·rintro⟨v,hv,h⟩
   by_cases e:v=k
   ·subst e;exact .inr h
   ·exact .inl ⟨v,by omega,h⟩
noncomputable def yU (x:L7)(n:Nat):Nat→List Bool→List Bool
 |0,_=>List.replicate n false
 |f+1,inn=>
  if yK x inn n<0 then List.replicate n false else
  if vS (yY n (yP (yJ inn (yX x n inn (Int.tmod (yK x inn n) 2) (yY n (xF x inn (yK x inn n))))) (yU x n f (yJ inn (yX x n inn (Int.tmod (yK x inn n) 2) (yY n (xF x inn (yK x inn n)))))) (Int.tmod (yK x inn n) 2))) n=true then
   yY n (vl (yU x n f (yJ inn (yX x n inn (1 - Int.tmod (yK x inn n) 2) (yY n (yP (yJ inn (yX x n inn (Int.tmod (yK x inn n) 2) (yY n (xF x inn (yK x inn n))))) (yU x n f (yJ inn (yX x n inn (Int.tmod (yK x inn n) 2) (yY n (xF x inn (yK x inn n)))))) (Int.tmod (yK x inn n) 2))))))
    (yX x n inn (1 - Int.tmod (yK x inn n) 2) (yY n (yP (yJ inn (yX x n inn (Int.tmod (yK x inn n) 2) (yY n (xF x inn (yK x inn n))))) (yU x n f (yJ inn (yX x n inn (Int.tmod (yK x inn n) 2) (yY n (xF x inn (yK x inn n)))))) (Int.tmod (yK x inn n) 2)))) (Int.tmod (yK x inn n) 2))
  else yY n (wm inn (Int.tmod (yK x inn n) 2))
theorem jv (x:L7)(n f:Nat)(inn:List Bool){top who:Int}{goal rest low lost away:List Bool}(hT:yK x inn n=top)(hW:Int.tmod top 2=who)(hG:yY n (xF x inn top)=goal)(hR:yJ inn (yX x n inn who goal)=rest)(hLo:yU x n f rest=low)(hL:yY n (yP rest low who)=lost)(hA2:yX x n inn (1 - who) lost=away):
  yU x n (f+1) inn=if top<0 then List.replicate n false else if vS lost n=true then yY n (vl (yU x n f (yJ inn away)) away who)else yY n (wm inn who):=by
 subst hT hW hG hR hLo hL hA2
 rfl
theorem Kr (x:L7)(n:Nat): ∀f inn,(yU x n f inn).length=n
 |0,inn=>by unfold yU;simp
 |f+1,inn=>by
  rw [jv x n f inn rfl rfl rfl rfl rfl rfl rfl]
  split
  ·simp
  ·split<;>exact qj _ _
theorem zFL (x:L7)(inn:List Bool)(k:Nat):yK x inn (k+1)=if gb inn k=true then max (yK x inn k) (gi x.prio k)else yK x inn k:=rfl
theorem YA {x:L7}{inn:List Bool}: ∀k,∀v,v<k→gb inn v=true→gi x.prio v≤yK x inn k
 |0,v,h,_=>absurd h (Nat.not_lt_zero _)
 |k+1,v,hv,hb=>by
  rw [zFL]
  by_cases e:v=k
  ·subst e;rw [if_pos hb];omega
  ·have :=YA (x:=x) k v (by omega) hb
   split<;>omega
theorem JA {x:L7}{n:Nat}(hx:x.Ok n){inn:List Bool}: ∀k,k≤n→yK x inn k= -1∨∃v,v<k∧gb inn v=true∧gi x.prio v=yK x inn k
 |0,_=> .inl rfl
 |k+1,hk=>by
  have ih:=JA hx (inn:=inn) k (by omega)
  have hp:=hx.pr k (by omega)
  rw [zFL]
  by_cases e:gb inn k=true
  ·rw [if_pos e]
   rcases Int.le_total (yK x inn k) (gi x.prio k)with h|h
   ·exact .inr ⟨k,by omega,e,by omega⟩
   ·rcases ih with h2|⟨v,hv,h2,h3⟩
    ·exact .inr ⟨k,by omega,e,by omega⟩
    ·exact .inr ⟨v,by omega,h2,by omega⟩
  ·rw [if_neg e]
   rcases ih with h2|⟨v,hv,h2,h3⟩
   ·exact .inl h2
   ·exact .inr ⟨v,by omega,h2,h3⟩
section
variable {x:L7} {n:Nat} {inn:List Bool}
theorem zFl {who:Int}{goal:List Bool}{v:Nat}(hv:v<n)(h:gb (yX x n inn who goal) v=true):gb inn v=true:=((Yx hv).1 h).inD.2
theorem zBZ : ∀f inn,inn.length=n→∀v,v<n→gb (yU x n f inn) v=true→gb inn v=true
 |0,inn,_,v,hv,h=>by
  unfold yU at h
  rw [show gb (List.replicate n false) v=false from by unfold gb;rw [List.getD_eq_getElem?_getD,List.getElem?_replicate];split<;>rfl]at h
  cases h
 |f+1,inn,hi,v,hv,h=>by
  rw [jv x n f inn rfl rfl rfl rfl rfl rfl rfl]at h
  split at h
  ·rw [show gb (List.replicate n false) v=false from by unfold gb;rw [List.getD_eq_getElem?_getD,List.getElem?_replicate];split<;>rfl]at h
   cases h
  ·split at h
   ·rw [yS hv]at h
    unfold vl at h
    rw [Bool.or_eq_true,Bool.and_eq_true]at h
    rcases h with h|h
    ·have :=zBZ f _ (by rw [xf];exact hi) v hv h
     rw [qS (by omega),Bool.and_eq_true]at this
     exact this.1
    ·exact zFl hv h.1
   ·rw [yS hv]at h
    unfold wm at h
    rw [Bool.and_eq_true]at h
    exact h.1
end
theorem XO {g:PG}{who:Int}{D goal goal':Nat→Prop}(h: ∀v,D v→(goal v↔goal' v))(v:Nat):Att g who D goal v↔Att g who D goal' v:=by
 have hk: ∀k v,qh g who D goal k v↔qh g who D goal' k v:=by
  intro k
  induction k with
  |zero=>exact fun v=>⟨fun⟨a,b⟩=>⟨a,(h v a).1 b⟩,fun⟨a,b⟩=>⟨a,(h v a).2 b⟩⟩
  |succ k ih=>
   have e:qh g who D goal k=qh g who D goal' k:=funext fun v=>propext (ih v)
   intro v
   show(_∨_)↔(_∨_)
   rw [e]
 exact⟨fun⟨k,a⟩=>⟨k,(hk k v).1 a⟩,fun⟨k,a⟩=>⟨k,(hk k v).2 a⟩⟩
theorem wM (g:PG)(who:Int)(D U:Nat→Prop)(h: ∀v,¬U v): ∃s,xv g who D U s:=
 ⟨fun _=>0,⟨fun v a=>absurd a (h v),fun v a=>absurd a (h v),fun v u a=>absurd a (h v),fun v t w=>by
  cases w with
  |one a=>exact absurd a.1 (h v)
  |cons a _=>exact absurd a.1 (h v)⟩⟩
section
variable {x:L7} {n:Nat}
theorem Qu {inn:List Bool}(hi:inn.length=n){who:Int}{goal:List Bool}(v:Nat):inD n (yJ inn (yX x n inn who goal)) v↔inD n inn v∧¬Att (pgL x) who (inD n inn) (fun v=>gb goal v=true) v:=by
 unfold inD
 constructor
 ·rintro⟨h1,h2⟩
  rw [qS (by omega),Bool.and_eq_true]at h2
  refine⟨⟨h1,h2.1⟩,fun h=> ?_⟩
  rw [(Yx h1).2 h]at h2
  cases h2.2
 ·rintro⟨⟨h1,h2⟩,h3⟩
  refine⟨h1,?_⟩
  rw [qS (by omega),h2,Bool.eq_false_iff.2 fun e=>h3 ((Yx h1).1 e)]
  rfl
theorem XH {inn:List Bool}(hi:inn.length=n){who:Int}{goal:List Bool}{w:Nat}(hw:w<n)(h1:gb inn w=true)(h2:gb goal w=true):yk (yJ inn (yX x n inn who goal)) n<yk inn n:=by
 refine zCR n (fun v hv h=> ?_) ⟨w,hw,?_,h1⟩
 ·rw [qS (by omega),Bool.and_eq_true]at h;exact h.1
 ·rw [qS (by omega),(Yx hw).2 (.base ⟨hw,h1⟩ h2),h1];rfl
theorem Xy {t:Int}(h:0≤t):Int.tmod t 2=t%2:=Int.tmod_eq_emod_of_nonneg h
theorem kv (hx:x.Ok n): ∀f inn,inn.length=n→yk inn n<f→va (pgL x) (inD n inn)→
  (∃s,xv (pgL x) 0 (inD n inn) (fun v=>inD n inn v∧gb (yU x n f inn) v=true) s)∧∃s,xv (pgL x) 1 (inD n inn) (fun v=>inD n inn v∧gb (yU x n f inn) v=false) s
 |0,inn,_,h,_=>absurd h (Nat.not_lt_zero _)
 |f+1,inn,hi,hc,hl=>by
  have hn: ∀v u,(pgL x).E v u→u<n:=JZ hx
  obtain⟨top,hT⟩: ∃t,yK x inn n=t:=⟨_,rfl⟩
  obtain⟨who,hW⟩: ∃t,Int.tmod top 2=t:=⟨_,rfl⟩
  obtain⟨goal,hG⟩: ∃t,yY n (xF x inn top)=t:=⟨_,rfl⟩
  obtain⟨rest,hR⟩: ∃t,yJ inn (yX x n inn who goal)=t:=⟨_,rfl⟩
  obtain⟨low,hLo⟩: ∃t,yU x n f rest=t:=⟨_,rfl⟩
  obtain⟨lost,hL⟩: ∃t,yY n (yP rest low who)=t:=⟨_,rfl⟩
  obtain⟨away,hA⟩: ∃t,yX x n inn (1 - who) lost=t:=⟨_,rfl⟩
  rw [jv x n f inn hT hW hG hR hLo hL hA]
  have hmax:=fun v hv hb=>YA (x:=x) (inn:=inn) n v hv hb
  have hex:=JA hx (inn:=inn) n (Nat.le_refl _)
  rw [hT]at hmax hex
  by_cases ht:top<0
  ·have hno: ∀v,¬inD n inn v:=fun v hv=>by
    have :=hmax v hv.1 hv.2
    have :=hx.pr v hv.1
    omega
   exact⟨wM _ _ _ _ fun v h=>hno v h.1,wM _ _ _ _ fun v h=>hno v h.1⟩
  rw [if_neg ht]
  have hw2:who=0∨who=1:=by rw [Xy (by omega)]at hW;omega
  have hgoal: ∀v,inD n inn v→(gb goal v=true↔(pgL x).pr v=top.toNat):=fun v hv=>by
   rw [←hG,yS hv.1]
   unfold xF
   rw [hv.2,Bool.true_and,beq_iff_eq]
   have :=hx.pr v hv.1
   show _↔(gi x.prio v).toNat=top.toNat
   omega
  obtain⟨w,hw,hw3,hw4⟩:=hex.resolve_left (by omega)
  have hrl:rest.length=n:=by rw [←hR,xf];exact hi
  have hRD: ∀v,inD n rest v↔inD n inn v∧¬Att (pgL x) who (inD n inn) (fun v=>gb goal v=true) v:=fun v=>by rw [←hR];exact Qu hi v
  have hlt:yk rest n<f:=by
   have :yk rest n<yk inn n:=by
    rw [←hR]
    refine XH hi hw hw3 ((hgoal w ⟨hw,hw3⟩).2 ?_)
    show(gi x.prio w).toNat=_
    rw [hw4]
   omega
  have hlr:va (pgL x) (inD n rest):=by
   have :=Xo (who:=who) (goal:=fun v=>gb goal v=true) hn hl
   rw [show inD n rest=_ from funext fun v=>propext (hRD v)]
   exact this
  have ih:=kv hx f rest hrl hlt hlr
  rw [hLo]at ih
  have hlost: ∀v,v<n→(gb lost v=true↔gb rest v=true∧(gb low v=true↔¬who=0)):=fun v hv=>by
   rw [←hL,yS hv]
   unfold yP
   rw [Bool.and_eq_true]
   rcases hw2 with e|e<;>rw [e]<;>cases gb low v<;>simp
  by_cases ha:vS lost n=true
  ·rw [if_pos ha]
   obtain⟨a,ha1,ha2⟩:=vb.1 ha
   obtain⟨rest2,hR2⟩: ∃t,yJ inn away=t:=⟨_,rfl⟩
   obtain⟨again,hAg⟩: ∃t,yU x n f rest2=t:=⟨_,rfl⟩
   rw [hR2,hAg]
   have hr2l:rest2.length=n:=by rw [←hR2,xf];exact hi
   have hai:gb inn a=true:=((hRD a).1 ⟨ha1,((hlost a ha1).1 ha2).1⟩).1.2
   have hRD2: ∀v,inD n rest2 v↔inD n inn v∧¬Att (pgL x) (1 - who) (inD n inn) (fun v=>gb lost v=true) v:=fun v=>by rw [←hR2,←hA];exact Qu hi v
   have hlt2:yk rest2 n<f:=by
    have :yk rest2 n<yk inn n:=by rw [←hR2,←hA];exact XH hi ha1 hai ha2
    omega
   have hlr2:va (pgL x) (inD n rest2):=by
    have :=Xo (who:=1 - who) (goal:=fun v=>gb lost v=true) hn hl
    rw [show inD n rest2=_ from funext fun v=>propext (hRD2 v)]
    exact this
   have ih2:=kv hx f rest2 hr2l hlt2 hlr2
   have hsub:=fun v hv=>zBZ (x:=x) f rest2 hr2l v hv
   rw [hAg]at ih2 hsub
   have haw: ∀v,v<n→(gb away v=true↔Att (pgL x) (1 - who) (inD n inn) (fun v=>gb lost v=true) v):=fun v hv=>by rw [←hA];exact Yx hv
   have hnot: ∀v,v<n→gb away v=true→gb again v=false:=fun v hv h=>Bool.eq_false_iff.2 fun e=>((hRD2 v).1 ⟨hv,hsub v hv e⟩).2 ((haw v hv).1 h)
   have hown:=Vl hx
   rcases hw2 with e|e
   ·subst e
    have hop:((1:Int) - 0)=1:=rfl
    rw [hop]at hRD2 haw
    obtain⟨-,⟨s1,hs1⟩⟩:=ih
    obtain⟨⟨m0,hm0⟩,⟨m1,hm1⟩⟩:=ih2
    have hLs: ∀v,inD n inn v→(gb lost v=true↔inD n rest v∧gb low v=false):=fun v hv=>by
     rw [hlost v hv.1]
     constructor
     ·rintro⟨h1,h2⟩
      exact⟨⟨hv.1,h1⟩,Bool.eq_false_iff.2 fun h3=>h2.1 h3 rfl⟩
     ·rintro⟨h1,h2⟩
      exact⟨h1.2,by rw [h2];simp⟩
    have hatt:=fun v=>XO (g:=pgL x) (who:=1) hLs v
    obtain⟨s',hs'⟩:=kx (who:=0) (opp:=1) hown (by decide) (yN hs1 hRD fun v=>Iff.rfl) (yN hm1 (fun v=>by rw [hRD2 v,hatt v]) fun v=>Iff.rfl)
    have hz:=ky (who:=0) (opp:=1) hown (yN hm0 hRD2 fun v=>Iff.rfl)
    have hres: ∀v,v<n→gb (yY n (vl again away 0)) v=gb again v:=fun v hv=>by
     rw [yS hv];unfold vl;rw [show((0:Int)==1)=false from rfl,Bool.and_false,Bool.or_false]
    refine⟨⟨m0,yN hz (fun v=>Iff.rfl) fun v=> ?_⟩,⟨s',yN hs' (fun v=>Iff.rfl) fun v=> ?_⟩⟩
    ·constructor
     ·rintro⟨h1,h2⟩
      exact⟨((hRD2 v).1 h1).1,by rw [hres v h1.1];exact h2⟩
     ·rintro⟨h1,h2⟩
      rw [hres v h1.1]at h2
      exact⟨⟨h1.1,hsub v h1.1 h2⟩,h2⟩
    ·rw [←hatt v]
     constructor
     ·rintro(⟨h1,h2⟩|h)
      ·exact⟨((hRD2 v).1 h1).1,by rw [hres v h1.1];exact h2⟩
      ·have hv:=h.inD
       exact⟨hv,by rw [hres v hv.1];exact hnot v hv.1 ((haw v hv.1).2 h)⟩
     ·rintro⟨h1,h2⟩
      rw [hres v h1.1]at h2
      by_cases h3:Att (pgL x) 1 (inD n inn) (fun v=>gb lost v=true) v
      ·exact .inr h3
      ·exact .inl ⟨(hRD2 v).2 ⟨h1,h3⟩,h2⟩
   ·subst e
    have hop:((1:Int) - 1)=0:=rfl
    rw [hop]at hRD2 haw
    obtain⟨⟨s1,hs1⟩,-⟩:=ih
    obtain⟨⟨m0,hm0⟩,⟨m1,hm1⟩⟩:=ih2
    have hLs: ∀v,inD n inn v→(gb lost v=true↔inD n rest v∧gb low v=true):=fun v hv=>by
     rw [hlost v hv.1]
     constructor
     ·rintro⟨h1,h2⟩
      exact⟨⟨hv.1,h1⟩,h2.2 (by decide)⟩
     ·rintro⟨h1,h2⟩
      exact⟨h1.2,by rw [h2];simp⟩
    have hatt:=fun v=>XO (g:=pgL x) (who:=0) hLs v
    have hown2: ∀v,(pgL x).own v=1∨(pgL x).own v=0:=fun v=>(hown v).symm
    obtain⟨s',hs'⟩:=kx (who:=1) (opp:=0) hown2 (by decide) (yN hs1 hRD fun v=>Iff.rfl) (yN hm0 (fun v=>by rw [hRD2 v,hatt v]) fun v=>Iff.rfl)
    have hz:=ky (who:=1) (opp:=0) hown2 (yN hm1 hRD2 fun v=>Iff.rfl)
    have hres: ∀v,v<n→gb (yY n (vl again away 1)) v=(gb again v||gb away v):=fun v hv=>by
     rw [yS hv];unfold vl;rw [show((1:Int)==1)=true from rfl,Bool.and_true]
    refine⟨⟨s',yN hs' (fun v=>Iff.rfl) fun v=> ?_⟩,⟨m1,yN hz (fun v=>Iff.rfl) fun v=> ?_⟩⟩
    ·rw [←hatt v]
     constructor
     ·rintro(⟨h1,h2⟩|h)
      ·exact⟨((hRD2 v).1 h1).1,by rw [hres v h1.1,h2];rfl⟩
      ·have hv:=h.inD
       exact⟨hv,by rw [hres v hv.1,(haw v hv.1).2 h,Bool.or_true]⟩
     ·rintro⟨h1,h2⟩
      rw [hres v h1.1,Bool.or_eq_true]at h2
      rcases h2 with h2|h2
      ·exact .inl ⟨⟨h1.1,hsub v h1.1 h2⟩,h2⟩
      ·exact .inr ((haw v h1.1).1 h2)
    ·constructor
     ·rintro⟨h1,h2⟩
      have h3:=(hRD2 v).1 h1
      refine⟨h3.1,?_⟩
      rw [hres v h1.1,h2,Bool.eq_false_iff.2 fun e=>h3.2 ((haw v h1.1).1 e)]
      rfl
     ·rintro⟨h1,h2⟩
      rw [hres v h1.1,Bool.or_eq_false_iff]at h2
      refine⟨(hRD2 v).2 ⟨h1,fun h=> ?_⟩,h2.1⟩
      have :=(haw v h1.1).2 h
      rw [h2.2]at this
      cases this
  ·rw [if_neg ha]
   have hnl: ∀v,v<n→¬gb lost v=true:=fun v hv h=>ha (vb.2 ⟨v,hv,h⟩)
   have hall: ∀s,xv (pgL x) who (inD n rest) (inD n rest) s→∃s',xv (pgL x) who (inD n inn) (inD n inn) s':=fun s h=>by
    refine zC2 (top:=top.toNat) hn hl (fun v hv=> ?_) ?_ (s:=s) ?_
    ·have :=hmax v hv.1 hv.2
     have :=hx.pr v hv.1
     show(gi x.prio v).toNat≤_
     omega
    ·rw [←hW,Xy (by omega)];omega
    ·refine yN h (fun v=> ?_) (fun v=> ?_)<;>(rw [hRD,XO fun v hv=>hgoal v hv])
   rcases hw2 with e|e
   ·subst e
    obtain⟨⟨s,hs⟩,-⟩:=ih
    obtain⟨s',hs'⟩:=hall s (yN hs (fun v=>Iff.rfl) fun v=>⟨fun h=>h.1,fun h=>⟨h,by have :=hnl v h.1;rw [hlost v h.1]at this;have h5:=h.2;cases hlv:gb low v<;>simp_all⟩⟩)
    refine⟨⟨s',yN hs' (fun v=>Iff.rfl) fun v=>⟨fun h=>⟨h,by rw [yS h.1];unfold wm;rw [h.2];rfl⟩,fun h=>h.1⟩⟩,wM _ _ _ _ fun v h=> ?_⟩
    have h5:=h.2
    rw [yS h.1.1]at h5
    unfold wm at h5
    rw [h.1.2]at h5
    cases h5
   ·subst e
    obtain⟨-,⟨s,hs⟩⟩:=ih
    obtain⟨s',hs'⟩:=hall s (yN hs (fun v=>Iff.rfl) fun v=>⟨fun h=>h.1,fun h=>⟨h,by have :=hnl v h.1;rw [hlost v h.1]at this;have h5:=h.2;cases hlv:gb low v<;>simp_all⟩⟩)
    refine⟨wM _ _ _ _ fun v h=> ?_,⟨s',yN hs' (fun v=>Iff.rfl) fun v=>⟨fun h=>⟨h,by rw [yS h.1];unfold wm;rw [h.2];rfl⟩,fun h=>h.1⟩⟩⟩
    have h5:=h.2
    rw [yS h.1.1]at h5
    unfold wm at h5
    rw [h.1.2]at h5
    cases h5
end
def qw (g:Pa):Bool:=ye g.a&&(decide (g.prio.length=g.a.owner.length)&&QB g.prio.length (fun k=>decide (0≤gi g.prio k∧gi g.prio k≤40)))
theorem zBz {g:Pa}(h1:ye g.a=true)(h2:g.prio.length=g.a.owner.length)(h3: ∀k,k<g.prio.length→0≤gi g.prio k∧gi g.prio k≤40):qw g=true:=by
 unfold qw;rw [h1,decide_eq_true h2,vZ fun k hk=>decide_eq_true (h3 k hk)];rfl
theorem jT {n k:Nat}{x:Int}(h:k<n):gi (List.replicate n x) k=x:=by
 unfold gi
 rw [List.getD_eq_getElem?_getD,List.getElem?_replicate,if_pos h]
 rfl
theorem Zz {xs:List Int}{n:Int}(h:yf xs n=true){j:Nat}(hj:j<xs.length):0≤gi xs j∧gi xs j<n:=by
 have :=qc h hj
 unfold xy at this
 have :=of_decide_eq_true this
 exact⟨this.1,this.2.1⟩
def prv (a:Ar)(u v:Nat):List Int:=((List.range v).filter fun(w:Nat)=>yD (gl a.next w) (u:Int)).map fun(w:Nat)=>(w:Int)
def Ya (a:Ar)(v i u:Nat):List Int:=prv a u v++if yD ((gl a.next v).take i) (u:Int)then [(v:Int)]else []
def xw (a:Ar)(n v i:Nat):List (List Int):=(List.range n).map (Ya a v i)
theorem vP (a:Ar)(n v i:Nat):(xw a n v i).length=n:=by simp [xw]
theorem Ja {a:Ar}{n v i u:Nat}(h:u<n):gl (xw a n v i) u=Ya a v i u:=by
 unfold gl xw
 rw [List.getD_eq_getElem?_getD,List.getElem?_map,List.getElem?_range h]
 rfl
theorem zGX (a:Ar)(u:Nat):prv a u 0= []:=rfl
theorem ux (a:Ar)(n:Nat):xw a n 0 0=List.replicate n []:=by
 refine List.ext_getElem (by simp [xw]) fun j h1 h2=> ?_
 simp [xw,Ya,zGX,yD,qJ]
theorem zCo (a:Ar)(u v:Nat):(prv a u v).length≤v:=by
 unfold prv
 rw [List.length_map]
 exact Nat.le_trans (List.length_filter_le _ _) (by simp)
theorem zBE (a:Ar)(v i u:Nat):(Ya a v i u).length≤v+1:=by
 unfold Ya
 rw [List.length_append]
 have :=zCo a u v
 split<;>simp<;>omega
theorem uv {a:Ar}{n v:Nat}:xw a n v (gl a.next v).length=xw a n (v+1) 0:=by
 unfold xw
 refine List.map_congr_left fun u _=> ?_
 unfold Ya
 rw [List.take_length,show(gl a.next (v+1)).take 0= []from rfl,show yD [] (u:Int)=false from rfl]
 unfold prv
 rw [List.range_succ,List.filter_append,List.map_append]
 by_cases h:yD (gl a.next v) (u:Int)=true<;>simp [h]
theorem uw {a:Ar}(hok:ye a=true){n v i:Nat}(hv:v<a.owner.length)(hn:n=a.owner.length)(hi:i<(gl a.next v).length):
  (xw a n v i).set (gi (gl a.next v) i).toNat (gl (xw a n v i) (gi (gl a.next v) i).toNat++ [(v:Int)])=xw a n v (i+1):=by
 have hs:=(xZ hok hv).2.2.2.2
 have hb:=Zz hs hi
 have hu:(gi (gl a.next v) i).toNat<n:=by omega
 have hrise: ∀k j,j<k→k<(gl a.next v).length→gi (gl a.next v) j<gi (gl a.next v) k:=by
  intro k
  induction k with
  |zero=>intro j h;omega
  |succ k ih=>
   intro j hj hk
   have :=qc hs hk
   unfold xy at this
   have :=of_decide_eq_true this
   have h1:gi (gl a.next v) k<gi (gl a.next v) (k+1):=by have :=this.2.2.resolve_left (by omega);simpa using this
   rcases Nat.lt_or_ge j k with h|h
   ·have :=ih j h (by omega);omega
   ·rw [show j=k by omega];exact h1
 refine List.ext_getElem (by simp [xw]) fun j h1 h2=> ?_
 rw [List.getElem_set]
 have hj:j<n:=by rw [vP]at h2;exact h2
 have e1:(xw a n v i)[j]'(by rw [vP];exact hj)=Ya a v i j:=by simp [xw]
 have e2:(xw a n v (i+1))[j]=Ya a v (i+1) j:=by simp [xw]
 rw [e2]
 have hno:yD ((gl a.next v).take i) (gi (gl a.next v) i)=false:=by
  refine Bool.eq_false_iff.2 fun h=> ?_
  obtain⟨k,hk,e⟩:=vV.1 h
  rw [List.length_take]at hk
  rw [wZ (by omega)]at e
  have :=hrise i k (by omega) hi
  omega
 split
 ·rename_i e
  subst e
  rw [Ja hu]
  unfold Ya
  rw [ZP hi,Int.toNat_of_nonneg hb.1,hno]
  simp
 ·rename_i e
  rw [e1]
  unfold Ya
  rw [ZP hi]
  have :decide ((j:Int)=gi (gl a.next v) i)=false:=decide_eq_false (by omega)
  rw [this,Bool.or_false]
theorem zGW (a:Ar)(n u:Nat)(h:n=a.next.length):Ya a n 0 u=prv a u n:=by
 unfold Ya
 rw [show(gl a.next n).take 0= []from rfl,show yD [] (u:Int)=false from rfl]
 simp
theorem zCp {a:Ar}{u v:Nat}{w:Int}:w∈prv a u v↔0≤w∧w<v∧yD (gl a.next w.toNat) (u:Int)=true:=by
 unfold prv
 rw [List.mem_map]
 constructor
 ·rintro⟨k,hk,rfl⟩
  obtain⟨h1,h2⟩:=List.mem_filter.1 hk
  have :=List.mem_range.1 h1
  exact⟨by omega,by omega,by simpa using h2⟩
 ·rintro⟨h1,h2,h3⟩
  exact⟨w.toNat,List.mem_filter.2 ⟨List.mem_range.2 (by omega),h3⟩,by omega⟩
theorem zJh (a:Ar)(u v:Nat):(prv a u v).Pairwise (· < ·):=by
 unfold prv
 rw [List.pairwise_map]
 refine List.Pairwise.imp (fun h=> ?_) (List.Pairwise.filter _ List.pairwise_lt_range)
 omega
theorem Qg {xs:List Int}{i:Nat}(h:i<xs.length):gi xs i∈xs:=List.mem_of_getElem? (vC h)
def l7G (g:Pa)(pick:List Int):L7:=⟨g.a.owner,g.prio,g.a.next,xw g.a g.a.owner.length g.a.owner.length 0,pick⟩
theorem zF6 {g:Pa}(hl:g.a.next.length=g.a.owner.length){pick:List Int}{u:Nat}(hu:u<g.a.owner.length):gl (l7G g pick).prev u=prv g.a u g.a.owner.length:=by
 show gl (xw g.a _ _ 0) u=_
 rw [Ja hu,zGW _ _ _ hl.symm]
theorem xu {g:Pa}(h:qw g=true):ye g.a=true∧g.prio.length=g.a.owner.length∧∀v,v<g.a.owner.length→0≤gi g.prio v∧gi g.prio v≤40:=by
 unfold qw at h
 rw [Bool.and_eq_true,Bool.and_eq_true]at h
 have h2:=of_decide_eq_true h.2.1
 exact⟨h.1,h2,fun v hv=>by have :=qc h.2.2 (k:=v) (by omega);exact of_decide_eq_true this⟩
theorem zEk {g:Pa}(h:qw g=true){pick:List Int}(hp:pick.length=g.a.owner.length):(l7G g pick).Ok g.a.owner.length:=by
 obtain⟨ha,hpl,hpr⟩:=xu h
 have hal:=yr ha
 have hpv:=fun u (hu:u<g.a.owner.length)=>zF6 (g:=g) hal.2.2 (pick:=pick) hu
 refine⟨hal.2.1,rfl,hpl,hal.2.2,vP _ _ _ _,hp,fun v hv=> ?_,fun v hv j hj=> ?_,hpr,fun v hv=> ?_,fun v hv i j hij hj=> ?_,fun u hu=> ?_,fun u hu m hm=> ?_,fun v hv j hj=> ?_,fun u hu i j hij hj=> ?_⟩
 ·have :=(xZ ha hv).2.2.2.1
  show(gl g.a.next v).length≤256
  omega
 ·exact Zz (xZ ha hv).2.2.2.2 hj
 ·have :=xZ ha hv
  show gi g.a.owner v=0∨gi g.a.owner v=1
  omega
 ·have hs:=(xZ ha hv).2.2.2.2
  have key: ∀k j,j<k→k<(gl g.a.next v).length→gi (gl g.a.next v) j<gi (gl g.a.next v) k:=by
   intro k
   induction k with
   |zero=>intro j h;omega
   |succ k ih=>
    intro j hj hk
    have :=qc hs hk
    unfold xy at this
    have :=of_decide_eq_true this
    have h1:gi (gl g.a.next v) k<gi (gl g.a.next v) (k+1):=by have :=this.2.2.resolve_left (by omega);simpa using this
    rcases Nat.lt_or_ge j k with h|h
    ·have :=ih j h (by omega);omega
    ·rw [show j=k by omega];exact h1
  have :=key j i hij hj
  show gi (gl g.a.next v) i≠gi (gl g.a.next v) j
  omega
 ·rw [hpv u hu]
  have :=zCo g.a u g.a.owner.length
  omega
 ·rw [hpv u hu]at hm⊢
  obtain⟨h1,h2,h3⟩:=zCp.1 (Qg hm)
  refine⟨⟨h1,h2⟩,?_⟩
  obtain⟨i,hi,e⟩:=vV.1 h3
  exact⟨i,hi,e⟩
 ·have hb:=Zz (xZ ha hv).2.2.2.2 hj
  have hu:(gi (gl g.a.next v) j).toNat<g.a.owner.length:=by omega
  show∃m,m<(gl (l7G g pick).prev (gi (gl g.a.next v) j).toNat).length∧gi (gl (l7G g pick).prev (gi (gl g.a.next v) j).toNat) m=v
  rw [hpv _ hu]
  have hm:(v:Int)∈prv g.a (gi (gl g.a.next v) j).toNat g.a.owner.length:=zCp.2 ⟨by omega,by omega,by
   rw [Int.toNat_natCast,Int.toNat_of_nonneg hb.1]
   exact vV.2 ⟨j,hj,rfl⟩⟩
  obtain⟨m,hm1,hm2⟩:=vV.1 ((xD _ _).2 hm)
  exact⟨m,hm1,hm2⟩
 ·rw [hpv u hu]at hj⊢
  have :=List.pairwise_iff_getElem.1 (zJh g.a u g.a.owner.length) i j (by omega) hj hij
  unfold gi
  rw [List.getD_eq_getElem?_getD,List.getD_eq_getElem?_getD,List.getElem?_eq_getElem (by omega),List.getElem?_eq_getElem hj]
  simp only [Option.getD_some]
  omega
def noP (n:Nat):List Int:=List.replicate n (-1)
theorem kf (n:Nat):(noP n).length=n:=List.length_replicate ..
theorem zJc (n v:Nat)(h:v<n):gi (noP n) v= -1:=jT h
def qp (n:Nat):List Bool:=List.replicate n true
theorem VF (n:Nat):(qp n).length=n:=List.length_replicate ..
theorem Qb {n v:Nat}(h:v<n):gb (qp n) v=true:=by
 unfold gb qp
 rw [List.getD_eq_getElem?_getD,List.getElem?_replicate,if_pos h]
 rfl
noncomputable def JB (g:Pa):List Bool:=yU (l7G g (noP g.a.owner.length)) g.a.owner.length (g.a.owner.length+1) (qp g.a.owner.length)
def YE (b:Bool):Int:=if b then 0 else 1
noncomputable def QU (g:Pa):List Int:=(JB g).map YE
theorem Ks (g:Pa):(JB g).length=g.a.owner.length:=Kr _ _ _ _
theorem XZ (g:Pa):(QU g).length=g.a.owner.length:=by unfold QU;rw [List.length_map,Ks]
theorem zIX {g:Pa}{v:Nat}(hv:v<g.a.owner.length):gi (QU g) v=YE (gb (JB g) v):=by
 unfold gi QU gb
 rw [List.getD_eq_getElem?_getD,List.getElem?_map,List.getD_eq_getElem?_getD,List.getElem?_eq_getElem (by rw [Ks];exact hv)]
 rfl
def pgOf (g:Pa):PG:=⟨fun v=>if v<g.a.owner.length then gi g.a.owner v else 0,fun v=>(gi g.prio v).toNat,fun v u=>v<g.a.owner.length∧∃j,j<(gl g.a.next v).length∧(gi (gl g.a.next v) j).toNat=u⟩
theorem zEL {g:Pa}{v:Nat}(hv:v<g.a.owner.length)(u:Int):edB (l7G g (noP g.a.owner.length)) v u=true:=by
 unfold edB
 refine decide_eq_true (.inl ?_)
 show gi (noP g.a.owner.length) (Int.toNat v)<0
 rw [Int.toNat_natCast,zJc _ _ hv]
 decide
theorem zJe (g:Pa):pgL (l7G g (noP g.a.owner.length))=pgOf g:=by
 unfold pgL pgOf
 congr 1
 funext v u
 refine propext ⟨?_,?_⟩
 ·rintro⟨h1,j,h2,h3,-⟩
  exact⟨h1,j,h2,h3⟩
 ·rintro⟨h1,j,h2,h3⟩
  exact⟨h1,j,h2,h3,zEL h1 _⟩
end Go.Proofs.YthepmdkpbjfdcaaGreat
