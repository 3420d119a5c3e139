/- parity games and scores: both sides -/
import Derived.Test.YtcleaokoimhedaaGreatB6zmo
import Derived.Test.YtcleaokoimhedaaGreatB10zmo
import Derived.Test.YtcleaokoimhedaaGreatGDzmo
import Derived.Test.YtcleaokoimhedaaGreatB8zmo
namespace Go.Proofs.YtcleaokoimhedaaGreat
open Nat renaming reduceMod → zA, reduceMul → zB, reduceDiv → zC, reduceAdd → zD, reduceSub → zE, reduceEqDiff → zF, reduceBEq → zG, reduceLT → zH, reduceLeDiff → zI
open Go.RowKit
set_option linter.unusedVariables false
set_option linter.unusedSimpArgs false
def yL (g:Pa):Bool:=yi g.a&&(decide (g.prio.length=g.a.owner.length)&&Za g.prio.length (fun k=>decide (0≤gi g.prio k∧gi g.prio k≤40)))
theorem kN {g:Pa}(h:yi g.a=false):yL g=false:=by unfold yL;rw [h];rfl
theorem kO {g:Pa}(h: ¬g.prio.length=g.a.owner.length):yL g=false:=by unfold yL;rw [decide_eq_false h,Bool.false_and,Bool.and_false]
theorem kP {g:Pa}{k:Nat}(hk:k<g.prio.length)(h: ¬(0≤gi g.prio k∧gi g.prio k≤40)):yL g=false:=by unfold yL;rw [YT hk (decide_eq_false h),Bool.and_false,Bool.and_false]
theorem XO {g:Pa}(h1:yi g.a=true)(h2:g.prio.length=g.a.owner.length)(h3: ∀k,k<g.prio.length→0≤gi g.prio k∧gi g.prio k≤40):yL g=true:=by
 unfold yL;rw [h1,decide_eq_true h2,wn fun k hk=>decide_eq_true (h3 k hk)];rfl
set_option maxRecDepth 20000 in
set_option maxHeartbeats 4000000 in
theorem zCC (g:Pa)(hg:g.Ln 1048576):Fn Tryz.prog tyT 66 [.agg (dPa g)] [.c (.bool (yL g))]:=by
 have hpl:=hg.prio
 have hno:=hg.a.owner
 unfold LnI at hpl hno
 have hA:=jt g.a hg.a
 unfold dAr at hA
 unfold dPa
 refine θH (ts:= [2]) Tryz.func66 Tryz.ntmps66 ?_
 push_cast [↓zK,↓zJ]
 refine θA ?_
 refine zL fun K1 hK1=> ?_
 refine zL fun K hK=> ?_
 refine zf false zO zN ?_ rfl ?_
 ·kernel_rfl
 all_goals refine yD 3 fun K9 hK9=> ?_
 all_goals push_cast [↓zK,↓zJ]
 all_goals repeat'(first|(apply zP<;>(intro hg;(try push_cast at hg)))|(refine⟨_,hA,?_⟩;push_cast [↓zK,↓zJ])|apply And.intro|(intro hg;(try push_cast at hg)))
 all_goals try exact gA
 all_goals(refine hK9 _ ?_;clear hK9 K9)
 all_goals push_cast [↓zK,↓zJ]
 all_goals repeat'(first|(apply zP<;>(intro hg;(try push_cast at hg)))|(refine⟨_,hA,?_⟩;push_cast [↓zK,↓zJ])|apply And.intro|(intro hg;(try push_cast at hg)))
 all_goals try exact gA
 all_goals(refine hK _ ?_;clear hK K)
 all_goals refine zT rfl (fun hc=> ?_) (fun hc=> ?_)
 all_goals(first|(cases hc;done)|skip)
 all_goals(try simp only [push_cast]at hc)
 all_goals try(
   refine θA ?_
   refine zZ ⟨Or.inl rfl,?_⟩
   push_cast [zd,↓zK,↓zJ]
   symm
   first|exact kN (by with_reducible assumption)|exact kO (by omega)
   done)
 refine zU (hK1 _ ?_)
 refine zL fun K2 hK2=> ?_
 refine θA ?_
 refine zV ?_
 refine zg [2,4,9,22,23,24,25,26,27,28,29,30,31,32] [] (fun(k:Nat)=> [(22, .int .i64 k)]) (fun k=> []) (fun k=> []) (fun k=>k≤g.prio.length∧∀j,j<k→0≤gi g.prio j∧gi g.prio j≤40) (fun k=>g.prio.length - k) 0 ?_ ⟨by omega,fun j hj=>by omega⟩ ?_
 ·
  exact θX
 ·rintro k ⟨hk,hall⟩ KL0 hL0
  push_cast [↓zK,↓zJ]
  refine θA ?_
  refine zL fun K3 hK3=> ?_
  refine θU (fun hc=> ?_) fun hc=> ?_
  ·
   refine zU (hK3 _ ?_)
   refine zL fun K4 hK4=> ?_
   refine zV ?_
   refine θA ?_
   refine zL fun K hK=> ?_
   refine zf false zO zN ?_ rfl ?_
   ·kernel_rfl
   all_goals push_cast [↓zK,↓zJ]
   all_goals repeat'(first|(apply zP<;>(intro hg;(try simp only [push_cast]at hg)))|(refine⟨_,hA,?_⟩;push_cast [↓zK,↓zJ])|apply And.intro|(intro hg;(try simp only [push_cast]at hg)))
   all_goals try exact gA
   all_goals(refine hK _ ?_;clear hK K)
   all_goals refine zT rfl (fun hc=> ?_) (fun hc=> ?_)
   all_goals(first|(cases hc;done)|skip)
   all_goals(try simp only [push_cast]at hc)
   all_goals try(
     refine θA ?_
     refine zZ ⟨Or.inl rfl,?_⟩
     push_cast [zd,↓zK,↓zJ]
     symm
     exact kP (k:=k) (by omega) (by omega)
     done)
   refine zU (hK4 _ ?_)
   refine θB ?_
   refine hL0 _ ⟨k+1,⟨by omega,fun j hj=>(by
     by_cases hjk:j=k
     ·subst hjk;omega
     ·exact hall j (by omega))⟩,by omega,?_⟩
   exact θX
  ·
   refine zh (hK2 _ ?_)
   refine θA ?_
   refine zZ ⟨Or.inl rfl,?_⟩
   push_cast [zd,↓zK,↓zJ]
   symm
   exact XO (by with_reducible assumption) (by omega) fun j hj=>hall j (by omega)
set_option maxRecDepth 20000 in
set_option maxHeartbeats 4000000 in
theorem Jx (g:Pa)(hg:g.Ln 1048576):Fn Tryz.prog tyT 48 [.agg (dPa g)] [.c (.bool (yL g))]:=by
 have hpl:=hg.prio
 have hno:=hg.a.owner
 unfold LnI at hpl hno
 have hA:=ju g.a hg.a
 unfold dAr at hA
 unfold dPa
 refine θH (ts:= [2]) Tryz.func48 Tryz.ntmps48 ?_
 push_cast [↓zK,↓zJ]
 refine θA ?_
 refine zL fun K1 hK1=> ?_
 refine zL fun K hK=> ?_
 refine zf false zO zN ?_ rfl ?_
 ·kernel_rfl
 all_goals refine yD 3 fun K9 hK9=> ?_
 all_goals push_cast [↓zK,↓zJ]
 all_goals repeat'(first|(apply zP<;>(intro hg;(try push_cast at hg)))|(refine⟨_,hA,?_⟩;push_cast [↓zK,↓zJ])|apply And.intro|(intro hg;(try push_cast at hg)))
 all_goals try exact gA
 all_goals(refine hK9 _ ?_;clear hK9 K9)
 all_goals push_cast [↓zK,↓zJ]
 all_goals repeat'(first|(apply zP<;>(intro hg;(try push_cast at hg)))|(refine⟨_,hA,?_⟩;push_cast [↓zK,↓zJ])|apply And.intro|(intro hg;(try push_cast at hg)))
 all_goals try exact gA
 all_goals(refine hK _ ?_;clear hK K)
 all_goals refine zT rfl (fun hc=> ?_) (fun hc=> ?_)
 all_goals(first|(cases hc;done)|skip)
 all_goals(try simp only [push_cast]at hc)
 all_goals try(
   refine θA ?_
   refine zZ ⟨Or.inl rfl,?_⟩
   push_cast [zd,↓zK,↓zJ]
   symm
   first|exact kN (by with_reducible assumption)|exact kO (by omega)
   done)
 refine zU (hK1 _ ?_)
 refine zL fun K2 hK2=> ?_
 refine θA ?_
 refine zV ?_
 refine zg [2,3,8,18,19,20,21,22,23,24,25,26,27,28,29,30,31] [] (fun(k:Nat)=> [(3, .int .i64 k)]) (fun k=> []) (fun k=> []) (fun k=>k≤g.prio.length∧∀j,j<k→0≤gi g.prio j∧gi g.prio j≤40) (fun k=>g.prio.length - k) 0 ?_ ⟨by omega,fun j hj=>by omega⟩ ?_
 ·
  exact θX
 ·rintro k ⟨hk,hall⟩ KL0 hL0
  push_cast [↓zK,↓zJ]
  refine zL fun K3 hK3=> ?_
  refine θA ?_
  refine θU (fun hc=> ?_) fun hc=> ?_
  ·
   refine zU (hK3 _ ?_)
   refine zL fun K4 hK4=> ?_
   refine zV ?_
   refine θL fun K hK=> ?_
   all_goals refine zm 6 fun K9 hK9=> ?_
   all_goals push_cast [↓zK,↓zJ]
   all_goals repeat'(first|(apply zP<;>(intro hg;(try simp only [push_cast]at hg)))|(refine⟨_,xJ _ _ _,?_⟩;push_cast [↓zK,↓zJ])|apply And.intro|(intro hg;(try simp only [push_cast]at hg)))
   all_goals try exact gA
   all_goals(refine hK9 _ ?_;clear hK9 K9)
   all_goals push_cast [↓zK,↓zJ]
   all_goals repeat'(first|(apply zP<;>(intro hg;(try simp only [push_cast]at hg)))|(refine⟨_,xJ _ _ _,?_⟩;push_cast [↓zK,↓zJ])|apply And.intro|(intro hg;(try simp only [push_cast]at hg)))
   all_goals try exact gA
   all_goals(refine hK _ ?_;clear hK K)
   refine θU (fun hc=> ?_) fun hc=> ?_
   ·
    refine θA ?_
    refine zZ ⟨Or.inl rfl,?_⟩
    push_cast [zd,↓zK,↓zJ]
    symm
    exact kP (k:=k) (by omega) (by omega)
   ·
    refine zU (hK4 _ ?_)
    refine θB ?_
    refine hL0 _ ⟨k+1,⟨by omega,fun j hj=>(by
      by_cases hjk:j=k
      ·subst hjk;omega
      ·exact hall j (by omega))⟩,by omega,?_⟩
    exact θX
  ·
   refine zh (hK2 _ ?_)
   refine θA ?_
   refine zZ ⟨Or.inl rfl,?_⟩
   push_cast [zd,↓zK,↓zJ]
   symm
   exact XO (by with_reducible assumption) (by omega) fun j hj=>hall j (by omega)
def Vq (g:Int→Int)(r:List Int)(k:Nat):List Int:=(r.take k).map g++r.drop k
theorem zI4 {c:List Int}{k:Nat}(h:k<c.length):c.drop k=gi c k::c.drop (k+1):=by
 rw [List.drop_eq_getElem_cons h]
 congr 1
 unfold gi
 rw [List.getD_eq_getElem?_getD,List.getElem?_eq_getElem h]
 rfl
theorem zCu {c:List (List Int)}{k:Nat}(h:k<c.length):c.drop k=gl c k::c.drop (k+1):=by
 rw [List.drop_eq_getElem_cons h]
 congr 1
 unfold gl
 rw [List.getD_eq_getElem?_getD,List.getElem?_eq_getElem h]
 rfl
theorem zNb (g:Int→Int)(r:List Int):Vq g r 0=r:=by simp [Vq]
theorem zJU (g:Int→Int)(r:List Int):Vq g r r.length=r.map g:=by simp [Vq]
theorem zJV {g:Int→Int}{r:List Int}{k:Nat}(h:k≤r.length):(Vq g r k).length=r.length:=by simp [Vq];omega
theorem zJW {g:Int→Int}{r:List Int}{k:Nat}(h:k<r.length):(Vq g r k).set k (g (gi r k))=Vq g r (k+1):=by
 have hl:((r.take k).map g).length=k:=by simp;omega
 unfold Vq
 rw [List.set_append_right _ _ (by omega),hl,Nat.sub_self,zI4 h,List.set_cons_zero,List.take_add_one,qk h]
 simp
theorem zJC {xs ys:List (List Int)}{n k:Nat}(h:xs.length=n):gl (xs++ys) (n+k)=gl ys k:=by
 subst h
 unfold gl
 rw [List.getD_eq_getElem?_getD,List.getElem?_append_right (by omega),Nat.add_sub_cancel_left,List.getD_eq_getElem?_getD]
set_option maxRecDepth 20000 in
set_option maxHeartbeats 4000000 in
theorem zCn (xs:List (List Int))(hx:qV 1048576 xs):Fn Tryz.prog tyT 133 [.c (DII xs)] [.c (DII xs)]:=by
 have h1:=hx.1
 have hr: ∀v,(gl xs v).length≤1048576:=fun v=>Xs hx v
 refine θH (ts:= [2]) Tryz.func133 Tryz.ntmps133 ?_
 push_cast
 refine θA ?_
 refine θN ?_
 refine qj 22 3 (Nat.le_of_ble_eq_true rfl) ?_
 push_cast
 refine zL fun K1 hK1=> ?_
 refine θA ?_
 refine zV ?_
 rw [show([]:List D)=dII (xs.take 0)from by simp [dII]]
 refine zg [3,5,9,10,11,12,13,14,15,16,17,18,19] [48] (fun(k:Nat)=> [(9, .int .i64 k),(3, .sl 48 [] 0 k 22)]) (fun k=> []) (fun k=> [(48,⟨.ex,22,dII (xs.take k),none⟩)]) (fun k=>k≤xs.length) (fun k=>xs.length - k) 0 ?_ (by omega) ?_
 ·
  exact θX
 ·rintro k hk KL0 hL0
  have htk:(xs.take k).length=k:=by rw [List.length_take];omega
  have hrk:=hr k
  push_cast
  refine θA ?_
  refine zL fun K2 hK2=> ?_
  refine θU (fun hc=> ?_) fun hc=> ?_
  ·
   refine zU (hK2 _ ?_)
   refine zL fun K3 hK3=> ?_
   refine zV ?_
   refine θA ?_
   refine zf false zO zN ?_ rfl ?_
   ·kernel_rfl
   push_cast
   all_goals repeat'(first|(apply zP<;>(intro hg;push_cast at hg))|apply And.intro|(intro hg;push_cast at hg))
   all_goals first|exact gA|(exact zQ (by omega))|skip
   refine hK3 _ ?_
   refine qj 22 3 (Nat.le_of_ble_eq_true rfl) ?_
   push_cast
   refine θB ?_
   refine hL0 _ ⟨k+1,by omega,by omega,?_⟩
   (try rw [List.take_take,Nat.min_self])
   rw [Um (by omega)]
   exact θX
  ·
   refine zh ?_
   have hkk:k=xs.length:=by omega
   subst hkk
   rw [List.take_length]
   refine hK1 _ ?_
   refine θA ?_
   refine zZ ⟨Or.inl rfl,?_⟩
   push_cast [zd]
set_option maxRecDepth 20000 in
set_option maxHeartbeats 4000000 in
theorem zCm (a:Ar)(ha:a.Ln 1048576):Fn Tryz.prog tyT 122 [.agg (dAr a)] [.agg (dAr a)]:=by
 have h0:=ha.owner
 have h1:=ha.next.1
 have hC:=zCn a.next ha.next
 unfold LnI at h0
 unfold dAr
 refine qm (fn:=Tryz.f122) (rs:= [.cell 2 33]) zO zN Tryz.func122 (by kernel_rfl) rfl rfl (by rw [Tryz.ntmps122];exact Nat.le_of_ble_eq_true rfl) rfl (by simp only [szA,List.mem_cons,List.not_mem_nil,or_false,forall_eq_or_imp,forall_eq,VT.cells,szL];try decide) ?_
 rw [Tryz.ntmps122]
 push_cast
 refine θA ?_
 refine zL fun K hK=> ?_
 refine zx false zO zN ya ?_ rfl ?_
 ·kernel_rfl
 intro E hE
 all_goals refine yb 7 (by decide) fun K9 hK9=> ?_
 all_goals push_cast
 all_goals repeat'(first|(apply zP<;>(intro hg;push_cast at hg))|(refine⟨_,hC,?_⟩;push_cast)|apply And.intro|(intro hg;push_cast at hg))
 all_goals try exact gA
 refine hK9 _ _ ?_;clear hK9 K9
 all_goals push_cast
 all_goals repeat'(first|(apply zP<;>(intro hg;push_cast at hg))|(refine⟨_,hC,?_⟩;push_cast)|apply And.intro|(intro hg;push_cast at hg))
 all_goals first|exact gA|(refine hE _ _ ?_ ?_;kernel_rfl)|skip
 all_goals clear hE E
 refine hK _ ?_;clear hK K
 refine zZ ⟨Or.inl rfl,?_⟩
 push_cast [zd,zo,yA]
theorem UB {n k:Nat}{x:Int}(h:k<n):gi (List.replicate n x) k=x:=by
 unfold gi
 rw [List.getD_eq_getElem?_getD,List.getElem?_replicate,if_pos h]
 rfl
set_option maxRecDepth 20000 in
set_option maxHeartbeats 4000000 in
theorem UN (a:Ar)(ha:a.Ln 1048576):Fn Tryz.prog tyT 68 [.agg (dAr a)] [.c (DI (List.replicate a.owner.length (-1)))]:=by
 have h0:=ha.owner
 unfold LnI at h0
 have hrl:(List.replicate a.owner.length (0:Int)).length=a.owner.length:=List.length_replicate ..
 unfold dAr
 refine θH (ts:= [2]) Tryz.func68 Tryz.ntmps68 ?_
 push_cast
 refine θA ?_
 refine θA ?_
 refine zL fun K1 hK1=> ?_
 refine θA ?_
 refine zV ?_
 refine zg [4,11,12,13,14,15,16,17] [48] (fun(k:Nat)=> [(11, .int .i64 k)]) (fun k=> []) (fun k=> [(48,⟨.ex,2,dI (Vq (fun _=> -1) (List.replicate a.owner.length 0) k),none⟩)]) (fun k=>k≤a.owner.length) (fun k=>a.owner.length - k) 0 ?_ (by omega) ?_
 ·
  rw [zNb]
  exact θX
 ·rintro k hk KL0 hL0
  have hml:=zJV (g:=fun _=> -1) (r:=List.replicate a.owner.length 0) (k:=k) (by omega)
  push_cast
  refine θA ?_
  refine zL fun K2 hK2=> ?_
  refine θU (fun hc=> ?_) fun hc=> ?_
  ·
   refine zU (hK2 _ ?_)
   refine zL fun K3 hK3=> ?_
   refine zV ?_
   refine θA ?_
   refine θB ?_
   refine hK3 _ ?_
   refine θB ?_
   rw [zJW (g:=fun _=> -1) (by omega)]
   refine hL0 _ ⟨k+1,by omega,by omega,?_⟩
   exact θX
  ·
   refine zh ?_
   have hkk:k=(List.replicate a.owner.length (0:Int)).length:=by omega
   subst hkk
   rw [zJU,List.map_replicate]
   refine hK1 _ ?_
   refine θA ?_
   refine zZ ⟨Or.inl rfl,?_⟩
   push_cast [zd]
   all_goals first|rfl|(simp;done)
def emM (c n:Nat):Me:=⟨List.replicate c (List.replicate n 0),List.replicate c (List.replicate n (-1))⟩
theorem Ud {α:Type}(k:Nat)(x:α):List.replicate (k+1) x=List.replicate k x++ [x]:=List.replicate_succ' ..
theorem zHL (N:Nat):XJ N N=List.replicate N (-1):=by
 unfold XJ
 rw [List.eq_replicate_iff]
 refine⟨by simp,fun b hb=> ?_⟩
 obtain⟨i,hi,rfl⟩:=List.mem_map.1 hb
 rw [if_pos (List.mem_range.1 hi)]
set_option maxRecDepth 20000 in
set_option maxHeartbeats 4000000 in
theorem zAA (a:Ar)(ha:a.Ln 1048576)(c:Nat)(hc0:c≤1048576):Fn Tryz.prog tyT 65 [.agg (dAr a), .c (.int .i64 c)] [.agg (dMe (emM c a.owner.length))]:=by
 have hno:=ha.owner
 unfold LnI at hno
 have hN:=UN a ha
 unfold dAr at hN
 unfold dAr dMe emM
 refine qm (fn:=Tryz.f65) (rs:= [.cell 4 30]) zO zN Tryz.func65 (by kernel_rfl) rfl rfl (by rw [Tryz.ntmps65];exact Nat.le_of_ble_eq_true rfl) rfl (by simp only [szA,List.mem_cons,List.not_mem_nil,or_false,forall_eq_or_imp,forall_eq,VT.cells,szL];try decide) ?_
 rw [Tryz.ntmps65]
 push_cast
 refine θA ?_
 refine θA ?_
 refine zL fun K1 hK1=> ?_
 refine θA ?_
 refine zV ?_
 refine zg [5,8,9,10,11,12,13,14,15,16,17,18,19,20,21,22,23,24,25,26] [] (fun(k:Nat)=> [(8, .int .i64 k),(5, .bp 5 0)]) (fun k=> [(5,[.sl 80 [] 0 k 22, .sl 81 [] 0 k 22])]) (fun k=> [(80,⟨.ex,22,dII (List.replicate k (List.replicate a.owner.length 0)),none⟩),(81,⟨.ex,22,dII (List.replicate k (List.replicate a.owner.length (-1))),none⟩)]) (fun k=>k≤c) (fun k=>c - k) 0 ?_ (by omega) ?_
 ·
  rw [List.replicate_zero,List.replicate_zero]
  refine zY rfl ?_ ?_ ?_<;>push_cast [zb,za]
  all_goals first|rfl|exact⟨rfl,rfl⟩|skip
 ·rintro k hk KL0 hL0
  have hl1:(List.replicate k (List.replicate a.owner.length (0:Int))).length=k:=List.length_replicate ..
  have hl2:(List.replicate k (List.replicate a.owner.length (-1:Int))).length=k:=List.length_replicate ..
  push_cast
  refine θA ?_
  refine zL fun K2 hK2=> ?_
  refine θU (fun hc=> ?_) fun hc=> ?_
  ·
   refine zU (hK2 _ ?_)
   refine zL fun K3 hK3=> ?_
   refine zV ?_
   refine zL fun K hK=> ?_
   refine zx false zO zN ya ?_ rfl ?_
   ·kernel_rfl
   intro E hE
   all_goals push_cast
   all_goals repeat'(first|(apply zP<;>(intro hg;push_cast at hg))|apply And.intro|(intro hg;push_cast at hg))
   all_goals first|exact gA|(refine hE _ _ ?_ ?_;kernel_rfl)|(exact zQ (by omega))|skip
   all_goals clear hE E
   refine hK _ ?_;clear hK K
   refine zx false zO zN ya ?_ rfl ?_
   ·kernel_rfl
   intro E hE
   all_goals refine yb 4 (by decide) fun K9 hK9=> ?_
   all_goals push_cast
   all_goals repeat'(first|(apply zP<;>(intro hg;push_cast at hg))|(refine⟨_,hN,?_⟩;push_cast)|apply And.intro|(intro hg;push_cast at hg))
   all_goals first|exact gA|(exact zQ (by omega))|skip
   refine hK9 _ _ ?_;clear hK9 K9
   all_goals push_cast
   all_goals repeat'(first|(apply zP<;>(intro hg;push_cast at hg))|(refine⟨_,hN,?_⟩;push_cast)|apply And.intro|(intro hg;push_cast at hg))
   all_goals first|exact gA|(refine hE _ _ ?_ ?_;kernel_rfl)|(exact zQ (by omega))|skip
   all_goals clear hE E
   refine hK3 _ ?_
   refine qE [.sl 22, .sl 22] 5 ?_
   push_cast
   refine θB ?_
   refine hL0 _ ⟨k+1,by omega,by omega,?_⟩
   (try rw [List.take_of_length_le (l:=List.replicate k (List.replicate a.owner.length (0:Int))) (by omega)])
   (try rw [List.take_of_length_le (l:=List.replicate k (List.replicate a.owner.length (-1:Int))) (by omega)])
   (try rw [List.take_of_length_le (l:=List.replicate a.owner.length (0:Int)) (by simp)])
   (try rw [List.take_of_length_le (l:=List.replicate a.owner.length (-1:Int)) (by simp)])
   rw [Ud,Ud]
   exact θX
   all_goals first|rfl|exact⟨rfl,rfl⟩|skip
  ·
   refine zh ?_
   have hkk:k=c:=by omega
   subst hkk
   refine hK1 _ ?_
   refine θA ?_
   refine zZ ⟨Or.inl rfl,?_⟩
   push_cast [zd,zo,yA]
   all_goals first|rfl|exact⟨rfl,rfl⟩|(simp;done)
set_option maxRecDepth 20000 in
set_option maxHeartbeats 4000000 in
theorem zET (c n:Nat)(hc0:c≤1048576)(hn0:n≤1048576):Fn Tryz.prog tyT 23 [.c (.int .i64 c), .c (.int .i64 n)] [.agg (dMe (emM c n))]:=by
 unfold dMe emM
 refine qm (fn:=Tryz.f23) (rs:= [.cell 4 30]) zO zN Tryz.func23 (by kernel_rfl) rfl rfl (by rw [Tryz.ntmps23];exact Nat.le_of_ble_eq_true rfl) rfl (by simp only [szA,List.mem_cons,List.not_mem_nil,or_false,forall_eq_or_imp,forall_eq,VT.cells,szL];try decide) ?_
 rw [Tryz.ntmps23]
 push_cast
 refine θA ?_
 refine θA ?_
 refine zL fun K1 hK1=> ?_
 refine θA ?_
 refine zV ?_
 refine zg [5,6,7,8,10,11,12,13,14,15,16,17,18,19,20,21,22,23,24,25,26,27,28,29,30,31,32,33,34,35,36,37] [] (fun(k:Nat)=> [(6, .int .i64 k),(5, .bp 5 0)]) (fun k=> [(5,[.sl 80 [] 0 k 22, .sl 81 [] 0 k 22])]) (fun k=> [(80,⟨.ex,22,dII (List.replicate k (List.replicate n 0)),none⟩),(81,⟨.ex,22,dII (List.replicate k (List.replicate n (-1))),none⟩)]) (fun k=>k≤c) (fun k=>c - k) 0 ?_ (by omega) ?_
 ·
  rw [List.replicate_zero,List.replicate_zero]
  refine zY rfl ?_ ?_ ?_<;>push_cast [zb,za]
  all_goals first|rfl|exact⟨rfl,rfl⟩|skip
 ·rintro k hk KL0 hL0
  have hl1:(List.replicate k (List.replicate n (0:Int))).length=k:=List.length_replicate ..
  have hl2:(List.replicate k (List.replicate n (-1:Int))).length=k:=List.length_replicate ..
  push_cast
  refine zL fun K2 hK2=> ?_
  refine θA ?_
  refine θU (fun hc=> ?_) fun hc=> ?_
  ·
   refine zU (hK2 _ ?_)
   refine zL fun K3 hK3=> ?_
   refine zV ?_
   refine θA ?_
   refine zL fun K4 hK4=> ?_
   refine θA ?_
   refine zV ?_
   refine zg [8,17,18,19,20,21,22,23,24] [112] (fun(j:Nat)=> [(8, .int .i64 j)]) (fun j=> []) (fun j=> [(112,⟨.ex,2,dI (XJ n j),none⟩)]) (fun j=>j≤n) (fun j=>n - j) 0 ?_ (by omega) ?_
   ·
    rw [zLL]
    exact θX
    all_goals first|rfl|skip
   ·rintro j hj KL1 hL1
    have hfl:=zHK n j
    push_cast
    refine zL fun K5 hK5=> ?_
    refine θA ?_
    refine θU (fun hc=> ?_) fun hc=> ?_
    ·
     refine zU (hK5 _ ?_)
     refine zL fun K6 hK6=> ?_
     refine zV ?_
     refine θB ?_
     refine hK6 _ ?_
     refine θB ?_
     refine hL1 _ ⟨j+1,by omega,by omega,?_⟩
     rw [←zHM (by omega)]
     exact θX
     all_goals first|rfl|skip
    ·
     refine zh ?_
     have hjj:n=j:=by omega
     subst hjj
     rw [zHL]
     refine hK4 _ ?_
     refine zL fun K hK=> ?_
     refine zx false zO zN ya ?_ rfl ?_
     ·kernel_rfl
     intro E hE
     all_goals push_cast
     all_goals repeat'(first|(apply zP<;>(intro hg;push_cast at hg))|apply And.intro|(intro hg;push_cast at hg))
     all_goals first|exact gA|(refine hE _ _ ?_ ?_;kernel_rfl)|(exact zQ (by omega))|skip
     all_goals clear hE E
     refine hK _ ?_;clear hK K
     refine zf false zO zN ?_ rfl ?_
     ·kernel_rfl
     push_cast
     all_goals repeat'(first|(apply zP<;>(intro hg;push_cast at hg))|apply And.intro|(intro hg;push_cast at hg))
     all_goals first|exact gA|(exact zQ (by omega))|skip
     refine hK3 _ ?_
     refine qE [.sl 22, .sl 22] 5 ?_
     push_cast
     refine θB ?_
     refine hL0 _ ⟨k+1,by omega,by omega,?_⟩
     (try rw [List.take_of_length_le (l:=List.replicate k (List.replicate n (0:Int))) (by omega)])
     (try rw [List.take_of_length_le (l:=List.replicate k (List.replicate n (-1:Int))) (by omega)])
     (try rw [List.take_of_length_le (l:=List.replicate n (0:Int)) (by simp)])
     (try rw [List.take_of_length_le (l:=List.replicate n (-1:Int)) (by simp)])
     rw [Ud,Ud]
     exact θX
     all_goals first|rfl|exact⟨rfl,rfl⟩|skip
  ·
   refine zh ?_
   have hkk:k=c:=by omega
   subst hkk
   refine hK1 _ ?_
   refine θA ?_
   refine zZ ⟨Or.inl rfl,?_⟩
   push_cast [zd,zo,yA]
   all_goals first|rfl|exact⟨rfl,rfl⟩|(simp;done)
def usA (a:Ar)(p:Plc):List Int:=gl a.next p.at_.toNat
section
variable (a:Ar) (rc:Plc→List Int) (pr:Plc→Int) (p0:Plc)
def qC (n:Nat):List Int:=(List.range n).map fun j=>gi a.owner (plQ (usA a) rc p0 j).at_.toNat
def nxG (n:Nat):List (List Int):=(List.range n).map fun j=>nxQ (usA a) rc p0 j
def prG (n:Nat):List Int:=(List.range n).map fun j=>pr (plQ (usA a) rc p0 j)
def gmA (n:Nat):Pa:=⟨⟨qC a rc p0 n,nxG a rc p0 n⟩,prG a rc pr p0 n⟩
def gmR (c:Bool):Pa:=if c&&okQ (usA a) rc p0 then gmA a rc pr p0 (stQ (usA a) rc p0 257).length else⟨⟨[],[]⟩,[]⟩
def plR (c:Bool):List Plc:=if c&&okQ (usA a) rc p0 then stQ (usA a) rc p0 257 else []
end
variable {a:Ar} {rc:Plc→List Int} {pr:Plc→Int} {p0:Plc}
theorem vB (n:Nat):(qC a rc p0 n).length=n:=by simp [qC]
theorem WY (n:Nat):(nxG a rc p0 n).length=n:=by simp [nxG]
theorem QP (n:Nat):(prG a rc pr p0 n).length=n:=by simp [prG]
theorem zH1 (n:Nat):qC a rc p0 (n+1)=qC a rc p0 n++ [gi a.owner (plQ (usA a) rc p0 n).at_.toNat]:=by simp [qC,List.range_succ]
theorem zKa (n:Nat):nxG a rc p0 (n+1)=nxG a rc p0 n++ [nxQ (usA a) rc p0 n]:=by simp [nxG,List.range_succ]
theorem zKd (n:Nat):prG a rc pr p0 (n+1)=prG a rc pr p0 n++ [pr (plQ (usA a) rc p0 n)]:=by simp [prG,List.range_succ]
theorem zH0 :qC a rc p0 0= []:=rfl
theorem zKZ :nxG a rc p0 0= []:=rfl
theorem zKc :prG a rc pr p0 0= []:=rfl
theorem zC6 {c:Bool}(h:(c&&okQ (usA a) rc p0)=false):gmR a rc pr p0 c=⟨⟨[],[]⟩,[]⟩:=by unfold gmR;rw [h];rfl
theorem zDb {c:Bool}(h:(c&&okQ (usA a) rc p0)=false):plR a rc p0 c= []:=by unfold plR;rw [h];rfl
theorem zFE {c:Bool}{i:Nat}(hc:c=true)(hi:i≤256)(h: ¬i<(stQ (usA a) rc p0 i).length)(h2:i≤(stQ (usA a) rc p0 i).length):(c&&okQ (usA a) rc p0)=true∧gmR a rc pr p0 c=gmA a rc pr p0 i∧plR a rc p0 c=stQ (usA a) rc p0 i:=by
 obtain⟨h3,h4⟩:=zLt hi h
 have h5:(c&&okQ (usA a) rc p0)=true:=by rw [hc,h3];rfl
 have h6:(stQ (usA a) rc p0 i).length=i:=by omega
 refine⟨h5,?_,?_⟩
 ·unfold gmR;rw [h5,if_pos rfl,h4,h6]
 ·unfold plR;rw [h5,if_pos rfl,h4]
theorem jp (ha:yi a=true){p:Plc}(h:0≤p.at_∧p.at_<a.owner.length):1≤(usA a p).length∧(usA a p).length≤16∧∀u∈usA a p,0≤u∧u<a.owner.length:=by
 have hv:p.at_.toNat<a.owner.length:=by omega
 obtain⟨h1,h2,h3,h4,h5⟩:=yl ha hv
 refine⟨h3,h4,fun u hu=> ?_⟩
 have hu:u∈gl a.next p.at_.toNat:=hu
 obtain⟨j,hj,rfl⟩:=List.mem_iff_getElem.1 hu
 have :=va h5 hj
 unfold qr at this
 have :=of_decide_eq_true this
 have e:gi (gl a.next p.at_.toNat) j=(gl a.next p.at_.toNat)[j]:=by
  unfold gi
  rw [List.getD_eq_getElem?_getD,List.getElem?_eq_getElem hj]
  rfl
 rw [e]at this
 exact⟨this.1,this.2.1⟩
theorem zHZ {ps qs:List Plc}{i:Nat}(h:i<ps.length):gq (ps++qs) i=gq ps i:=by
 unfold gq
 rw [List.getD_eq_getElem?_getD,List.getElem?_append_left h,List.getD_eq_getElem?_getD]
theorem jj {r us:List Int}{ps:List Plc}{i:Nat}(hi:i<ps.length): ∀{k:Nat},k≤us.length→gq (zu r us ps k).1 i=gq ps i
 |0,_=>rfl
 |k+1,h=>by
  have h1:=jj (r:=r) (us:=us) hi (k:=k) (by omega)
  have h3:=(qK (r:=r) (us:=us) (ps:=ps) (k:=k) (by omega)).2.1
  by_cases h2:ixQ (xD (gi us k) r) (zu r us ps k).1<0
  ·rw [wS (by omega) h2]
   show gq ((zu r us ps k).1++ [_]) i=_
   rw [zHZ (by omega)];exact h1
  ·rw [ZF (by omega) h2];exact h1
structure Wr (a:Ar)(rc:Plc→List Int)(p0:Plc)(V:List Int→Prop)(B:Nat):Prop where
 first:0≤p0.at_∧p0.at_<(a.owner.length:Int)∧V p0.record
 next: ∀p:Plc,0≤p.at_→p.at_<(a.owner.length:Int)→V p.record→V (rc p)
 small: ∀r,V r→r.length≤B
theorem Yg {V:List Int→Prop}{B:Nat}(ha:yi a=true)(h:Wr a rc p0 V B)(i:Nat): ∀p∈stQ (usA a) rc p0 i,0≤p.at_∧p.at_<a.owner.length∧V p.record:=
 jk (O:=fun p=>0≤p.at_∧p.at_<a.owner.length∧V p.record) h.first (fun p hp u hu=>by
  have :=(jp ha ⟨hp.1,hp.2.1⟩).2.2 u hu
  exact⟨this.1,this.2,h.next p hp.1 hp.2.1 hp.2.2⟩) i
theorem zH4 {V:List Int→Prop}{B:Nat}(ha:yi a=true)(h:Wr a rc p0 V B){i k:Nat}(hi:i<(stQ (usA a) rc p0 i).length)(hk:k≤(usA a (gq (stQ (usA a) rc p0 i) i)).length): ∀p∈(zu (rc (gq (stQ (usA a) rc p0 i) i)) (usA a (gq (stQ (usA a) rc p0 i) i)) (stQ (usA a) rc p0 i) k).1,0≤p.at_∧p.at_<a.owner.length∧V p.record:=by
 have hp:=Yg ha h i _ (qH hi)
 exact Jc (O:=fun p=>0≤p.at_∧p.at_<a.owner.length∧V p.record) (Yg ha h i) (fun u hu=>by
  have :=(jp ha ⟨hp.1,hp.2.1⟩).2.2 u hu
  exact⟨this.1,this.2,h.next _ hp.1 hp.2.1 hp.2.2⟩) hk
theorem zNi {V:List Int→Prop}{B:Nat}(ha:yi a=true)(h:Wr a rc p0 V B){n:Nat}(hn:n≤1048576)(hall: ∀j,j<n→j<(stQ (usA a) rc p0 j).length):qV 1048576 (nxG a rc p0 n):=by
 refine⟨by rw [WY];exact hn,fun r hr=> ?_⟩
 unfold nxG at hr
 obtain⟨j,hj,rfl⟩:=List.mem_map.1 hr
 have hj:=hall j (List.mem_range.1 hj)
 have hp:=Yg ha h j _ (qH hj)
 have h2:=(jp ha ⟨hp.1,hp.2.1⟩).2.1
 unfold nxQ
 rw [qS]
 have h3:=(qK (r:=rc (gq (stQ (usA a) rc p0 j) j)) (us:=usA a (gq (stQ (usA a) rc p0 j) j)) (ps:=stQ (usA a) rc p0 j) (Nat.le_refl _)).1
 show(zu _ _ _ _).2.length≤_
 rw [h3]
 omega
theorem zFh {n:Nat}(h:n≤(stQ (usA a) rc p0 257).length)(hn:n≤257): ∀j,j<n→j<(stQ (usA a) rc p0 j).length:=fun j hj=>by
 rcases Nat.lt_or_ge j (stQ (usA a) rc p0 j).length with h1|h1
 ·exact h1
 ·have :=Ji (us:=usA a) (rc:=rc) (p0:=p0) (i:=j) (by omega) (j:=257) (by omega)
  rw [this]at h
  omega
theorem zNK {V:List Int→Prop}{B:Nat}{c:Bool}(ha:c=true→yi a=true∧Wr a rc p0 V B):(gmR a rc pr p0 c).Ln 1048576:=by
 cases hc:(c&&okQ (usA a) rc p0)with
 |false=>
  rw [zC6 hc]
  exact⟨⟨by unfold LnI;simp,⟨by simp,by simp⟩⟩,by unfold LnI;simp⟩
 |true=>
  have h1:=hc
  rw [Bool.and_eq_true]at h1
  obtain⟨h2,h3⟩:=ha h1.1
  have h4:(stQ (usA a) rc p0 257).length≤256:=by have :=h1.2;unfold okQ at this;exact of_decide_eq_true this
  unfold gmR
  rw [hc,if_pos rfl]
  have h5:=zFh (a:=a) (rc:=rc) (p0:=p0) (n:=(stQ (usA a) rc p0 257).length) (Nat.le_refl _) (by omega)
  obtain⟨n9,hn9⟩: ∃n9,n9=(stQ (usA a) rc p0 257).length:=⟨_,rfl⟩
  rw [←hn9]at h4 h5⊢
  refine⟨⟨?_,zNi h2 h3 (by omega) h5⟩,?_⟩
  ·show(qC a rc p0 _).length≤_;rw [vB];omega
  ·show(prG a rc pr p0 _).length≤_;rw [QP];omega
theorem zNk {V:List Int→Prop}{B:Nat}{c:Bool}(hB:B≤1048576)(ha:c=true→yi a=true∧Wr a rc p0 V B):QLn 1048576 (plR a rc p0 c):=by
 cases hc:(c&&okQ (usA a) rc p0)with
 |false=>
  rw [zDb hc]
  exact⟨by simp,by simp⟩
 |true=>
  have h1:=hc
  rw [Bool.and_eq_true]at h1
  obtain⟨h2,h3⟩:=ha h1.1
  have h4:(stQ (usA a) rc p0 257).length≤256:=by have :=h1.2;unfold okQ at this;exact of_decide_eq_true this
  unfold plR
  rw [hc,if_pos rfl]
  exact⟨by omega,fun p hp=>Nat.le_trans (h3.small _ (Yg h2 h3 257 p hp).2.2) hB⟩
set_option maxRecDepth 20000 in
set_option maxHeartbeats 4000000 in
theorem kR (p:Plc)(hp:p.record.length≤1048576)(u:Int)(r:List Int)(hr:r.length≤1048576):FnX Tryz.prog tyT 97 [.v (.agg [.int .i64 p.at_,DI p.record]), .ref (.lst 2 [.int .i64 u]), .ref (.lst 2 [DI r])] [.c (.bool (xD u r p))]:=by
 have hE:=ka p.record r hp hr
 refine QW (fn:=Tryz.f97) (rs:= [.tmp 4]) zO zN Tryz.func97 (by kernel_rfl) rfl rfl (by rw [Tryz.ntmps97];exact Nat.le_of_ble_eq_true rfl) rfl (by simp only [szX,List.mem_cons,List.not_mem_nil,or_false,forall_eq_or_imp,forall_eq,XT.cells,VT.cells,szL];try decide) ?_
 rw [Tryz.ntmps97]
 push_cast [↓zK,↓zJ]
 refine θA ?_
 refine zL fun K hK=> ?_
 refine zf false zO zN ?_ rfl ?_
 ·kernel_rfl
 all_goals refine yD 9 fun K9 hK9=> ?_
 all_goals push_cast [↓zK,↓zJ]
 all_goals repeat'(first|(apply zP<;>(intro hg;(try push_cast at hg)))|(refine⟨_,hE,?_⟩;push_cast [↓zK,↓zJ])|apply And.intro|(intro hg;(try push_cast at hg)))
 all_goals try exact gA
 all_goals(refine hK9 _ ?_;clear hK9 K9)
 all_goals push_cast [↓zK,↓zJ]
 all_goals repeat'(first|(apply zP<;>(intro hg;(try push_cast at hg)))|(refine⟨_,hE,?_⟩;push_cast [↓zK,↓zJ])|apply And.intro|(intro hg;(try push_cast at hg)))
 all_goals try exact gA
 all_goals(refine hK _ ?_;clear hK K)
 all_goals(
   refine zZ ⟨Or.inl rfl,?_⟩
   push_cast [zd,zo,yA,↓zK,↓zJ]
   all_goals first|exact(zBX (by omega)).symm|(unfold xD;rw [decide_eq_true (by with_reducible assumption)];rfl)|(unfold xD;simp_all;done))
set_option maxRecDepth 20000 in
set_option maxHeartbeats 4000000 in
theorem Jn (ps:List Plc)(ha:QLn 1048576 ps)(g:FuncId)(d1 d2:D)(c1 c2:List D)(q:Plc→Bool)(hp: ∀k,k<ps.length→FnX Tryz.prog tyT g [.v (.agg [.int .i64 (gq ps k).at_,DI (gq ps k).record]), .ref (.lst 2 (d1::c1)), .ref (.lst 2 (d2::c2))] [.c (.bool (q (gq ps k)))]):FnX Tryz.prog tyT 96 [.v (.c (.lst 59 (xF ps))), .clo g [.lst 2 (d1::c1), .lst 2 (d2::c2)]] [.c (.int .i64 (ixQ q ps))]:=by
 have hl:=ha.1
 have hgl:=fun k=>jR ha k
 refine QW (fn:=Tryz.f96) (rs:= [.tmp 4]) zO zN Tryz.func96 (by kernel_rfl) rfl rfl (by rw [Tryz.ntmps96];exact Nat.le_of_ble_eq_true rfl) rfl (by simp only [szX,List.mem_cons,List.not_mem_nil,or_false,forall_eq_or_imp,forall_eq,XT.cells,VT.cells,szL];try decide) ?_
 rw [Tryz.ntmps96]
 push_cast [↓zK,↓zJ]
 refine θA ?_
 refine zL fun K1 hK1=> ?_
 refine θA ?_
 refine zV ?_
 refine zg [4,5,8,9,10,11,12,13,14,15,16,17,18] [] (fun(k:Nat)=> [(8, .int .i64 k)]) (fun k=> []) (fun k=> []) (fun k=>k≤ps.length∧∀j,j<k→q (gq ps j)=false) (fun k=>ps.length - k) 0 ?_ ⟨by omega,fun j hj=>by omega⟩ ?_
 ·
  exact θX
 ·rintro k ⟨hk,hall⟩ KL0 hL0
  push_cast [↓zK,↓zJ]
  refine θA ?_
  refine zL fun K2 hK2=> ?_
  refine θU (fun hc=> ?_) fun hc=> ?_
  ·
   refine zU (hK2 _ ?_)
   refine zL fun K3 hK3=> ?_
   refine zV ?_
   refine θA ?_
   refine zL fun K hK=> ?_
   refine qh 16 2 rfl zO zN [] rfl ?_
   push_cast [↓zK,↓zJ]
   repeat' apply And.intro
   all_goals(try push_cast [↓zK,↓zJ])
   all_goals repeat'(first|(apply zP<;>(intro hg;(try push_cast at hg)))|(refine⟨_,hp k (by omega),?_⟩;push_cast [↓zK,↓zJ])|apply And.intro|(intro hg;(try push_cast at hg)))
   all_goals first|exact gA|(exact zX (by omega))|skip
   all_goals(refine hK _ ?_;clear hK K)
   refine θU (fun hc=> ?_) fun hc=> ?_
   ·
    refine θA ?_
    refine zZ ⟨Or.inl rfl,?_⟩
    push_cast [zd,zo,yA,↓zK,↓zJ]
    rw [zBF (k:=k) (by omega) (fun j hj=>hall j hj) hc]
   ·
    refine zU (hK3 _ ?_)
    refine θB ?_
    refine hL0 _ ⟨k+1,⟨by omega,fun j hj=>(by
      by_cases hjk:j=k
      ·subst hjk;exact hc
      ·exact hall j (by omega))⟩,by omega,?_⟩
    exact θX
  ·
   refine zh (hK1 _ ?_)
   refine θA ?_
   refine zZ ⟨Or.inl rfl,?_⟩
   push_cast [zd,zo,yA,↓zK,↓zJ]
   rw [kv fun j hj=>hall j (by omega)]
set_option maxRecDepth 20000 in
set_option maxHeartbeats 4000000 in
theorem UZ (ps:List Plc)(ha:QLn 1048576 ps)(u:Int)(r:List Int)(hr:r.length≤1048576):Fn Tryz.prog tyT 77 [.c (.lst 59 (xF ps)), .c (.int .i64 u), .c (DI r)] [.c (.int .i64 (ixQ (xD u r) ps))]:=by
 refine θH (ts:= [6]) Tryz.func77 Tryz.ntmps77 ?_
 push_cast [↓zK,↓zJ]
 refine θA ?_
 refine zL fun K hK=> ?_
 refine qh 9 2 rfl zO zN [] rfl ?_
 push_cast [↓zK,↓zJ]
 repeat' apply And.intro
 all_goals(try push_cast [↓zK,↓zJ])
 all_goals repeat'(first|(apply zP<;>(intro hg;(try push_cast at hg)))|(refine⟨_,Jn ps ha _ (.int .i64 u) (DI r) [] [] (xD u r) (fun k hk=>kR (gq ps k) (jR ha k) u r hr),?_⟩;push_cast [↓zK,↓zJ])|apply And.intro|(intro hg;(try push_cast at hg)))
 all_goals first|exact gA|decide|skip
 all_goals(refine hK _ ?_;clear hK K)
 refine zZ ⟨Or.inl rfl,?_⟩
 push_cast [zd,↓zK,↓zJ]
section
variable {P:Program} {τ:Ty} {st:St}
def Xe :List (Nat×zq)→List (Nat×zq)
 | []=> []
 |(d,R)::l=>(d,{R with pin:=none})::Xe l
def St.unpin (st:St):St:=⟨st.n,st.s,st.b,Xe st.r⟩
theorem XZ : ∀(l:List (Nat×zq)) (d:Nat) (R':zq),lk (Xe l) d=some R'→∃R,lk l d=some R∧R'={R with pin:=none}
 | [],d,R',h=>by simp [Xe,lk]at h
 |(k,R)::l,d,R',h=>by
  simp only [Xe,lk]at h⊢
  split at h
  ·rename_i e
   rw [if_pos e]
   cases h
   exact⟨R,rfl,rfl⟩
  ·rename_i e
   rw [if_neg e]
   exact XZ l d R' h
mutual
theorem zAn {w:World}{rr:List (Nat×zq)}{bb:List (Nat×List AV)}{hd:Nat→Value}{bk:Nat→Nat}: ∀(v:AV) (z:Value),AvR τ w rr bb hd bk v z→AvR τ w (Xe rr) bb hd bk v z
 | .int k n,z,h=>by simp only [AvR]at h⊢;exact h
 | .bool b,z,h=>by simp only [AvR]at h⊢;exact h
 | .sl d p off len e,z,h=>by
  simp only [AvR]at h⊢
  refine⟨h.1,fun R' hR' hp=> ?_⟩
  obtain⟨R,hR,rfl⟩:=XZ _ _ _ hR'
  exact h.2 R hR hp
 | .nil,z,h=>by simp only [AvR]at h⊢;exact h
 | .ep d p i,z,h=>by
  simp only [AvR]at h⊢
  refine⟨h.1,fun R' hR' hp=> ?_⟩
  obtain⟨R,hR,rfl⟩:=XZ _ _ _ hR'
  exact h.2 R hR hp
 | .bp t i,z,h=>by simp only [AvR]at h⊢;exact h
 | .agg vs,z,h=>by
  simp only [AvR]at h⊢
  obtain⟨cs,h1,h2⟩:=h
  exact⟨cs,h1,YN vs cs h2⟩
 | .tup vs,z,h=>by
  simp only [AvR]at h⊢
  obtain⟨cs,h1,h2⟩:=h
  exact⟨cs,h1,YN vs cs h2⟩
 | .fn f vs,z,h=>by
  simp only [AvR]at h⊢
  obtain⟨cs,h1,h2⟩:=h
  exact⟨cs,h1,YN vs cs h2⟩
 | .dead,z,h=>by simp only [AvR]
 | .raw u,z,h=>by simpa only [AvR]using h
theorem YN {w:World}{rr:List (Nat×zq)}{bb:List (Nat×List AV)}{hd:Nat→Value}{bk:Nat→Nat}: ∀(vs:List AV) (zs:List Value),ze τ w rr bb hd bk vs zs→ze τ w (Xe rr) bb hd bk vs zs
 | [],zs,h=>by simp only [ze]at h⊢;exact h
 |x::xs,zs,h=>by
  simp only [ze]at h⊢
  obtain⟨v,vs',h1,h2,h3⟩:=h
  exact⟨v,vs',h1,zAn x v h2,YN xs vs' h3⟩
end
theorem zG6 {c:Code}{Q:Exit→St→Prop}(hK:awp P τ c Q st.unpin):awp P τ c Q st:=fun lo w0 a w hr=>by
 obtain⟨ow,hd,bk,h⟩:=hr
 refine hK lo w0 a w ⟨ow,hd,bk,h.big,h.defers,h.size,h.low,h.below,h.ge,h.new,fun k v hv=>zAn v _ (h.slot k v hv),fun d R' hR'=> ?_,fun t vs hv=> ?_,fun d R' i hR' hp=> ?_⟩
 ·obtain⟨R,hR,rfl⟩:=XZ _ _ _ hR'
  exact h.root d R hR
 ·obtain⟨cs,ty,h1,h2,h3⟩:=h.box t vs hv
  exact⟨cs,ty,h1,h2,YN vs cs h3⟩
 ·obtain⟨R,hR,rfl⟩:=XZ _ _ _ hR'
  cases hp
end
attribute [push_cast] St.unpin Xe
set_option maxRecDepth 20000 in
set_option maxHeartbeats 4000000 in
theorem zBl (g:Pa)(hg:g.Ln 1000000)(o p:Int)(nx:List Int)(hx:nx.length≤1000000):FnG Tryz.prog tyT 79 [.agg (dPa g), .c (.int .i64 o), .c (.int .i64 p), .c (DI nx)] [0,1,2,48] [] [.agg (dPa ⟨⟨g.a.owner++ [o],g.a.next++ [nx]⟩,g.prio++ [p]⟩)]:=by
 have h1:=hg.a.owner
 have h2:=hg.a.next.1
 have h3:=hg.prio
 unfold LnI at h1 h3
 unfold dPa
 refine QV (fn:=Tryz.f79) (rs:= [.cell 8 50]) (own:= [0,1,2,48]) (outs:= []) zO zN Tryz.func79 (by kernel_rfl) rfl rfl (by rw [Tryz.ntmps79];exact Nat.le_of_ble_eq_true rfl) rfl (by simp only [szA,List.mem_cons,List.not_mem_nil,or_false,forall_eq_or_imp,forall_eq,VT.cells,szL];try decide) ?_
 rw [Tryz.ntmps79]
 push_cast
 refine θA ?_
 refine zG6 ?_
 push_cast
 refine θA ?_
 refine θN ?_
 refine θA ?_
 refine θA ?_
 refine zZ ⟨Or.inl rfl,?_⟩
 push_cast [zd,zo,yA]
 exact⟨by decide,by simp,by simp,by simp⟩
theorem zJ9 {us rc:Plc→List Int}{p0:Plc}{n:Nat}(h:n≤(stQ us rc p0 n).length): ∀j,j<n→j<(stQ us rc p0 j).length:=fun j hj=>by
 rcases Nat.lt_or_ge j (stQ us rc p0 j).length with h1|h1
 ·exact h1
 ·have :=Ji (us:=us) (rc:=rc) (p0:=p0) (i:=j) (by omega) (j:=n) (by omega)
  rw [this]at h
  omega
theorem zLs {a:Ar}{rc:Plc→List Int}{p0:Plc}{V:List Int→Prop}{B:Nat}(ha:yi a=true)(h:Wr a rc p0 V B){n:Nat}(hall: ∀j,j<n→j<(stQ (usA a) rc p0 j).length): ∀r∈nxG a rc p0 n,r.length≤16:=fun r hr=>by
 unfold nxG at hr
 obtain⟨j,hj,rfl⟩:=List.mem_map.1 hr
 have hj:=hall j (List.mem_range.1 hj)
 have hp:=Yg ha h j _ (qH hj)
 have h2:=(jp ha ⟨hp.1,hp.2.1⟩).2.1
 unfold nxQ
 rw [qS]
 have h3:=(qK (r:=rc (gq (stQ (usA a) rc p0 j) j)) (us:=usA a (gq (stQ (usA a) rc p0 j) j)) (ps:=stQ (usA a) rc p0 j) (Nat.le_refl _)).1
 show(zu _ _ _ _).2.length≤_
 rw [h3]
 omega
end Go.Proofs.YtcleaokoimhedaaGreat
