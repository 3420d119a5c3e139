/- The reference solver: the game both ways, who wins, small functions; walks -/
import Derived.Test.YtcleaokoimhedaaGreatB17zmo
import Derived.Test.YtcleaokoimhedaaGreatB9zmo
import Derived.Test.YtcleaokoimhedaaGreatB6zmo
namespace Go.Proofs.YtcleaokoimhedaaGreat
open Nat renaming reduceMod → zA, reduceMul → zB, reduceDiv → zC, reduceAdd → zD, reduceSub → zE, reduceEqDiff → zF, reduceBEq → zG, reduceLT → zH, reduceLeDiff → zI
open Go.RowKit
set_option linter.unusedVariables false
set_option linter.unusedSimpArgs false
theorem noP_s (k:Nat):noP (k+1)=noP k++ [-1]:=List.replicate_succ'
def pkI (n v:Nat):List Int:=List.replicate v (-1)++List.replicate (n - v) 0
theorem zFS {n v:Nat}(h:v≤n):(pkI n v).length=n:=by unfold pkI;simp;omega
theorem pkI_0 (n:Nat):pkI n 0=List.replicate n 0:=by simp [pkI]
theorem pkI_n (n:Nat):pkI n n=noP n:=by simp [pkI,noP]
theorem zL0 {n v:Nat}(h:v<n):(pkI n v).set v (-1)=pkI n (v+1):=by
 unfold pkI
 rw [List.set_append_right _ _ (by simp),List.length_replicate,Nat.sub_self,show n - v=(n - (v+1))+1 from by omega,List.replicate_succ,List.set_cons_zero,List.replicate_succ',List.append_assoc]
 rfl
def zDk (won:List Int)(who:Int)(v:Nat):Bool:=gi won v==who
def yS (won:List Int)(who:Int):List Bool:=yg won.length (zDk won who)
def Xu (region win:List Bool)(who:Int):Bool:= !vr (yg region.length (yN region win who)) region.length
theorem zBD {region win:List Bool}{who:Int}(h: ∀v,v<region.length→yN region win who v=false):Xu region win who=true:=by
 unfold Xu
 rw [Bool.not_eq_true',Bool.eq_false_iff]
 intro e
 obtain⟨v,hv,e2⟩:=vS.1 e
 rw [yX hv,h v hv]at e2
 cases e2
theorem zDA {region win:List Bool}{who:Int}{v:Nat}(hv:v<region.length)(h:yN region win who v=true):Xu region win who=false:=by
 unfold Xu
 rw [Bool.not_eq_false',vS]
 exact⟨v,hv,by rw [yX hv];exact h⟩
theorem zLh {rest low:List Bool}{who:Int}{v:Nat}(h:gb rest v=false):yN rest low who v=false:=by unfold yN;rw [h];rfl
theorem zDn {a b:List Int}(h:a.length=b.length)(h2: ∀k,k<a.length→gi a k=gi b k):a=b:=by
 refine List.ext_getElem? fun k=> ?_
 by_cases hk:k<a.length
 ·rw [qk hk,qk (by omega),h2 k hk]
 ·rw [List.getElem?_eq_none (by omega),List.getElem?_eq_none (by omega)]
theorem zJ3 {P:List (List Int)}{u m:Nat}{r:List Int}(hu:u<P.length)(hm:r.length≤m):List.take u ((dII P).set u D.hole)++ [D.lst 2 (dI (List.take m r))]++List.drop (u+1) ((dII P).set u D.hole)=dII (P.set u r):=by
 have e:dII (P.set u r)=(dII P).set u (D.lst 2 (dI r)):=by unfold dII;rw [List.map_set]
 have hl:u<(dII P).length:=by rw [qP];exact hu
 rw [e,List.take_of_length_le hm,List.take_set,List.set_eq_of_length_le (by simp;omega),List.drop_set_of_lt (by omega),List.set_eq_take_append_cons_drop,if_pos hl]
 simp
set_option maxRecDepth 20000 in
set_option maxHeartbeats 4000000 in
theorem zHi (n:Nat)(hn:n≤1048576):Fn Tryz.prog tyT 50 [.c (.int .i64 n)] [.c (DI (noP n))]:=by
 refine θH (ts:= [2]) Tryz.func50 Tryz.ntmps50 ?_
 push_cast
 refine θA ?_
 refine θA ?_
 refine zL fun K1 hK1=> ?_
 refine θA ?_
 refine zV ?_
 refine zg [3,4,6,7,8,9,10,11,12,13] [48] (fun(k:Nat)=> [(4, .int .i64 k),(3, .sl 48 [] 0 k 2)]) (fun k=> []) (fun k=> [(48,⟨.ex,2,dI (noP k),none⟩)]) (fun k=>k≤n) (fun k=>n - k) 0 ?_ (by omega) ?_
 ·
  rw [show dI (noP 0)= []from rfl]
  exact θX
 ·rintro k hk KL0 hL0
  have hfl:=xy k
  push_cast
  refine zL fun K2 hK2=> ?_
  refine θA ?_
  refine θU (fun hc=> ?_) fun hc=> ?_
  ·
   refine zU (hK2 _ ?_)
   refine zL fun K3 hK3=> ?_
   refine zV ?_
   refine θB ?_
   refine hK3 _ ?_
   refine θB ?_
   refine hL0 _ ⟨k+1,by omega,by omega,?_⟩
   (try rw [List.take_of_length_le (l:=noP k) (by omega)])
   rw [noP_s]
   exact θX
  ·
   refine zh ?_
   have hkk:k=n:=by omega
   subst hkk
   refine hK1 _ ?_
   refine θA ?_
   refine zZ ⟨Or.inl rfl,?_⟩
   push_cast [zd]
   all_goals first|rfl|exact⟨rfl,by simp [xy]⟩|(simp [xy];done)
set_option maxRecDepth 20000 in
set_option maxHeartbeats 4000000 in
theorem zEV (won:List Int)(hn:won.length≤256)(who:Int):Fn Tryz.prog tyT 75 [.c (DI won), .c (.int .i64 who)] [.c (.lst 4 (dB (yS won who)))]:=by
 refine θH (ts:= [4]) Tryz.func75 Tryz.ntmps75 ?_
 push_cast
 refine θA ?_
 refine θA ?_
 refine zL fun K1 hK1=> ?_
 refine θA ?_
 refine zV ?_
 refine zg [6,10,11,12,13,14,15,16,17,18,19,20,21,22,23,24] [80] (fun(k:Nat)=> [(6, .int .i64 k),(5, .sl 80 [] 0 won.length 4)]) (fun k=> []) (fun k=> [(80,⟨.ex,4,dB (mkB won.length (zDk won who) k),none⟩)]) (fun k=>k≤won.length) (fun k=>won.length - k) 0 ?_ (by omega) ?_
 ·
  rw [QA]
  exact θX
 ·rintro k hk KL0 hL0
  have hml:=wb (f:=zDk won who) hk
  push_cast
  refine zL fun K2 hK2=> ?_
  refine θA ?_
  refine θU (fun hc=> ?_) fun hc=> ?_
  ·
   refine zU (hK2 _ ?_)
   refine zL fun K3 hK3=> ?_
   refine zV ?_
   refine θB ?_
   refine hK3 _ ?_
   refine θB ?_
   refine hL0 _ ⟨k+1,by omega,by omega,?_⟩
   rw [show(mkB won.length (zDk won who) k).set k (gi won k==who)=mkB won.length (zDk won who) (k+1)from qc (by omega)]
   exact θX
  ·
   refine zh ?_
   have hkk:k=won.length:=by omega
   subst hkk
   refine hK1 _ ?_
   refine θA ?_
   refine zZ ⟨Or.inl rfl,?_⟩
   push_cast [zd]
   rw [QN]
   unfold yS
   all_goals first|rfl|exact⟨rfl,by simp [yg]⟩|(simp [yg];done)
set_option maxRecDepth 20000 in
set_option maxHeartbeats 4000000 in
theorem zHk (a b:List Int)(ha:a.length≤1048576)(hb:b.length≤1048576):Fn Tryz.prog tyT 91 [.c (DI a), .c (DI b)] [.c (.bool (decide (a=b)))]:=by
 refine θH (ts:= [4]) Tryz.func91 Tryz.ntmps91 ?_
 push_cast
 refine θA ?_
 refine zL fun K1 hK1=> ?_
 refine θA ?_
 refine θU (fun hc=> ?_) fun hc=> ?_
 ·
  refine θA ?_
  refine zZ ⟨Or.inl rfl,?_⟩
  push_cast [zd]
  symm;exact decide_eq_false fun e=>by subst e;omega
 ·
  refine zU (hK1 _ ?_)
  refine zL fun K2 hK2=> ?_
  refine θA ?_
  refine zV ?_
  refine zg [4,5,11,12,13,14,15,16,17,18,19,20,21,22,23,24,25] [] (fun(k:Nat)=> [(5, .int .i64 k)]) (fun k=> []) (fun k=> []) (fun k=>k≤a.length∧∀j,j<k→gi a j=gi b j) (fun k=>a.length - k) 0 ?_ ⟨by omega,fun j hj=>by omega⟩ ?_
  ·
   exact θX
  ·rintro k ⟨hk,hall⟩ KL0 hL0
   push_cast
   refine zL fun K3 hK3=> ?_
   refine θA ?_
   refine θU (fun hc=> ?_) fun hc=> ?_
   ·
    refine zU (hK3 _ ?_)
    refine zL fun K4 hK4=> ?_
    refine zV ?_
    refine zL fun K hK=> ?_
    refine xY false zO zN ya ?_ rfl ?_
    ·kernel_rfl
    intro C hC
    push_cast
    repeat' apply And.intro
    all_goals first|omega|with_reducible assumption|(refine hC _ ?_;kernel_rfl)|(simp only [List.length_set,List.length_append,List.length_replicate,List.length_cons,List.length_nil];omega)|skip
    all_goals first|(refine hK _ ?_;clear hC C hK K)|(simp only [push_cast];done)
    refine θU (fun hc=> ?_) fun hc=> ?_
    ·
     refine θA ?_
     refine zZ ⟨Or.inl rfl,?_⟩
     push_cast [zd]
     symm;exact decide_eq_false fun e=>by subst e;omega
    ·
     refine zU (hK4 _ ?_)
     refine θB ?_
     refine hL0 _ ⟨k+1,⟨by omega,fun j hj=>by
       by_cases hjk:j=k
       ·subst hjk;omega
       ·exact hall j (by omega)⟩,by omega,?_⟩
     exact θX
   ·
    refine zh (hK2 _ ?_)
    refine θA ?_
    refine zZ ⟨Or.inl rfl,?_⟩
    push_cast [zd]
    symm;exact decide_eq_true (zDn (by omega) fun k2 hk2=>hall k2 (by omega))
set_option maxRecDepth 20000 in
set_option maxHeartbeats 4000000 in
theorem zGO (x:L7)(inn:List Bool)(hx:x.Ok inn.length)(f:Nat)(hf:yz inn inn.length<f)(who:Int):Fn Tryz.prog tyT 95 [.agg (dL7 x), .c (.lst 4 (dB inn)), .c (.int .i64 who)] [.c (.bool (Xu inn (yV x inn.length f inn) who))]:=by
 have hn1:=hx.hn
 have hW:=JM x f inn hx hf
 have hwl:=Jm x inn.length f inn
 generalize yV x inn.length f inn=win at hW hwl⊢
 unfold dL7 at hW⊢
 refine θH (ts:= [6]) Tryz.func95 Tryz.ntmps95 ?_
 push_cast [↓zK,↓zJ]
 refine θA ?_
 refine θL fun K hK=> ?_
 refine θD 3 ?_
 refine θE hK ?_
 refine zL fun K1 hK1=> ?_
 refine θA ?_
 refine zV ?_
 refine zg [6,8,12,13,14,15,16,17,18,19,20,21,22,23,24,25,26,27,28,29,30] [] (fun(k:Nat)=> [(8, .int .i64 k)]) (fun k=> []) (fun k=> []) (fun k=>k≤inn.length∧∀j,j<k→yN inn win who j=false) (fun k=>inn.length - k) 0 ?_ ⟨by omega,fun j hj=>by omega⟩ ?_
 ·
  exact θX
 ·rintro k ⟨hk,hall⟩ KL0 hL0
  push_cast [↓zK,↓zJ]
  refine zL fun K2 hK2=> ?_
  refine θA ?_
  refine θU (fun hc=> ?_) fun hc=> ?_
  ·
   refine zU (hK2 _ ?_)
   refine zL fun K3 hK3=> ?_
   refine zV ?_
   refine zL fun K hK=> ?_
   refine zf false zO zN ?_ rfl ?_
   ·kernel_rfl
   all_goals push_cast [↓zK,↓zJ]
   all_goals repeat'(first|(apply zP<;>(intro hg;(try simp only [push_cast]at hg)))|apply And.intro|(intro hg;(try simp only [push_cast]at hg)))
   all_goals try exact gA
   all_goals(refine hK _ ?_;clear hK K)
   all_goals refine zT rfl (fun hc=> ?_) (fun hc=> ?_)
   all_goals(first|(cases hc;done)|skip)
   all_goals(try simp only [push_cast]at hc)
   all_goals first
    |(
      refine zU (hK3 _ ?_)
      refine θB ?_
      refine hL0 _ ⟨k+1,⟨by omega,fun j hj=>by
        by_cases hjk:j=k
        ·subst hjk;first|exact zLh (by with_reducible assumption)|(unfold yN;rw [show gb inn j=true from by with_reducible assumption,Bool.true_and];simpa using hc)
        ·exact hall j (by omega)⟩,by omega,?_⟩
      exact θX
      done)
    |(
      refine θA ?_
      refine zZ ⟨Or.inl rfl,?_⟩
      push_cast [zd,↓zK,↓zJ]
      symm;refine zDA (v:=k) (by omega) ?_
      unfold yN;rw [show gb inn k=true from by with_reducible assumption,Bool.true_and];simpa using hc
      done)
  ·
   refine zh (hK1 _ ?_)
   refine θA ?_
   refine zZ ⟨Or.inl rfl,?_⟩
   push_cast [zd,↓zK,↓zJ]
   symm;exact zBD fun v hv=>hall v (by omega)
set_option maxRecDepth 20000 in
set_option maxHeartbeats 4000000 in
theorem zGP (g:Pa)(hg:g.Ln 1048576):Fn Tryz.prog tyT 105 [.agg (dPa g), .c (DI (noP g.prio.length))] [.c (.bool true)]:=by
 have hp:=hg.prio
 unfold LnI at hp
 have hnl:=xy g.prio.length
 have hng:=Yf g.prio.length
 generalize noP g.prio.length=ps at hnl hng⊢
 unfold dPa
 refine θH (ts:= [4]) Tryz.func105 Tryz.ntmps105 ?_
 push_cast
 refine θA ?_
 refine zL fun K1 hK1=> ?_
 refine θA ?_
 refine zT rfl (fun hc=> ?_) (fun hc=> ?_)
 skip
 ·exfalso;first|(cases hc;done)|(simp only [push_cast]at hc;done)|(simp only [push_cast]at hc;omega)|omega
 refine zU (hK1 _ ?_)
 refine zL fun K2 hK2=> ?_
 refine θA ?_
 refine zV ?_
 refine zg [4,5,12,13,14,15,16,17,18,19,20,21,22,23,24,25,26,27,28,29,30,31,32,33,34,35,36] [] (fun(k:Nat)=> [(5, .int .i64 k)]) (fun k=> []) (fun k=> []) (fun k=>k≤ps.length) (fun k=>ps.length - k) 0 ?_ (by omega) ?_
 ·
  exact θX
 ·rintro k hk KL0 hL0
  push_cast
  refine zL fun K3 hK3=> ?_
  refine θA ?_
  refine θU (fun hc=> ?_) fun hc=> ?_
  ·
   refine zU (hK3 _ ?_)
   refine zL fun K4 hK4=> ?_
   refine zV ?_
   have hpk:=hng k (by omega)
   refine zL fun K hK=> ?_
   refine zx false zO zN ya ?_ rfl ?_
   ·kernel_rfl
   intro E hE
   all_goals refine yb 17 (by decide) fun K9 hK9=> ?_
   all_goals push_cast
   all_goals repeat'(first|(apply zP<;>(intro hg;push_cast at hg))|apply And.intro|(intro hg;push_cast at hg))
   all_goals try exact gA
   refine hK9 _ _ ?_;clear hK9 K9
   all_goals push_cast
   all_goals repeat'(first|(apply zP<;>(intro hg;push_cast at hg))|apply And.intro|(intro hg;push_cast at hg))
   all_goals first|exact gA|(refine hE _ _ ?_ ?_;kernel_rfl)|skip
   all_goals clear hE E
   refine hK _ ?_;clear hK K
   all_goals(
     refine zT rfl (fun hc=> ?_) (fun hc=> ?_)
     skip
     ·exfalso;first|(cases hc;done)|(simp only [push_cast]at hc;done)|(simp only [push_cast]at hc;omega)|omega
     refine zU (hK4 _ ?_)
     refine θB ?_
     refine hL0 _ ⟨k+1,by omega,by omega,?_⟩
     refine zY rfl ?_ ?_ ?_<;>push_cast [zb,za])
  ·
   refine zh (hK2 _ ?_)
   refine θA ?_
   refine zZ ⟨Or.inl rfl,?_⟩
   push_cast [zd]
set_option maxRecDepth 20000 in
set_option maxHeartbeats 4000000 in
theorem zFK (g:Pa)(hok:yL g=true):FnT Tryz.prog tyT 74 [.agg (dPa g)] [0,2,1] [DII (xq g.a g.a.owner.length g.a.owner.length 0),DI (noP g.a.owner.length)]:=by
 obtain⟨hao,hpl,hpr⟩:=yJ hok
 have hal:=yQ hao
 have hrow:=fun v hv=>(yl hao (v:=v) hv).2.2
 have hset:=fun v j hv hj=>qf (yl hao (v:=v) hv).2.2.2.2 (j:=j) hj
 obtain⟨n,hn⟩: ∃n,g.a.owner.length=n:=⟨_,rfl⟩
 rw [hn]at hal hpl hrow hset
 rw [hn]
 unfold dPa
 refine zMb (fn:=Tryz.f74) (rs:= [.cell 2 96]) zO zN Tryz.func74 (by kernel_rfl) rfl rfl (by rw [Tryz.ntmps74];exact Nat.le_of_ble_eq_true rfl) rfl (by simp only [szA,List.mem_cons,List.not_mem_nil,or_false,forall_eq_or_imp,forall_eq,VT.cells,szL];try decide) rfl ?_
 rw [Tryz.ntmps74]
 push_cast
 (try rw [hn])
 (try rw [hpl])
 (try rw [hal.2.2])
 refine θA ?_
 refine θA ?_
 refine zL fun K hK=> ?_
 refine zx true zO zN ya ?_ rfl ?_
 ·kernel_rfl
 intro E hE
 all_goals push_cast
 all_goals repeat'(first|(apply zP<;>(intro hg;push_cast at hg))|apply And.intro|(intro hg;push_cast at hg))
 all_goals first|exact gA|(refine hE _ _ ?_ ?_;kernel_rfl)|(exact zQ (by omega))|skip
 all_goals clear hE E
 refine hK _ ?_;clear hK K
 refine zL fun K1 hK1=> ?_
 refine Qg [64,65,66] [.sl 2, .sl 2, .sl 22, .sl 22, .sl 2] 4 ?_
 push_cast
 refine θA ?_
 refine zV ?_
 refine zg [4,5,6,7,24,25,26,27,28,29,30,31,32,33,34,35,36,37,38,39,40,41,42,43,44,45,46,47,48,49,50,51,52,53,54,55,56,57,58,59,60,61,62,63,64] [67,68] (fun(v:Nat)=> [(5, .int .i64 v),(4, .bp 4 0)]) (fun v=> [(4,[.sl 0 [] 0 n 2, .sl 2 [] 0 n 2, .sl 1 [] 0 n 22, .sl 67 [] 0 n 22, .sl 68 [] 0 n 2])]) (fun v=> [(67,⟨.ex,22,dII (xq g.a n v 0),none⟩),(68,⟨.ex,2,dI (pkI n v),none⟩)]) (fun v=>v≤n) (fun v=>n - v) 0 ?_ (by omega) ?_
 ·
  rw [zBV,pkI_0]
  refine zY rfl ?_ ?_ ?_<;>push_cast [zb,za]
  all_goals(simp [dII,dI];done)
 ·rintro v hv KL0 hL0
  have hpv:=vT g.a n v 0
  have hpk:=zFS hv
  push_cast
  refine zL fun K2 hK2=> ?_
  refine θA ?_
  refine θU (fun hc=> ?_) fun hc=> ?_
  ·
   refine zU (hK2 _ ?_)
   refine zL fun K3 hK3=> ?_
   refine zV ?_
   refine θA ?_
   refine θA ?_
   refine zV ?_
   refine zg [4,6,7,33,34,35,36,37,38,39,40,41,42,43,44,45,46,47,48,49,50,51,52,53,54,55,56,57,58,59,60,61,62,63,64] [67,68] (fun(i:Nat)=> [(6, .int .i64 i),(4, .bp 4 0)]) (fun i=> [(4,[.sl 0 [] 0 n 2, .sl 2 [] 0 n 2, .sl 1 [] 0 n 22, .sl 67 [] 0 n 22, .sl 68 [] 0 n 2])]) (fun i=> [(67,⟨.ex,22,dII (xq g.a n v i),none⟩),(68,⟨.ex,2,dI (pkI n (v+1)),none⟩)]) (fun i=>i≤(gl g.a.next v).length) (fun i=>(gl g.a.next v).length - i) 0 ?_ (by omega) ?_
   ·
    rw [zL0 (by omega)]
    exact θX
   ·rintro i hi KL1 hL1
    have hpv:=vT g.a n v i
    have hpk:=zFS (n:=n) (v:=v+1) (by omega)
    push_cast
    refine zL fun K4 hK4=> ?_
    refine θA ?_
    refine θU (fun hc=> ?_) fun hc=> ?_
    ·
     refine zU (hK4 _ ?_)
     refine zL fun K5 hK5=> ?_
     refine zV ?_
     refine θA ?_
     have hrv:=(hrow v (by omega)).2.1
     have hst:=hset v i (by omega) (by omega)
     have hps:=zBU hao (n:=n) (v:=v) (i:=i) (by omega) (by omega) (by omega)
     have hpe:(gl (xq g.a n v i) (gi (gl g.a.next v) i).toNat).length≤v+1:=by rw [jg (by omega)];exact zDg _ _ _ _
     refine zx true zO zN ya ?_ rfl ?_
     ·kernel_rfl
     intro E hE
     all_goals push_cast
     all_goals repeat'(first|(apply zP<;>(intro hg;push_cast at hg))|apply And.intro|(intro hg;push_cast at hg))
     all_goals first|exact gA|(refine hE _ _ ?_ ?_;kernel_rfl)|(rw [List.length_set,qP];omega)|(exact zQ (by omega))|skip
     all_goals clear hE E
     refine hK5 _ ?_
     refine θB ?_
     refine hL1 _ ⟨i+1,by omega,by omega,?_⟩
     refine zY rfl ?_ ?_ ?_<;>push_cast [zb,za]
     all_goals(rw [zJ3 (by omega) (by rw [List.length_append];exact Nat.le_refl _),hps])
    ·
     refine zh ?_
     have hii:i=(gl g.a.next v).length:=by omega
     subst hii
     rw [zBT]
     refine hK3 _ ?_
     refine θB ?_
     refine hL0 _ ⟨v+1,by omega,by omega,?_⟩
     exact θX
  ·
   refine zh ?_
   have hvv:v=n:=by omega
   subst hvv
   refine hK1 _ ?_
   refine zL fun K hK=> ?_
   refine zM zO zN [32,33,34] rfl ?_
   push_cast
   repeat' apply And.intro
   all_goals try exact gB
   refine hK _ ?_;clear hK K
   refine zZ ⟨Or.inl rfl,?_⟩
   push_cast [RetT,zo,yA,Jf,vV,YL]
   rw [pkI_n]
   exact⟨⟨by omega,by omega,by omega⟩,by omega,rfl,by rw [xy]⟩
set_option maxRecDepth 20000 in
set_option maxHeartbeats 4000000 in
theorem zBI (b:Bool):Fn Tryz.prog tyT 94 [.c (.bool b)] [.c (.int .i64 (if b then 1 else 0))]:=by
 refine θH (ts:= [2]) Tryz.func94 Tryz.ntmps94 ?_
 push_cast
 refine θA ?_
 refine zL fun K1 hK1=> ?_
 refine θA ?_
 refine θU (fun hc=> ?_) fun hc=> ?_
 ·
  refine θA ?_
  refine zZ ⟨Or.inl rfl,?_⟩
  push_cast [zd]
  rw [show b=true from by with_reducible assumption];rfl
 ·
  refine zU (hK1 _ ?_)
  refine θA ?_
  refine zZ ⟨Or.inl rfl,?_⟩
  push_cast [zd]
  rw [show b=false from by with_reducible assumption];rfl
end Go.Proofs.YtcleaokoimhedaaGreat
