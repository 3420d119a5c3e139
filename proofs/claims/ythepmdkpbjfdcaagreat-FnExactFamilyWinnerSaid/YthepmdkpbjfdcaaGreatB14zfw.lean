/- The reference solver: who wins, the plan; walks -/
import Derived.Test.YthepmdkpbjfdcaaGreatB13zfw
import Derived.Test.YthepmdkpbjfdcaaGreatB6zfw
namespace Go.Proofs.YthepmdkpbjfdcaaGreat
open Nat renaming reduceMod → zA, reduceMul → zB, reduceDiv → zC, reduceAdd → zD, reduceSub → zE, reduceEqDiff → zF, reduceBEq → zG, reduceLT → zH, reduceLeDiff → zI
open Go.RowKit
set_option linter.unusedVariables false
set_option linter.unusedSimpArgs false
theorem zDn {s:List Bool}{k:Nat}(h:k<s.length):(s.take (k+1)).map YE=(s.take k).map YE++ [YE (gb s k)]:=by
 rw [List.take_add_one,List.map_append]
 unfold gb
 rw [List.getD_eq_getElem?_getD,List.getElem?_eq_getElem h]
 rfl
set_option maxRecDepth 20000 in
set_option maxHeartbeats 4000000 in
theorem zF8 (g:Pa)(hok:qw g=true):Fn Tryz.prog tyT 50 [.agg (dPa g)] [.c (DI (QU g))]:=by
 obtain⟨hao,hpl,hpr⟩:=xu hok
 have hal:=yr hao
 have hxo:=zEk hok (kf g.a.owner.length)
 have hOf:=zHs g hok
 have hAl:=zF5 g.a.owner.length hal.2.1
 have hWn:=Kg (l7G g (noP g.a.owner.length)) (g.a.owner.length+1) (qp g.a.owner.length) (by rw [VF];exact hxo) (by rw [VF];exact Nat.lt_succ_of_le (VM _ _))
 rw [VF]at hWn
 have hbl:=Ks g
 have hw9:yU (l7G g (noP g.a.owner.length)) g.a.owner.length (g.a.owner.length+1) (qp g.a.owner.length)=JB g:=rfl
 rw [hw9,show qp g.a.owner.length=qp g.prio.length from by rw [hpl]]at hWn
 rw [←hpl]at hAl
 unfold QU
 generalize JB g=win at hWn hbl⊢
 unfold dL7 l7G qp at hWn
 dsimp only at hWn
 unfold dPa at hOf⊢
 refine zr (fn:=Tryz.f50) (ts:= [2]) Tryz.func50 (by kernel_rfl) rfl rfl (by rw [Tryz.ntmps50];exact Nat.le_of_ble_eq_true rfl) rfl (by simp only [szA,List.mem_cons,List.not_mem_nil,or_false,forall_eq_or_imp,forall_eq,VT.cells,szL];try decide) ?_
 rw [Tryz.ntmps50]
 push_cast
 refine zL fun K hK=> ?_
 refine zM zO zN [] rfl ?_
 push_cast
 repeat' apply And.intro
 all_goals try exact gB
 refine hK _ ?_;clear hK K
 refine zL fun K hK=> ?_
 refine zAJ false (UR Tryz.prog tyT) [7] (fun _ _ _ h=>zD6 h) zO zN xj ?_ rfl ?_
 ·kernel_rfl
 intro E hE
 all_goals refine Ki 2 (by decide) fun K9 hK9=> ?_
 all_goals push_cast
 all_goals repeat'(first|(apply zP<;>(intro hg;push_cast at hg))|(refine⟨_,_,hOf,?_⟩;push_cast)|apply And.intro|(intro hg;push_cast at hg))
 all_goals try exact gA
 refine hK9 _ _ ?_;clear hK9 K9
 all_goals refine Ki 4 (by decide) fun K9 hK9=> ?_
 all_goals push_cast
 all_goals repeat'(first|(apply zP<;>(intro hg;push_cast at hg))|(refine⟨_,hAl,?_⟩;push_cast)|apply And.intro|(intro hg;push_cast at hg))
 all_goals try exact gA
 refine hK9 _ _ ?_;clear hK9 K9
 all_goals refine Ki 1 (by decide) fun K9 hK9=> ?_
 all_goals push_cast
 all_goals repeat'(first|(apply zP<;>(intro hg;push_cast at hg))|(refine⟨_,hWn,?_⟩;push_cast)|apply And.intro|(intro hg;push_cast at hg))
 all_goals try exact gA
 refine hK9 _ _ ?_;clear hK9 K9
 all_goals push_cast
 all_goals repeat'(first|(apply zP<;>(intro hg;push_cast at hg))|(refine⟨_,_,hOf,?_⟩;push_cast)|(refine⟨_,hAl,?_⟩;push_cast)|(refine⟨_,hWn,?_⟩;push_cast)|apply And.intro|(intro hg;push_cast at hg))
 all_goals first|exact gA|(refine hE _ _ ?_ ?_;kernel_rfl)|skip
 all_goals clear hE E
 refine hK _ ?_;clear hK K
 refine zL fun K hK=> ?_
 refine zM zO zN [] rfl ?_
 push_cast
 repeat' apply And.intro
 all_goals try exact gB
 refine hK _ ?_;clear hK K
 refine zL fun K1 hK1=> ?_
 refine zL fun K hK=> ?_
 refine zM zO zN [] rfl ?_
 push_cast
 repeat' apply And.intro
 all_goals try exact gB
 refine hK _ ?_;clear hK K
 refine zV ?_
 refine zh [4,5,14,15,16,17,18,19,20,21,22,23,24,25,26,27,28] [64] (fun(k:Nat)=> [(5, .int .i64 k),(4, .sl 64 [] 0 k 2)]) (fun k=> []) (fun k=> [(64,⟨.ex,2,dI ((win.take k).map YE),none⟩)]) (fun k=>k≤win.length) (fun k=>win.length - k) 0 ?_ (by omega) ?_
 ·
  rw [show dI ((win.take 0).map YE)= []from rfl]
  refine zX rfl ?_ ?_ ?_<;>push_cast [zg,zf]
 ·rintro k hk KL0 hL0
  have hfl:((win.take k).map YE).length=k:=by rw [List.length_map,List.length_take];omega
  have hfn:YE (gb win k)=1 - (if gb win k=true then 1 else 0):=by cases gb win k<;>rfl
  push_cast
  refine zL fun K2 hK2=> ?_
  refine zL fun K hK=> ?_
  refine zM zO zN [] rfl ?_
  push_cast
  repeat' apply And.intro
  all_goals try exact gB
  refine hK _ ?_;clear hK K
  refine zT rfl (fun hc=> ?_) (fun hc=> ?_)<;>(try simp only [push_cast]at hc)
  ·
   refine zU ?_
   refine hK2 _ ?_
   refine zL fun K3 hK3=> ?_
   refine zV ?_
   refine zM zO zN [] rfl ?_
   all_goals refine zl 6 fun K9 hK9=> ?_
   all_goals push_cast
   all_goals repeat'(first|(apply zP<;>(intro hg;push_cast at hg))|(refine⟨_,ui _,?_⟩;push_cast)|apply And.intro|(intro hg;push_cast at hg))
   all_goals try exact gA
   refine hK9 _ ?_;clear hK9 K9
   all_goals push_cast
   all_goals repeat'(first|(apply zP<;>(intro hg;push_cast at hg))|(refine⟨_,ui _,?_⟩;push_cast)|apply And.intro|(intro hg;push_cast at hg))
   all_goals try exact gA
   refine hK3 _ ?_
   refine zM zO zN [] rfl ?_
   push_cast
   repeat' apply And.intro
   all_goals try exact gB
   refine hL0 _ ⟨k+1,by omega,by omega,?_⟩
   (try rw [List.take_of_length_le (l:=(win.take k).map YE) (by omega)])
   rw [zDn (by omega),hfn]
   refine zX rfl ?_ ?_ ?_<;>push_cast [zg,zf]
   all_goals first|rfl|(simp;done)
  ·
   refine zi ?_
   have hkk:k=win.length:=by omega
   subst hkk
   rw [List.take_length]
   refine hK1 _ ?_
   refine zL fun K hK=> ?_
   refine zM zO zN [] rfl ?_
   push_cast
   repeat' apply And.intro
   all_goals try exact gB
   refine hK _ ?_;clear hK K
   refine zW ?_
   refine⟨Or.inl rfl,?_⟩
   push_cast [za]
   all_goals first|rfl|exact⟨rfl,by simp⟩|(simp;done)
theorem zGI :min 1 64=1:=rfl
theorem pow_1 :(2:Int)^1=2:=rfl
attribute [push_cast] zGI pow_1
theorem Vw {xs:List Int}{k:Nat}(h:k<xs.length):xs.take (k+1)=xs.take k++ [gi xs k]:=by rw [List.take_add_one,vC h];rfl
theorem zJK {xs:List (List Int)}{k:Nat}(h:k<xs.length):gl xs k∈xs:=List.mem_of_getElem? (YH h)
theorem zEs {xs:List Int}{x:Int}(h:x∈xs): ∃k,k<xs.length∧gi xs k=x:=by
 obtain⟨k,hk,rfl⟩:=List.mem_iff_getElem.1 h
 exact⟨k,hk,by have :=vC hk;rw [List.getElem?_eq_getElem hk]at this;exact(Option.some.inj this).symm⟩
theorem zEt {xs:List (List Int)}{x:List Int}(h:x∈xs): ∃k,k<xs.length∧gl xs k=x:=by
 obtain⟨k,hk,rfl⟩:=List.mem_iff_getElem.1 h
 exact⟨k,hk,by have :=YH hk;rw [List.getElem?_eq_getElem hk]at this;exact(Option.some.inj this).symm⟩
theorem zEZ {xs ys:List Int}(hl:xs.length=ys.length)(h: ∀k,k<xs.length→gi xs k=gi ys k):xs=ys:=by
 refine List.ext_getElem? fun k=> ?_
 rcases Nat.lt_or_ge k xs.length with hk|hk
 ·rw [vC hk,vC (xs:=ys) (by omega),h k hk]
 ·rw [List.getElem?_eq_none hk,List.getElem?_eq_none (by omega)]
theorem VR {xs:List Int}{p:Int→Bool}{k:Nat}(h:k<xs.length)(hp:p (gi xs k)=true):(xs.take (k+1)).filter p=(xs.take k).filter p++ [gi xs k]:=by
 rw [Vw h,List.filter_append];simp [hp]
theorem JP {xs:List Int}{p:Int→Bool}{k:Nat}(h:k<xs.length)(hp:p (gi xs k)=false):(xs.take (k+1)).filter p=(xs.take k).filter p:=by
 rw [Vw h,List.filter_append];simp [hp]
theorem kR (xs:List Int)(p:Int→Bool):(xs.filter p).length≤xs.length:=List.length_filter_le _ _
theorem Vv (xs:List Int)(p:Int→Bool)(k:Nat):((xs.take k).filter p).length≤xs.length:=Nat.le_trans (List.length_filter_le _ _) (by rw [List.length_take];omega)
theorem zJZ {b:List Int}{n:Int}(hs:yf b n=true)(x:Int): ∃p,p≤b.length∧(∀i,i<p→gi b i<x)∧∀i,p≤i→i<b.length→x≤gi b i:=by
 have hr: ∀i j,i<j→j<b.length→gi b i<gi b j:=by
  intro i j hij
  induction j with
  |zero=>omega
  |succ j ih=>
   intro hj
   have h1:=qc hs hj
   unfold xy at h1
   have h1:=of_decide_eq_true h1
   simp at h1
   rcases Nat.lt_or_ge i j with h2|h2
   ·have :=ih h2 (by omega);omega
   ·have :i=j:=by omega
    subst this;omega
 have key: ∀m,m≤b.length→∃p,p≤m∧(∀i,i<p→gi b i<x)∧∀i,p≤i→i<m→x≤gi b i:=by
  intro m
  induction m with
  |zero=>intro _;exact⟨0,by omega,fun i hi=>by omega,fun i hi hj=>by omega⟩
  |succ m ih=>
   intro hm
   obtain⟨p,h1,h2,h3⟩:=ih (by omega)
   by_cases hx:gi b m<x
   ·refine⟨m+1,by omega,fun i hi=> ?_,fun i hi hj=>by omega⟩
    rcases Nat.lt_or_ge i m with h4|h4
    ·have :=hr i m h4 (by omega);omega
    ·have :i=m:=by omega
     subst this;exact hx
   ·refine⟨p,by omega,h2,fun i hi hj=> ?_⟩
    rcases Nat.lt_or_ge i m with h4|h4
    ·exact h3 i hi h4
    ·have :i=m:=by omega
     subst this;omega
 exact key b.length (Nat.le_refl _)
theorem zHx {b:List Int}{x:Int}{p:Nat}(h1: ∀i,i<p→gi b i<x)(h2: ∀i,p≤i→i<b.length→x≤gi b i)(hr: ∀i j,i<j→j<b.length→gi b i<gi b j):yD b x=true↔p<b.length∧gi b p=x:=by
 rw [xD]
 constructor
 ·intro h
  obtain⟨k,hk,rfl⟩:=zEs h
  have h3: ¬k<p:=fun hkp=>by have :=h1 k hkp;omega
  rcases Nat.lt_or_ge p k with h4|h4
  ·have :=hr p k h4 hk
   have :=h2 p (Nat.le_refl _) (by omega)
   omega
  ·have :k=p:=by omega
   subst this;exact⟨hk,rfl⟩
 ·rintro⟨h3,rfl⟩
  exact Qg h3
theorem zBO {b:List Int}{n:Int}(hs:yf b n=true): ∀i j,i<j→j<b.length→gi b i<gi b j:=by
 intro i j hij
 induction j with
 |zero=>omega
 |succ j ih=>
  intro hj
  have h1:=qc hs hj
  unfold xy at h1
  have h1:=of_decide_eq_true h1
  simp at h1
  rcases Nat.lt_or_ge i j with h2|h2
  ·have :=ih h2 (by omega);omega
  ·have :i=j:=by omega
   subst this;omega
def ixF (p:List Int→Bool)(xs:List (List Int)):Int:=if xs.findIdx p<xs.length then(xs.findIdx p:Int)else -1
theorem zEg {p:List Int→Bool}{xs:List (List Int)}{k:Nat}(hk:k<xs.length)(h: ∀j,j<k→p (gl xs j)=false)(he:p (gl xs k)=true):ixF p xs=k:=by
 have hg: ∀j (hj:j<xs.length),xs[j]=gl xs j:=fun j hj=>by unfold gl;rw [List.getD_eq_getElem?_getD,List.getElem?_eq_getElem hj];rfl
 have :xs.findIdx p=k:=by
  rw [List.findIdx_eq hk]
  exact⟨by rw [hg];exact he,fun j hj=>by rw [hg];exact h j hj⟩
 unfold ixF
 rw [this,if_pos hk]
theorem zF3 {p:List Int→Bool}{xs:List (List Int)}(h: ∀j,j<xs.length→p (gl xs j)=false):ixF p xs= -1:=by
 have :xs.findIdx p=xs.length:=by
  rw [List.findIdx_eq_length]
  intro y hy
  obtain⟨j,hj,rfl⟩:=zEt hy
  exact h j hj
 unfold ixF
 rw [this,if_neg (by omega)]
theorem zHr (p:List Int→Bool)(xs:List (List Int)):decide (0≤ixF p xs)=xs.any p:=by
 unfold ixF
 by_cases h:xs.findIdx p<xs.length
 ·rw [if_pos h]
  rw [List.findIdx_lt_length]at h
  obtain⟨x,hx,hp⟩:=h
  rw [List.any_eq_true.2 ⟨x,hx,hp⟩]
  simp
 ·rw [if_neg h]
  rw [List.findIdx_lt_length]at h
  symm
  rw [show decide ((0:Int)≤ -1)=false from rfl,List.any_eq_false]
  intro x hx hp
  exact h ⟨x,hx,hp⟩
def qD (ss:List (List Int))(s:List Int):Bool:=ss.any fun x=>decide (x=s)
theorem zA7 {ss:List (List Int)}{s:List Int}:qD ss s=true↔s∈ss:=by
 unfold qD
 rw [List.any_eq_true]
 constructor
 ·rintro⟨x,h1,h2⟩
  exact(of_decide_eq_true h2) ▸ h1
 ·exact fun h=>⟨s,h,decide_eq_true rfl⟩
set_option maxRecDepth 20000 in
set_option maxHeartbeats 4000000 in
theorem KK (s t:List Int)(h1:s.length≤1048576)(h2:t.length≤1048576):Fn Tryz.prog tyT 128 [.c (DI s), .c (DI t)] [.c (.bool (decide (s=t)))]:=by
 refine zr (fn:=Tryz.f128) (ts:= [4]) Tryz.func128 (by kernel_rfl) rfl rfl (by rw [Tryz.ntmps128];exact Nat.le_of_ble_eq_true rfl) rfl (by simp only [szA,List.mem_cons,List.not_mem_nil,or_false,forall_eq_or_imp,forall_eq,VT.cells,szL];try decide) ?_
 rw [Tryz.ntmps128]
 push_cast
 refine zL fun K hK=> ?_
 refine zM zO zN [] rfl ?_
 push_cast
 repeat' apply And.intro
 all_goals try exact gB
 refine hK _ ?_;clear hK K
 refine zL fun K1 hK1=> ?_
 refine zL fun K hK=> ?_
 refine zM zO zN [] rfl ?_
 push_cast
 repeat' apply And.intro
 all_goals try exact gB
 refine hK _ ?_;clear hK K
 refine zT rfl (fun hc=> ?_) (fun hc=> ?_)<;>(try simp only [push_cast]at hc)
 ·
  refine zL fun K hK=> ?_
  refine zM zO zN [] rfl ?_
  push_cast
  repeat' apply And.intro
  all_goals try exact gB
  refine hK _ ?_;clear hK K
  refine zW ?_
  refine⟨Or.inl rfl,?_⟩
  push_cast [za]
  exact(decide_eq_false (fun e=>by subst e;omega)).symm
 ·
  refine zU ?_
  refine hK1 _ ?_
  refine zL fun K2 hK2=> ?_
  refine zL fun K hK=> ?_
  refine zM zO zN [] rfl ?_
  push_cast
  repeat' apply And.intro
  all_goals try exact gB
  refine hK _ ?_;clear hK K
  refine zV ?_
  refine zh [4,5,13,14,15,16,17,18,19,20,21,22,23,24,25] [] (fun(k:Nat)=> [(13, .int .i64 k)]) (fun k=> []) (fun k=> []) (fun k=>k≤s.length∧∀j,j<k→gi s j=gi t j) (fun k=>s.length - k) 0 ?_ ⟨by omega,fun j hj=>by omega⟩ ?_
  ·
   refine zX rfl ?_ ?_ ?_<;>push_cast [zg,zf]
  ·rintro k ⟨hk,hall⟩ KL0 hL0
   push_cast
   refine zL fun K hK=> ?_
   refine zM zO zN [] rfl ?_
   push_cast
   repeat' apply And.intro
   all_goals try exact gB
   refine hK _ ?_;clear hK K
   refine zL fun K3 hK3=> ?_
   refine zT rfl (fun hc=> ?_) (fun hc=> ?_)<;>(try simp only [push_cast]at hc)
   ·
    refine zU ?_
    refine hK3 _ ?_
    refine zL fun K4 hK4=> ?_
    refine zV ?_
    refine zL fun K hK=> ?_
    refine zM zO zN [] rfl ?_
    push_cast
    repeat' apply And.intro
    all_goals try exact gB
    refine hK _ ?_;clear hK K
    refine zL fun K hK=> ?_
    refine xl false zO zN xj ?_ rfl ?_
    ·kernel_rfl
    intro C hC
    push_cast
    repeat' apply And.intro
    all_goals first|omega|with_reducible assumption|(refine hC _ ?_;kernel_rfl)|(simp only [List.length_set,List.length_append,List.length_replicate,List.length_cons,List.length_nil];omega)|skip
    all_goals first|(refine hK _ ?_;clear hC C hK K)|(simp only [push_cast];done)
    refine zT rfl (fun hc=> ?_) (fun hc=> ?_)<;>(try simp only [push_cast]at hc)
    ·
     refine zL fun K hK=> ?_
     refine zM zO zN [] rfl ?_
     push_cast
     repeat' apply And.intro
     all_goals try exact gB
     refine hK _ ?_;clear hK K
     refine zW ?_
     refine⟨Or.inl rfl,?_⟩
     push_cast [za]
     exact(decide_eq_false (fun e=>by subst e;omega)).symm
    ·
     refine zU ?_
     refine hK4 _ ?_
     refine zM zO zN [] rfl ?_
     push_cast
     repeat' apply And.intro
     all_goals try exact gB
     refine hL0 _ ⟨k+1,⟨by omega,fun j hj=>(by
       by_cases hjk:j=k
       ·subst hjk;omega
       ·exact hall j (by omega))⟩,by omega,?_⟩
     refine zX rfl ?_ ?_ ?_<;>push_cast [zg,zf]
   ·
    refine zi ?_
    refine hK2 _ ?_
    refine zL fun K hK=> ?_
    refine zM zO zN [] rfl ?_
    push_cast
    repeat' apply And.intro
    all_goals try exact gB
    refine hK _ ?_;clear hK K
    refine zW ?_
    refine⟨Or.inl rfl,?_⟩
    push_cast [za]
    exact(decide_eq_true (zEZ (by omega) fun j hj=>hall j (by omega))).symm
set_option maxRecDepth 20000 in
set_option maxHeartbeats 4000000 in
theorem yg (s t:List Int)(h1:s.length≤1048576)(h2:t.length≤1048576):Fn Tryz.prog tyT 64 [.c (DI s), .c (DI t)] [.c (.bool (decide (s=t)))]:=by
 refine zr (fn:=Tryz.f64) (ts:= [4]) Tryz.func64 (by kernel_rfl) rfl rfl (by rw [Tryz.ntmps64];exact Nat.le_of_ble_eq_true rfl) rfl (by simp only [szA,List.mem_cons,List.not_mem_nil,or_false,forall_eq_or_imp,forall_eq,VT.cells,szL];try decide) ?_
 rw [Tryz.ntmps64]
 push_cast
 refine zL fun K hK=> ?_
 refine zM zO zN [] rfl ?_
 push_cast
 repeat' apply And.intro
 all_goals try exact gB
 refine hK _ ?_;clear hK K
 refine zL fun K1 hK1=> ?_
 refine zL fun K hK=> ?_
 refine zM zO zN [] rfl ?_
 push_cast
 repeat' apply And.intro
 all_goals try exact gB
 refine hK _ ?_;clear hK K
 refine zT rfl (fun hc=> ?_) (fun hc=> ?_)<;>(try simp only [push_cast]at hc)
 ·
  refine zL fun K hK=> ?_
  refine zM zO zN [] rfl ?_
  push_cast
  repeat' apply And.intro
  all_goals try exact gB
  refine hK _ ?_;clear hK K
  refine zW ?_
  refine⟨Or.inl rfl,?_⟩
  push_cast [za]
  exact(decide_eq_false (fun e=>by subst e;omega)).symm
 ·
  refine zU ?_
  refine hK1 _ ?_
  refine zL fun K2 hK2=> ?_
  refine zL fun K hK=> ?_
  refine zM zO zN [] rfl ?_
  push_cast
  repeat' apply And.intro
  all_goals try exact gB
  refine hK _ ?_;clear hK K
  refine zV ?_
  refine zh [4,5,11,12,13,14,15,16,17,18,19,20,21,22,23,24,25] [] (fun(k:Nat)=> [(5, .int .i64 k)]) (fun k=> []) (fun k=> []) (fun k=>k≤s.length∧∀j,j<k→gi s j=gi t j) (fun k=>s.length - k) 0 ?_ ⟨by omega,fun j hj=>by omega⟩ ?_
  ·
   refine zX rfl ?_ ?_ ?_<;>push_cast [zg,zf]
  ·rintro k ⟨hk,hall⟩ KL0 hL0
   push_cast
   refine zL fun K3 hK3=> ?_
   refine zL fun K hK=> ?_
   refine zM zO zN [] rfl ?_
   push_cast
   repeat' apply And.intro
   all_goals try exact gB
   refine hK _ ?_;clear hK K
   refine zT rfl (fun hc=> ?_) (fun hc=> ?_)<;>(try simp only [push_cast]at hc)
   ·
    refine zU ?_
    refine hK3 _ ?_
    refine zL fun K4 hK4=> ?_
    refine zV ?_
    refine zL fun K hK=> ?_
    refine xl false zO zN xj ?_ rfl ?_
    ·kernel_rfl
    intro C hC
    push_cast
    repeat' apply And.intro
    all_goals first|omega|with_reducible assumption|(refine hC _ ?_;kernel_rfl)|(simp only [List.length_set,List.length_append,List.length_replicate,List.length_cons,List.length_nil];omega)|skip
    all_goals first|(refine hK _ ?_;clear hC C hK K)|(simp only [push_cast];done)
    refine zT rfl (fun hc=> ?_) (fun hc=> ?_)<;>(try simp only [push_cast]at hc)
    ·
     refine zL fun K hK=> ?_
     refine zM zO zN [] rfl ?_
     push_cast
     repeat' apply And.intro
     all_goals try exact gB
     refine hK _ ?_;clear hK K
     refine zW ?_
     refine⟨Or.inl rfl,?_⟩
     push_cast [za]
     exact(decide_eq_false (fun e=>by subst e;omega)).symm
    ·
     refine zU ?_
     refine hK4 _ ?_
     refine zM zO zN [] rfl ?_
     push_cast
     repeat' apply And.intro
     all_goals try exact gB
     refine hL0 _ ⟨k+1,⟨by omega,fun j hj=>(by
       by_cases hjk:j=k
       ·subst hjk;omega
       ·exact hall j (by omega))⟩,by omega,?_⟩
     refine zX rfl ?_ ?_ ?_<;>push_cast [zg,zf]
   ·
    refine zi ?_
    refine hK2 _ ?_
    refine zL fun K hK=> ?_
    refine zM zO zN [] rfl ?_
    push_cast
    repeat' apply And.intro
    all_goals try exact gB
    refine hK _ ?_;clear hK K
    refine zW ?_
    refine⟨Or.inl rfl,?_⟩
    push_cast [za]
    exact(decide_eq_true (zEZ (by omega) fun j hj=>hall j (by omega))).symm
set_option maxRecDepth 20000 in
set_option maxHeartbeats 4000000 in
theorem Ke (x:Int):Fn Tryz.prog tyT 185 [.c (.int .i64 x)] [.c (.bool false)]:=by
 refine zr (fn:=Tryz.f185) (ts:= [2]) Tryz.func185 (by kernel_rfl) rfl rfl (by rw [Tryz.ntmps185];exact Nat.le_of_ble_eq_true rfl) rfl (by simp only [szA,List.mem_cons,List.not_mem_nil,or_false,forall_eq_or_imp,forall_eq,VT.cells,szL];try decide) ?_
 rw [Tryz.ntmps185]
 push_cast
 refine zL fun K hK=> ?_
 refine zM zO zN [] rfl ?_
 push_cast
 repeat' apply And.intro
 all_goals try exact gB
 refine hK _ ?_;clear hK K
 refine zL fun K hK=> ?_
 refine zM zO zN [] rfl ?_
 push_cast
 repeat' apply And.intro
 all_goals try exact gB
 refine hK _ ?_;clear hK K
 refine zW ?_
 refine⟨Or.inl rfl,?_⟩
 push_cast [za]
set_option maxRecDepth 20000 in
set_option maxHeartbeats 4000000 in
theorem WS (x:Int):Fn Tryz.prog tyT 208 [.c (.int .i64 x)] [.c (.bool false)]:=by
 refine zr (fn:=Tryz.f208) (ts:= [2]) Tryz.func208 (by kernel_rfl) rfl rfl (by rw [Tryz.ntmps208];exact Nat.le_of_ble_eq_true rfl) rfl (by simp only [szA,List.mem_cons,List.not_mem_nil,or_false,forall_eq_or_imp,forall_eq,VT.cells,szL];try decide) ?_
 rw [Tryz.ntmps208]
 push_cast
 refine zL fun K hK=> ?_
 refine zM zO zN [] rfl ?_
 push_cast
 repeat' apply And.intro
 all_goals try exact gB
 refine hK _ ?_;clear hK K
 refine zL fun K hK=> ?_
 refine zM zO zN [] rfl ?_
 push_cast
 repeat' apply And.intro
 all_goals try exact gB
 refine hK _ ?_;clear hK K
 refine zW ?_
 refine⟨Or.inl rfl,?_⟩
 push_cast [za]
set_option maxRecDepth 20000 in
set_option maxHeartbeats 4000000 in
theorem zCF (x y:Int):Fn Tryz.prog tyT 184 [.c (.int .i64 x), .c (.int .i64 y)] [.c (.bool (decide (x<y)))]:=by
 refine zr (fn:=Tryz.f184) (ts:= [4]) Tryz.func184 (by kernel_rfl) rfl rfl (by rw [Tryz.ntmps184];exact Nat.le_of_ble_eq_true rfl) rfl (by simp only [szA,List.mem_cons,List.not_mem_nil,or_false,forall_eq_or_imp,forall_eq,VT.cells,szL];try decide) ?_
 rw [Tryz.ntmps184]
 push_cast
 refine zL fun K hK=> ?_
 refine zM zO zN [] rfl ?_
 push_cast
 repeat' apply And.intro
 all_goals try exact gB
 refine hK _ ?_;clear hK K
 refine zL fun K hK=> ?_
 refine zj false zO zN ?_ rfl ?_
 ·kernel_rfl
 all_goals refine yF 2 fun K9 hK9=> ?_
 all_goals push_cast
 all_goals repeat'(first|(apply zP<;>(intro hg;push_cast at hg))|(refine⟨_,WS _,?_⟩;push_cast)|apply And.intro|(intro hg;push_cast at hg))
 all_goals try exact gA
 refine hK9 _ ?_;clear hK9 K9
 all_goals refine yF 3 fun K9 hK9=> ?_
 all_goals push_cast
 all_goals repeat'(first|(apply zP<;>(intro hg;push_cast at hg))|(refine⟨_,WS _,?_⟩;push_cast)|apply And.intro|(intro hg;push_cast at hg))
 all_goals try exact gA
 refine hK9 _ ?_;clear hK9 K9
 all_goals push_cast
 all_goals repeat'(first|(apply zP<;>(intro hg;push_cast at hg))|(refine⟨_,WS _,?_⟩;push_cast)|apply And.intro|(intro hg;push_cast at hg))
 all_goals try exact gA
 refine hK _ ?_;clear hK K
 all_goals(
   refine zW ?_
   refine⟨Or.inl rfl,?_⟩
   push_cast [za])
set_option maxRecDepth 20000 in
set_option maxHeartbeats 4000000 in
theorem Ku (b:List Int)(hb:b.length≤1048576)(x:Int)(p:Nat)(hp:p≤b.length)(h1: ∀i,i<p→gi b i<x)(h2: ∀i,p≤i→i<b.length→x≤gi b i):Fn Tryz.prog tyT 165 [.c (DI b), .c (.int .i64 x)] [.c (.int .i64 p), .c (.bool (decide (p<b.length∧gi b p=x)))]:=by
 refine zr (fn:=Tryz.f165) (ts:= [4,5]) Tryz.func165 (by kernel_rfl) rfl rfl (by rw [Tryz.ntmps165];exact Nat.le_of_ble_eq_true rfl) rfl (by simp only [szA,List.mem_cons,List.not_mem_nil,or_false,forall_eq_or_imp,forall_eq,VT.cells,szL];try decide) ?_
 rw [Tryz.ntmps165]
 push_cast [↓zK,↓zJ]
 refine zL fun K hK=> ?_
 refine zM zO zN [] rfl ?_
 push_cast [↓zK,↓zJ]
 repeat' apply And.intro
 all_goals try exact gB
 all_goals(refine hK _ ?_;clear hK K)
 refine zL fun K hK=> ?_
 refine zM zO zN [] rfl ?_
 push_cast [↓zK,↓zJ]
 repeat' apply And.intro
 all_goals try exact gB
 all_goals(refine hK _ ?_;clear hK K)
 refine zL fun K hK=> ?_
 refine zM zO zN [] rfl ?_
 push_cast [↓zK,↓zJ]
 repeat' apply And.intro
 all_goals try exact gB
 all_goals(refine hK _ ?_;clear hK K)
 refine zL fun K1 hK1=> ?_
 refine zV ?_
 refine zh [7,8,9,13,14,15,16,17,18,19,20,21,22,23,24,25,26,27,28,29,30] [] (fun(q:Nat×Nat)=> [(7, .int .i64 q.1),(8, .int .i64 q.2)]) (fun q=> []) (fun q=> []) (fun q=>q.1≤p∧p≤q.2∧q.2≤b.length) (fun q=>q.2 - q.1) (0,b.length) ?_ ⟨by omega,by omega,by omega⟩ ?_
 ·
  refine zX rfl ?_ ?_ ?_<;>push_cast [zg,zf,↓zK,↓zJ]
 ·rintro⟨i,j⟩ ⟨hi,hj,hl⟩ KL0 hL0
  simp only at hi hj hl
  push_cast [↓zK,↓zJ]
  refine zL fun K2 hK2=> ?_
  refine zL fun K hK=> ?_
  refine zM zO zN [] rfl ?_
  push_cast [↓zK,↓zJ]
  repeat' apply And.intro
  all_goals try exact gB
  all_goals(refine hK _ ?_;clear hK K)
  refine zT rfl (fun hc=> ?_) (fun hc=> ?_)<;>(try simp only [push_cast]at hc)
  ·
   refine zU ?_
   refine hK2 _ ?_
   refine zV ?_
   refine zL fun K hK=> ?_
   refine zM zO zN [] rfl ?_
   push_cast [↓zK,↓zJ]
   repeat' apply And.intro
   all_goals try exact gB
   all_goals(refine hK _ ?_;clear hK K)
   refine zL fun K hK=> ?_
   refine zM zO zN [] rfl ?_
   all_goals refine zl 6 fun K9 hK9=> ?_
   all_goals push_cast [↓zK,↓zJ]
   all_goals repeat'(first|(apply zP<;>(intro hg;(try simp only [push_cast]at hg)))|(refine⟨_,zCF _ _,?_⟩;push_cast [↓zK,↓zJ])|apply And.intro|(intro hg;(try simp only [push_cast]at hg)))
   all_goals try exact gA
   all_goals(refine hK9 _ ?_;clear hK9 K9)
   all_goals push_cast [↓zK,↓zJ]
   all_goals repeat'(first|(apply zP<;>(intro hg;(try simp only [push_cast]at hg)))|(refine⟨_,zCF _ _,?_⟩;push_cast [↓zK,↓zJ])|apply And.intro|(intro hg;(try simp only [push_cast]at hg)))
   all_goals try exact gA
   all_goals(refine hK _ ?_;clear hK K)
   refine zT rfl (fun hc=> ?_) (fun hc=> ?_)<;>(try simp only [push_cast]at hc)
   ·
    refine zM zO zN [] rfl ?_
    push_cast [↓zK,↓zJ]
    repeat' apply And.intro
    all_goals try exact gB
    refine hL0 _ ⟨((i+j) / 2+1,j),⟨(by
       have h9:=fun h=>h2 ((i+j) / 2) h (by omega)
       have e9:(((i:Int)+j) / 2).toNat=(i+j) / 2:=by omega
       rw [e9]at hc
       simp only at*
       rcases Nat.lt_or_ge ((i+j) / 2) p with h8|h8
       ·omega
       ·have :=h9 h8;omega),by simp only at*;omega,by simp only at*;omega⟩,by simp only at*;omega,?_⟩
    refine zX rfl ?_ ?_ ?_<;>push_cast [zg,zf,↓zK,↓zJ]
    all_goals(try(refine congrArg (AV.int .i64) ?_;simp only at*;omega))
   ·
    refine zM zO zN [] rfl ?_
    push_cast [↓zK,↓zJ]
    repeat' apply And.intro
    all_goals try exact gB
    refine hL0 _ ⟨(i,(i+j) / 2),⟨by simp only at*;omega,(by
       have h9:=fun h=>h1 ((i+j) / 2) h
       have e9:(((i:Int)+j) / 2).toNat=(i+j) / 2:=by omega
       rw [e9]at hc
       simp only at*
       rcases Nat.lt_or_ge ((i+j) / 2) p with h8|h8
       ·have :=h9 h8;omega
       ·omega),by simp only at*;omega⟩,by simp only at*;omega,?_⟩
    refine zX rfl ?_ ?_ ?_<;>push_cast [zg,zf,↓zK,↓zJ]
    all_goals(try(refine congrArg (AV.int .i64) ?_;simp only at*;omega))
  ·
   refine zi ?_
   refine hK1 _ ?_
   refine zL fun K hK=> ?_
   refine zj false zO zN ?_ rfl ?_
   ·kernel_rfl
   all_goals refine yF 17 fun K9 hK9=> ?_
   all_goals push_cast [↓zK,↓zJ]
   all_goals repeat'(first|(apply zP<;>(intro hg;(try simp only [push_cast]at hg)))|(refine⟨_,Ke _,?_⟩;push_cast [↓zK,↓zJ])|apply And.intro|(intro hg;(try simp only [push_cast]at hg)))
   all_goals try exact gA
   all_goals(refine hK9 _ ?_;clear hK9 K9)
   all_goals refine yF 3 fun K9 hK9=> ?_
   all_goals push_cast [↓zK,↓zJ]
   all_goals repeat'(first|(apply zP<;>(intro hg;(try simp only [push_cast]at hg)))|(refine⟨_,Ke _,?_⟩;push_cast [↓zK,↓zJ])|apply And.intro|(intro hg;(try simp only [push_cast]at hg)))
   all_goals try exact gA
   all_goals(refine hK9 _ ?_;clear hK9 K9)
   all_goals push_cast [↓zK,↓zJ]
   all_goals repeat'(first|(apply zP<;>(intro hg;(try simp only [push_cast]at hg)))|(refine⟨_,Ke _,?_⟩;push_cast [↓zK,↓zJ])|apply And.intro|(intro hg;(try simp only [push_cast]at hg)))
   all_goals try exact gA
   all_goals(refine hK _ ?_;clear hK K)
   all_goals(
     refine zW ?_
     refine⟨Or.inl rfl,?_⟩
     push_cast [za,↓zK,↓zJ]
     all_goals(obtain rfl:i=p:=by omega)
     all_goals refine⟨rfl,?_⟩
     all_goals first|exact(decide_eq_true ⟨by omega,by with_reducible assumption⟩).symm|exact(decide_eq_false (by omega)).symm)
theorem zIq {b:List Int}{n:Int}(hs:yf b n=true){x:Int}{p:Nat}(h1: ∀i,i<p→gi b i<x)(h2: ∀i,p≤i→i<b.length→x≤gi b i):decide (p<b.length∧gi b p=x)=yD b x:=by
 have :=zHx h1 h2 (zBO hs)
 cases h:yD b x with
 |true=>exact decide_eq_true (this.1 h)
 |false=>exact decide_eq_false fun h3=>by rw [this.2 h3]at h;cases h
set_option maxRecDepth 20000 in
set_option maxHeartbeats 4000000 in
theorem zEm (a b:List Int)(ha:a.length≤1048576)(hb:b.length≤1048576)(n:Int)(hs:yf b n=true):Fn Tryz.prog tyT 117 [.c (DI a), .c (DI b)] [.c (DI (a.filter fun x=> !yD b x))]:=by
 refine zr (fn:=Tryz.f117) (ts:= [4]) Tryz.func117 (by kernel_rfl) rfl rfl (by rw [Tryz.ntmps117];exact Nat.le_of_ble_eq_true rfl) rfl (by simp only [szA,List.mem_cons,List.not_mem_nil,or_false,forall_eq_or_imp,forall_eq,VT.cells,szL];try decide) ?_
 rw [Tryz.ntmps117]
 push_cast
 refine zL fun K hK=> ?_
 refine zM zO zN [] rfl ?_
 push_cast
 repeat' apply And.intro
 all_goals try exact gB
 refine hK _ ?_;clear hK K
 refine zL fun K hK=> ?_
 refine zM zO zN [] rfl ?_
 push_cast
 repeat' apply And.intro
 all_goals try exact gB
 refine hK _ ?_;clear hK K
 refine zL fun K1 hK1=> ?_
 refine zL fun K hK=> ?_
 refine zM zO zN [] rfl ?_
 push_cast
 repeat' apply And.intro
 all_goals try exact gB
 refine hK _ ?_;clear hK K
 refine zV ?_
 refine zh [5,7,8,9,13,14,15,16,17,18,19,20,21,22,23,24,25,26,27,28,29] [80] (fun(q:Nat×List Int)=> [(13, .int .i64 q.1),(5, .sl 80 [] 0 q.2.length 2)]) (fun q=> []) (fun q=> [(80,⟨.ex,2,dI q.2,none⟩)]) (fun q=>q.1≤a.length∧q.2=(a.take q.1).filter fun x=> !yD b x) (fun q=>a.length - q.1) (0,[]) ?_ ⟨by omega,rfl⟩ ?_
 ·
  simp only [show dI ([]:List Int)= []from rfl]
  refine zX rfl ?_ ?_ ?_<;>push_cast [zg,zf]
 ·rintro⟨k,o⟩ ⟨hk,ho⟩ KL0 hL0
  simp only at hk ho
  have hol:o.length≤a.length:=by rw [ho];exact Vv _ _ _
  obtain⟨p,q1,q2,q3⟩:=zJZ hs (gi a k)
  have hB:=Ku b hb (gi a k) p q1 q2 q3
  rw [zIq hs q2 q3]at hB
  push_cast
  refine zL fun K hK=> ?_
  refine zM zO zN [] rfl ?_
  push_cast
  repeat' apply And.intro
  all_goals try exact gB
  refine hK _ ?_;clear hK K
  refine zL fun K2 hK2=> ?_
  refine zT rfl (fun hc=> ?_) (fun hc=> ?_)<;>(try simp only [push_cast]at hc)
  ·
   refine zU ?_
   refine hK2 _ ?_
   refine zL fun K3 hK3=> ?_
   refine zV ?_
   refine zL fun K hK=> ?_
   refine zM zO zN [] rfl ?_
   push_cast
   repeat' apply And.intro
   all_goals try exact gB
   refine hK _ ?_;clear hK K
   refine zL fun K hK=> ?_
   refine zM zO zN [] rfl ?_
   all_goals refine zl 3 fun K9 hK9=> ?_
   all_goals push_cast
   all_goals repeat'(first|(apply zP<;>(intro hg;push_cast at hg))|(refine⟨_,hB,?_⟩;push_cast)|apply And.intro|(intro hg;push_cast at hg))
   all_goals try exact gA
   refine hK9 _ ?_;clear hK9 K9
   all_goals push_cast
   all_goals repeat'(first|(apply zP<;>(intro hg;push_cast at hg))|(refine⟨_,hB,?_⟩;push_cast)|apply And.intro|(intro hg;push_cast at hg))
   all_goals try exact gA
   refine hK _ ?_;clear hK K
   refine zL fun K hK=> ?_
   refine zM zO zN [] rfl ?_
   push_cast
   repeat' apply And.intro
   all_goals try exact gB
   refine hK _ ?_;clear hK K
   refine zT rfl (fun hc=> ?_) (fun hc=> ?_)<;>(try simp only [push_cast]at hc)
   ·
    refine zM zO zN [] rfl ?_
    push_cast
    repeat' apply And.intro
    all_goals try exact gB
    refine hK3 _ ?_
    refine zM zO zN [] rfl ?_
    push_cast
    repeat' apply And.intro
    all_goals try exact gB
    refine hL0 _ ⟨(k+1,o++ [gi a k]),⟨by simp only;omega,by simp only;rw [VR (by omega) (by rw [hc];rfl),←ho]⟩,by simp only;omega,?_⟩
    refine zX rfl ?_ ?_ ?_<;>push_cast [zg,zf]
    all_goals(try(rw [List.length_append];rfl))
   ·
    refine zU ?_
    refine hK3 _ ?_
    refine zM zO zN [] rfl ?_
    push_cast
    repeat' apply And.intro
    all_goals try exact gB
    refine hL0 _ ⟨(k+1,o),⟨by simp only;omega,by simp only;rw [JP (by omega) (by rw [hc];rfl),←ho]⟩,by simp only;omega,?_⟩
    refine zX rfl ?_ ?_ ?_<;>push_cast [zg,zf]
    all_goals(try(rw [List.length_append];rfl))
  ·
   refine zi ?_
   have hkk:k=a.length:=by omega
   subst hkk
   rw [List.take_length]at ho
   refine hK1 _ ?_
   refine zL fun K hK=> ?_
   refine zM zO zN [] rfl ?_
   push_cast
   repeat' apply And.intro
   all_goals try exact gB
   refine hK _ ?_;clear hK K
   refine zW ?_
   refine⟨Or.inl rfl,?_⟩
   push_cast [za]
   subst ho
   first|rfl|(simp;done)
set_option maxRecDepth 20000 in
set_option maxHeartbeats 4000000 in
theorem jV (s t:List Int)(h1:s.length≤1048576)(h2:t.length≤1048576):FnX Tryz.prog tyT 127 [.v (.c (DI s)), .ref (.lst 2 [DI t])] [.c (.bool (decide (s=t)))]:=by
 refine XK (fn:=Tryz.f127) (rs:= [.tmp 3]) zO zN Tryz.func127 (by kernel_rfl) rfl rfl (by rw [Tryz.ntmps127];exact Nat.le_of_ble_eq_true rfl) rfl (by simp only [szX,List.mem_cons,List.not_mem_nil,or_false,forall_eq_or_imp,forall_eq,XT.cells,VT.cells,szL];try decide) ?_
 rw [Tryz.ntmps127]
 push_cast
 refine zL fun K hK=> ?_
 refine zM zO zN [] rfl ?_
 push_cast
 repeat' apply And.intro
 all_goals try exact gB
 refine hK _ ?_;clear hK K
 refine zL fun K hK=> ?_
 refine zM zO zN [] rfl ?_
 all_goals refine zl 3 fun K9 hK9=> ?_
 all_goals push_cast
 all_goals repeat'(first|(apply zP<;>(intro hg;push_cast at hg))|(refine⟨_,KK s t h1 h2,?_⟩;push_cast)|apply And.intro|(intro hg;push_cast at hg))
 all_goals try exact gA
 refine hK9 _ ?_;clear hK9 K9
 all_goals push_cast
 all_goals repeat'(first|(apply zP<;>(intro hg;push_cast at hg))|(refine⟨_,KK s t h1 h2,?_⟩;push_cast)|apply And.intro|(intro hg;push_cast at hg))
 all_goals try exact gA
 refine hK _ ?_;clear hK K
 refine zW ?_
 refine⟨Or.inl rfl,?_⟩
 push_cast [za,yB,yZ]
set_option maxRecDepth 20000 in
set_option maxHeartbeats 4000000 in
theorem Uk (xs:List (List Int))(hl:xs.length≤1048576)(hr: ∀v,(gl xs v).length≤1048576)(g:FuncId)(d:D)(ds:List D)(p:List Int→Bool)(hp: ∀k,k<xs.length→FnX Tryz.prog tyT g [.v (.c (DI (gl xs k))), .ref (.lst 2 (d::ds))] [.c (.bool (p (gl xs k)))]):FnX Tryz.prog tyT 134 [.v (.c (DII xs)), .clo g [.lst 2 (d::ds)]] [.c (.int .i64 (ixF p xs))]:=by
 refine XK (fn:=Tryz.f134) (rs:= [.tmp 4]) zO zN Tryz.func134 (by kernel_rfl) rfl rfl (by rw [Tryz.ntmps134];exact Nat.le_of_ble_eq_true rfl) rfl (by simp only [szX,List.mem_cons,List.not_mem_nil,or_false,forall_eq_or_imp,forall_eq,XT.cells,VT.cells,szL];try decide) ?_
 rw [Tryz.ntmps134]
 push_cast [↓zK,↓zJ]
 refine zL fun K hK=> ?_
 refine zM zO zN [] rfl ?_
 all_goals push_cast [↓zK,↓zJ]
 all_goals repeat'(first|(apply zP<;>(intro hg;(try simp only [push_cast]at hg)))|apply And.intro|(intro hg;(try simp only [push_cast]at hg)))
 all_goals first|exact gA|(exact zS (by omega))|skip
 all_goals(refine hK _ ?_;clear hK K)
 refine zL fun K1 hK1=> ?_
 refine zL fun K hK=> ?_
 refine zM zO zN [] rfl ?_
 all_goals push_cast [↓zK,↓zJ]
 all_goals repeat'(first|(apply zP<;>(intro hg;(try simp only [push_cast]at hg)))|apply And.intro|(intro hg;(try simp only [push_cast]at hg)))
 all_goals first|exact gA|(exact zS (by omega))|skip
 all_goals(refine hK _ ?_;clear hK K)
 refine zV ?_
 refine zh [4,5,8,9,10,11,12,13,14,15,16,17,18] [] (fun(k:Nat)=> [(8, .int .i64 k)]) (fun k=> []) (fun k=> []) (fun k=>k≤xs.length∧∀j,j<k→p (gl xs j)=false) (fun k=>xs.length - k) 0 ?_ ⟨by omega,fun j hj=>by omega⟩ ?_
 ·
  refine zX rfl ?_ ?_ ?_<;>push_cast [zg,zf,↓zK,↓zJ]
 ·rintro k ⟨hk,hall⟩ KL0 hL0
  have hrk:=hr k
  push_cast [↓zK,↓zJ]
  refine zL fun K hK=> ?_
  refine zM zO zN [] rfl ?_
  all_goals push_cast [↓zK,↓zJ]
  all_goals repeat'(first|(apply zP<;>(intro hg;(try simp only [push_cast]at hg)))|apply And.intro|(intro hg;(try simp only [push_cast]at hg)))
  all_goals first|exact gA|(exact zS (by omega))|skip
  all_goals(refine hK _ ?_;clear hK K)
  refine zL fun K2 hK2=> ?_
  refine zT rfl (fun hc=> ?_) (fun hc=> ?_)<;>(try simp only [push_cast]at hc)
  ·
   refine zU ?_
   refine hK2 _ ?_
   refine zL fun K3 hK3=> ?_
   refine zV ?_
   refine zL fun K hK=> ?_
   refine zM zO zN [] rfl ?_
   all_goals push_cast [↓zK,↓zJ]
   all_goals repeat'(first|(apply zP<;>(intro hg;(try simp only [push_cast]at hg)))|apply And.intro|(intro hg;(try simp only [push_cast]at hg)))
   all_goals first|exact gA|(exact zS (by omega))|skip
   all_goals(refine hK _ ?_;clear hK K)
   refine zL fun K hK=> ?_
   refine vp 16 2 rfl zO zN [] rfl ?_
   push_cast [↓zK,↓zJ]
   repeat' apply And.intro
   all_goals(try push_cast [↓zK,↓zJ])
   all_goals repeat'(first|(apply zP<;>(intro hg;(try simp only [push_cast]at hg)))|(refine⟨_,hp k (by omega),?_⟩;push_cast [↓zK,↓zJ])|apply And.intro|(intro hg;(try simp only [push_cast]at hg)))
   all_goals first|exact gA|(exact zS (by omega))|skip
   all_goals(refine hK _ ?_;clear hK K)
   refine zT rfl (fun hc=> ?_) (fun hc=> ?_)<;>(try simp only [push_cast]at hc)
   ·
    refine zL fun K hK=> ?_
    refine zM zO zN [] rfl ?_
    all_goals push_cast [↓zK,↓zJ]
    all_goals repeat'(first|(apply zP<;>(intro hg;(try simp only [push_cast]at hg)))|apply And.intro|(intro hg;(try simp only [push_cast]at hg)))
    all_goals first|exact gA|(exact zS (by omega))|skip
    all_goals(refine hK _ ?_;clear hK K)
    refine zW ?_
    refine⟨Or.inl rfl,?_⟩
    push_cast [za,yB,yZ,↓zK,↓zJ]
    rw [zEg (k:=k) (by omega) (fun j hj=>hall j hj) hc]
   ·
    refine zU ?_
    refine hK3 _ ?_
    refine zM zO zN [] rfl ?_
    all_goals push_cast [↓zK,↓zJ]
    all_goals repeat'(first|(apply zP<;>(intro hg;(try simp only [push_cast]at hg)))|apply And.intro|(intro hg;(try simp only [push_cast]at hg)))
    all_goals first|exact gA|(exact zS (by omega))|skip
    refine hL0 _ ⟨k+1,⟨by omega,fun j hj=>(by
      by_cases hjk:j=k
      ·subst hjk;exact hc
      ·exact hall j (by omega))⟩,by omega,?_⟩
    refine zX rfl ?_ ?_ ?_<;>push_cast [zg,zf,↓zK,↓zJ]
  ·
   refine zi ?_
   refine hK1 _ ?_
   refine zL fun K hK=> ?_
   refine zM zO zN [] rfl ?_
   all_goals push_cast [↓zK,↓zJ]
   all_goals repeat'(first|(apply zP<;>(intro hg;(try simp only [push_cast]at hg)))|apply And.intro|(intro hg;(try simp only [push_cast]at hg)))
   all_goals first|exact gA|(exact zS (by omega))|skip
   all_goals(refine hK _ ?_;clear hK K)
   refine zW ?_
   refine⟨Or.inl rfl,?_⟩
   push_cast [za,yB,yZ,↓zK,↓zJ]
   rw [zF3 fun j hj=>hall j (by omega)]
set_option maxRecDepth 20000 in
set_option maxHeartbeats 4000000 in
theorem Xa (xs:List (List Int))(hl:xs.length≤1048576)(hr: ∀v,(gl xs v).length≤1048576)(g:FuncId)(d:D)(ds:List D)(p:List Int→Bool)(hp: ∀k,k<xs.length→FnX Tryz.prog tyT g [.v (.c (DI (gl xs k))), .ref (.lst 2 (d::ds))] [.c (.bool (p (gl xs k)))]):FnX Tryz.prog tyT 126 [.v (.c (DII xs)), .clo g [.lst 2 (d::ds)]] [.c (.bool (xs.any p))]:=by
 refine XK (fn:=Tryz.f126) (rs:= [.tmp 4]) zO zN Tryz.func126 (by kernel_rfl) rfl rfl (by rw [Tryz.ntmps126];exact Nat.le_of_ble_eq_true rfl) rfl (by simp only [szX,List.mem_cons,List.not_mem_nil,or_false,forall_eq_or_imp,forall_eq,XT.cells,VT.cells,szL];try decide) ?_
 rw [Tryz.ntmps126]
 push_cast [↓zK,↓zJ]
 refine zL fun K hK=> ?_
 refine zM zO zN [] rfl ?_
 push_cast [↓zK,↓zJ]
 repeat' apply And.intro
 all_goals try exact gB
 all_goals(refine hK _ ?_;clear hK K)
 refine zL fun K hK=> ?_
 refine vp 7 2 rfl zO zN [] rfl ?_
 push_cast [↓zK,↓zJ]
 repeat' apply And.intro
 all_goals(try push_cast [↓zK,↓zJ])
 all_goals repeat'(first|(apply zP<;>(intro hg;(try simp only [push_cast]at hg)))|(refine⟨_,Uk xs hl hr g d ds p hp,?_⟩;push_cast [↓zK,↓zJ])|apply And.intro|(intro hg;(try simp only [push_cast]at hg)))
 all_goals try exact gA
 all_goals(refine hK _ ?_;clear hK K)
 refine zW ?_
 refine⟨Or.inl rfl,?_⟩
 push_cast [za,yB,yZ,↓zK,↓zJ]
 rw [←zHr]
set_option maxRecDepth 20000 in
set_option maxHeartbeats 4000000 in
theorem uc (f:Fm)(h1:f.sets.length≤1048576)(hr: ∀v,(gl f.sets v).length≤1048576)(t:List Int)(h2:t.length≤1048576):Fn Tryz.prog tyT 73 [.agg (dFm f), .c (DI t)] [.c (.bool (qD f.sets t))]:=by
 unfold dFm
 refine zr (fn:=Tryz.f73) (ts:= [4]) Tryz.func73 (by kernel_rfl) rfl rfl (by rw [Tryz.ntmps73];exact Nat.le_of_ble_eq_true rfl) rfl (by simp only [szA,List.mem_cons,List.not_mem_nil,or_false,forall_eq_or_imp,forall_eq,VT.cells,szL];try decide) ?_
 rw [Tryz.ntmps73]
 push_cast [↓zK,↓zJ]
 refine zL fun K hK=> ?_
 refine zM zO zN [] rfl ?_
 all_goals push_cast [↓zK,↓zJ]
 all_goals repeat'(first|(apply zP<;>(intro hg;(try simp only [push_cast]at hg)))|(refine⟨_,Xa f.sets h1 hr _ (DI t) [] (fun x=>decide (x=t)) (fun k hk=>jV (gl f.sets k) t (hr k) h2),?_⟩;push_cast [↓zK,↓zJ])|apply And.intro|(intro hg;(try simp only [push_cast]at hg)))
 all_goals first|exact gA|decide|skip
 all_goals(refine hK _ ?_;clear hK K)
 refine zL fun K hK=> ?_
 refine vp 8 2 rfl zO zN [] rfl ?_
 push_cast [↓zK,↓zJ]
 repeat' apply And.intro
 all_goals(try push_cast [↓zK,↓zJ])
 all_goals repeat'(first|(apply zP<;>(intro hg;(try simp only [push_cast]at hg)))|(refine⟨_,Xa f.sets h1 hr _ (DI t) [] (fun x=>decide (x=t)) (fun k hk=>jV (gl f.sets k) t (hr k) h2),?_⟩;push_cast [↓zK,↓zJ])|apply And.intro|(intro hg;(try simp only [push_cast]at hg)))
 all_goals first|exact gA|decide|skip
 all_goals(refine hK _ ?_;clear hK K)
 refine zW ?_
 refine⟨Or.inl rfl,?_⟩
 push_cast [za,↓zK,↓zJ]
 rfl
end Go.Proofs.YthepmdkpbjfdcaaGreat
