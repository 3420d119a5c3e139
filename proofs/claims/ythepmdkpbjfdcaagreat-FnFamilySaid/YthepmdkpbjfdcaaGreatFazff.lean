/- lists, sets, and function values: the library's searches, both sides' helpers -/
import Derived.Test.YthepmdkpbjfdcaaGreatB5zff
namespace Go.Proofs.YthepmdkpbjfdcaaGreat
open Nat renaming reduceMod → zA, reduceMul → zB, reduceDiv → zC, reduceAdd → zD, reduceSub → zE, reduceEqDiff → zF, reduceBEq → zG, reduceLT → zH, reduceLeDiff → zI
open Go.RowKit
set_option linter.unusedVariables false
set_option linter.unusedSimpArgs false
theorem zJ0 :min 1 64=1:=rfl
theorem pow_1 :(2:Int)^1=2:=rfl
attribute [push_cast] zJ0 pow_1
theorem XD {xs:List Int}{k:Nat}(h:k<xs.length):xs.take (k+1)=xs.take k++ [gi xs k]:=by rw [List.take_add_one,wC h];rfl
theorem Jd {xs:List (List Int)}{k:Nat}(h:k<xs.length):xs.take (k+1)=xs.take k++ [gl xs k]:=by rw [List.take_add_one,UG h];rfl
theorem WI {xs:List Int}{k:Nat}(h:k<xs.length):gi xs k∈xs:=List.mem_of_getElem? (wC h)
theorem zID {xs:List (List Int)}{k:Nat}(h:k<xs.length):gl xs k∈xs:=List.mem_of_getElem? (UG h)
theorem zDk {xs:List Int}{x:Int}(h:x∈xs): ∃k,k<xs.length∧gi xs k=x:=by
 obtain⟨k,hk,rfl⟩:=List.mem_iff_getElem.1 h
 exact⟨k,hk,by have :=wC hk;rw [List.getElem?_eq_getElem hk]at this;exact(Option.some.inj this).symm⟩
theorem Kc {xs:List (List Int)}{x:List Int}(h:x∈xs): ∃k,k<xs.length∧gl xs k=x:=by
 obtain⟨k,hk,rfl⟩:=List.mem_iff_getElem.1 h
 exact⟨k,hk,by have :=UG hk;rw [List.getElem?_eq_getElem hk]at this;exact(Option.some.inj this).symm⟩
theorem zH9 {xs ys:List Int}(hl:xs.length=ys.length)(h: ∀k,k<xs.length→gi xs k=gi ys k):xs=ys:=by
 refine List.ext_getElem? fun k=> ?_
 rcases Nat.lt_or_ge k xs.length with hk|hk
 ·rw [wC hk,wC (xs:=ys) (by omega),h k hk]
 ·rw [List.getElem?_eq_none hk,List.getElem?_eq_none (by omega)]
theorem kj {xs:List Int}{p:Int→Bool}{k:Nat}(h:k<xs.length)(hp:p (gi xs k)=true):(xs.take (k+1)).filter p=(xs.take k).filter p++ [gi xs k]:=by
 rw [XD h,List.filter_append];simp [hp]
theorem zAJ {xs:List Int}{p:Int→Bool}{k:Nat}(h:k<xs.length)(hp:p (gi xs k)=false):(xs.take (k+1)).filter p=(xs.take k).filter p:=by
 rw [XD h,List.filter_append];simp [hp]
theorem zAI (xs:List Int)(p:Int→Bool):(xs.filter p).length≤xs.length:=List.length_filter_le _ _
theorem uQ (xs:List Int)(p:Int→Bool)(k:Nat):((xs.take k).filter p).length≤xs.length:=Nat.le_trans (List.length_filter_le _ _) (by rw [List.length_take];omega)
theorem zNo {b:List Int}{n:Int}(hs:zv b n=true)(x:Int): ∃p,p≤b.length∧(∀i,i<p→gi b i<x)∧∀i,p≤i→i<b.length→x≤gi b i:=by
 have hr: ∀i j,i<j→j<b.length→gi b i<gi b j:=by
  intro i j hij
  induction j with
  |zero=>omega
  |succ j ih=>
   intro hj
   have h1:=xl hs hj
   unfold xp at h1
   have h1:=of_decide_eq_true h1
   simp at h1
   rcases Nat.lt_or_ge i j with h2|h2
   ·have :=ih h2 (by omega);omega
   ·have :i=j:=by omega
    subst this;omega
 have key: ∀m,m≤b.length→∃p,p≤m∧(∀i,i<p→gi b i<x)∧∀i,p≤i→i<m→x≤gi b i:=by
  intro m
  induction m with
  |zero=>intro _;exact⟨0,by omega,fun i hi=>by omega,fun i hi hj=>by omega⟩
  |succ m ih=>
   intro hm
   obtain⟨p,h1,h2,h3⟩:=ih (by omega)
   by_cases hx:gi b m<x
   ·refine⟨m+1,by omega,fun i hi=> ?_,fun i hi hj=>by omega⟩
    rcases Nat.lt_or_ge i m with h4|h4
    ·have :=hr i m h4 (by omega);omega
    ·have :i=m:=by omega
     subst this;exact hx
   ·refine⟨p,by omega,h2,fun i hi hj=> ?_⟩
    rcases Nat.lt_or_ge i m with h4|h4
    ·exact h3 i hi h4
    ·have :i=m:=by omega
     subst this;omega
 exact key b.length (Nat.le_refl _)
theorem zL2 {b:List Int}{x:Int}{p:Nat}(h1: ∀i,i<p→gi b i<x)(h2: ∀i,p≤i→i<b.length→x≤gi b i)(hr: ∀i j,i<j→j<b.length→gi b i<gi b j):zr b x=true↔p<b.length∧gi b p=x:=by
 rw [yD]
 constructor
 ·intro h
  obtain⟨k,hk,rfl⟩:=zDk h
  have h3: ¬k<p:=fun hkp=>by have :=h1 k hkp;omega
  rcases Nat.lt_or_ge p k with h4|h4
  ·have :=hr p k h4 hk
   have :=h2 p (Nat.le_refl _) (by omega)
   omega
  ·have :k=p:=by omega
   subst this;exact⟨hk,rfl⟩
 ·rintro⟨h3,rfl⟩
  exact WI h3
theorem zEG {b:List Int}{n:Int}(hs:zv b n=true): ∀i j,i<j→j<b.length→gi b i<gi b j:=by
 intro i j hij
 induction j with
 |zero=>omega
 |succ j ih=>
  intro hj
  have h1:=xl hs hj
  unfold xp at h1
  have h1:=of_decide_eq_true h1
  simp at h1
  rcases Nat.lt_or_ge i j with h2|h2
  ·have :=ih h2 (by omega);omega
  ·have :i=j:=by omega
   subst this;omega
def ixF (p:List Int→Bool)(xs:List (List Int)):Int:=if xs.findIdx p<xs.length then(xs.findIdx p:Int)else -1
theorem zIO {p:List Int→Bool}{xs:List (List Int)}{k:Nat}(hk:k<xs.length)(h: ∀j,j<k→p (gl xs j)=false)(he:p (gl xs k)=true):ixF p xs=k:=by
 have hg: ∀j (hj:j<xs.length),xs[j]=gl xs j:=fun j hj=>by unfold gl;rw [List.getD_eq_getElem?_getD,List.getElem?_eq_getElem hj];rfl
 have :xs.findIdx p=k:=by
  rw [List.findIdx_eq hk]
  exact⟨by rw [hg];exact he,fun j hj=>by rw [hg];exact h j hj⟩
 unfold ixF
 rw [this,if_pos hk]
theorem zJj {p:List Int→Bool}{xs:List (List Int)}(h: ∀j,j<xs.length→p (gl xs j)=false):ixF p xs= -1:=by
 have :xs.findIdx p=xs.length:=by
  rw [List.findIdx_eq_length]
  intro y hy
  obtain⟨j,hj,rfl⟩:=Kc hy
  exact h j hj
 unfold ixF
 rw [this,if_neg (by omega)]
theorem zLu (p:List Int→Bool)(xs:List (List Int)):decide (0≤ixF p xs)=xs.any p:=by
 unfold ixF
 by_cases h:xs.findIdx p<xs.length
 ·rw [if_pos h]
  rw [List.findIdx_lt_length]at h
  obtain⟨x,hx,hp⟩:=h
  rw [List.any_eq_true.2 ⟨x,hx,hp⟩]
  simp
 ·rw [if_neg h]
  rw [List.findIdx_lt_length]at h
  symm
  rw [show decide ((0:Int)≤ -1)=false from rfl,List.any_eq_false]
  intro x hx hp
  exact h ⟨x,hx,hp⟩
def xn (ss:List (List Int))(s:List Int):Bool:=ss.any fun x=>decide (x=s)
theorem JN {ss:List (List Int)}{s:List Int}:xn ss s=true↔s∈ss:=by
 unfold xn
 rw [List.any_eq_true]
 constructor
 ·rintro⟨x,h1,h2⟩
  exact(of_decide_eq_true h2) ▸ h1
 ·exact fun h=>⟨s,h,decide_eq_true rfl⟩
set_option maxRecDepth 20000 in
set_option maxHeartbeats 4000000 in
theorem kT (s t:List Int)(h1:s.length≤1048576)(h2:t.length≤1048576):Fn Tryz.prog tyT 128 [.c (DI s), .c (DI t)] [.c (.bool (decide (s=t)))]:=by
 refine θH (ts:= [4]) Tryz.func128 Tryz.ntmps128 ?_
 push_cast
 refine θA ?_
 refine zL fun K1 hK1=> ?_
 refine θA ?_
 refine θU (fun hc=> ?_) fun hc=> ?_
 ·
  refine θA ?_
  refine zY ⟨Or.inl rfl,?_⟩
  push_cast [zd]
  exact(decide_eq_false (fun e=>by subst e;omega)).symm
 ·
  refine zW (hK1 _ ?_)
  refine zL fun K2 hK2=> ?_
  refine θA ?_
  refine zV ?_
  refine zh [4,5,13,14,15,16,17,18,19,20,21,22,23,24,25] [] (fun(k:Nat)=> [(13, .int .i64 k)]) (fun k=> []) (fun k=> []) (fun k=>k≤s.length∧∀j,j<k→gi s j=gi t j) (fun k=>s.length - k) 0 ?_ ⟨by omega,fun j hj=>by omega⟩ ?_
  ·
   exact θX
  ·rintro k ⟨hk,hall⟩ KL0 hL0
   push_cast
   refine θA ?_
   refine zL fun K3 hK3=> ?_
   refine θU (fun hc=> ?_) fun hc=> ?_
   ·
    refine zW (hK3 _ ?_)
    refine zL fun K4 hK4=> ?_
    refine zV ?_
    refine θA ?_
    refine zL fun K hK=> ?_
    refine vV false zQ zN xR ?_ rfl ?_
    ·kernel_rfl
    intro C hC
    push_cast
    repeat' apply And.intro
    all_goals first|omega|with_reducible assumption|(refine hC _ ?_;kernel_rfl)|(simp only [List.length_set,List.length_append,List.length_replicate,List.length_cons,List.length_nil];omega)|skip
    all_goals first|(refine hK _ ?_;clear hC C hK K)|(simp only [push_cast];done)
    refine θU (fun hc=> ?_) fun hc=> ?_
    ·
     refine θA ?_
     refine zY ⟨Or.inl rfl,?_⟩
     push_cast [zd]
     exact(decide_eq_false (fun e=>by subst e;omega)).symm
    ·
     refine zW (hK4 _ ?_)
     refine θB ?_
     refine hL0 _ ⟨k+1,⟨by omega,fun j hj=>(by
       by_cases hjk:j=k
       ·subst hjk;omega
       ·exact hall j (by omega))⟩,by omega,?_⟩
     exact θX
   ·
    refine zi (hK2 _ ?_)
    refine θA ?_
    refine zY ⟨Or.inl rfl,?_⟩
    push_cast [zd]
    exact(decide_eq_true (zH9 (by omega) fun j hj=>hall j (by omega))).symm
set_option maxRecDepth 20000 in
set_option maxHeartbeats 4000000 in
theorem ZQ (s t:List Int)(h1:s.length≤1048576)(h2:t.length≤1048576):Fn Tryz.prog tyT 64 [.c (DI s), .c (DI t)] [.c (.bool (decide (s=t)))]:=by
 refine θH (ts:= [4]) Tryz.func64 Tryz.ntmps64 ?_
 push_cast
 refine θA ?_
 refine zL fun K1 hK1=> ?_
 refine θA ?_
 refine θU (fun hc=> ?_) fun hc=> ?_
 ·
  refine θA ?_
  refine zY ⟨Or.inl rfl,?_⟩
  push_cast [zd]
  exact(decide_eq_false (fun e=>by subst e;omega)).symm
 ·
  refine zW (hK1 _ ?_)
  refine zL fun K2 hK2=> ?_
  refine θA ?_
  refine zV ?_
  refine zh [4,5,11,12,13,14,15,16,17,18,19,20,21,22,23,24,25] [] (fun(k:Nat)=> [(5, .int .i64 k)]) (fun k=> []) (fun k=> []) (fun k=>k≤s.length∧∀j,j<k→gi s j=gi t j) (fun k=>s.length - k) 0 ?_ ⟨by omega,fun j hj=>by omega⟩ ?_
  ·
   exact θX
  ·rintro k ⟨hk,hall⟩ KL0 hL0
   push_cast
   refine zL fun K3 hK3=> ?_
   refine θA ?_
   refine θU (fun hc=> ?_) fun hc=> ?_
   ·
    refine zW (hK3 _ ?_)
    refine zL fun K4 hK4=> ?_
    refine zV ?_
    refine zL fun K hK=> ?_
    refine vV false zQ zN xR ?_ rfl ?_
    ·kernel_rfl
    intro C hC
    push_cast
    repeat' apply And.intro
    all_goals first|omega|with_reducible assumption|(refine hC _ ?_;kernel_rfl)|(simp only [List.length_set,List.length_append,List.length_replicate,List.length_cons,List.length_nil];omega)|skip
    all_goals first|(refine hK _ ?_;clear hC C hK K)|(simp only [push_cast];done)
    refine θU (fun hc=> ?_) fun hc=> ?_
    ·
     refine θA ?_
     refine zY ⟨Or.inl rfl,?_⟩
     push_cast [zd]
     exact(decide_eq_false (fun e=>by subst e;omega)).symm
    ·
     refine zW (hK4 _ ?_)
     refine θB ?_
     refine hL0 _ ⟨k+1,⟨by omega,fun j hj=>(by
       by_cases hjk:j=k
       ·subst hjk;omega
       ·exact hall j (by omega))⟩,by omega,?_⟩
     exact θX
   ·
    refine zi (hK2 _ ?_)
    refine θA ?_
    refine zY ⟨Or.inl rfl,?_⟩
    push_cast [zd]
    exact(decide_eq_true (zH9 (by omega) fun j hj=>hall j (by omega))).symm
set_option maxRecDepth 20000 in
set_option maxHeartbeats 4000000 in
theorem ku (x:Int):Fn Tryz.prog tyT 185 [.c (.int .i64 x)] [.c (.bool false)]:=by
 refine θH (ts:= [2]) Tryz.func185 Tryz.ntmps185 ?_
 push_cast
 refine θA ?_
 refine θA ?_
 refine zY ⟨Or.inl rfl,?_⟩
 push_cast [zd]
set_option maxRecDepth 20000 in
set_option maxHeartbeats 4000000 in
theorem KG (x:Int):Fn Tryz.prog tyT 208 [.c (.int .i64 x)] [.c (.bool false)]:=by
 refine θH (ts:= [2]) Tryz.func208 Tryz.ntmps208 ?_
 push_cast
 refine θA ?_
 refine θA ?_
 refine zY ⟨Or.inl rfl,?_⟩
 push_cast [zd]
set_option maxRecDepth 20000 in
set_option maxHeartbeats 4000000 in
theorem zFL (x y:Int):Fn Tryz.prog tyT 184 [.c (.int .i64 x), .c (.int .i64 y)] [.c (.bool (decide (x<y)))]:=by
 refine θH (ts:= [4]) Tryz.func184 Tryz.ntmps184 ?_
 push_cast
 refine θA ?_
 refine zL fun K hK=> ?_
 refine zc false zQ zN ?_ rfl ?_
 ·kernel_rfl
 all_goals refine zm 2 fun K9 hK9=> ?_
 all_goals push_cast
 all_goals repeat'(first|(apply zO<;>(intro hg;push_cast at hg))|(refine⟨_,KG _,?_⟩;push_cast)|apply And.intro|(intro hg;push_cast at hg))
 all_goals try exact gA
 refine hK9 _ ?_;clear hK9 K9
 all_goals refine zm 3 fun K9 hK9=> ?_
 all_goals push_cast
 all_goals repeat'(first|(apply zO<;>(intro hg;push_cast at hg))|(refine⟨_,KG _,?_⟩;push_cast)|apply And.intro|(intro hg;push_cast at hg))
 all_goals try exact gA
 refine hK9 _ ?_;clear hK9 K9
 all_goals push_cast
 all_goals repeat'(first|(apply zO<;>(intro hg;push_cast at hg))|(refine⟨_,KG _,?_⟩;push_cast)|apply And.intro|(intro hg;push_cast at hg))
 all_goals try exact gA
 refine hK _ ?_;clear hK K
 all_goals(
   refine zY ⟨Or.inl rfl,?_⟩
   push_cast [zd])
set_option maxRecDepth 20000 in
set_option maxHeartbeats 4000000 in
theorem uW (b:List Int)(hb:b.length≤1048576)(x:Int)(p:Nat)(hp:p≤b.length)(h1: ∀i,i<p→gi b i<x)(h2: ∀i,p≤i→i<b.length→x≤gi b i):Fn Tryz.prog tyT 165 [.c (DI b), .c (.int .i64 x)] [.c (.int .i64 p), .c (.bool (decide (p<b.length∧gi b p=x)))]:=by
 refine θH (ts:= [4,5]) Tryz.func165 Tryz.ntmps165 ?_
 push_cast [↓zK,↓zJ]
 refine θA ?_
 refine θA ?_
 refine θA ?_
 refine zL fun K1 hK1=> ?_
 refine zV ?_
 refine zh [7,8,9,13,14,15,16,17,18,19,20,21,22,23,24,25,26,27,28,29,30] [] (fun(q:Nat×Nat)=> [(7, .int .i64 q.1),(8, .int .i64 q.2)]) (fun q=> []) (fun q=> []) (fun q=>q.1≤p∧p≤q.2∧q.2≤b.length) (fun q=>q.2 - q.1) (0,b.length) ?_ ⟨by omega,by omega,by omega⟩ ?_
 ·
  exact θX
 ·rintro⟨i,j⟩ ⟨hi,hj,hl⟩ KL0 hL0
  simp only at hi hj hl
  push_cast [↓zK,↓zJ]
  refine zL fun K2 hK2=> ?_
  refine θA ?_
  refine θU (fun hc=> ?_) fun hc=> ?_
  ·
   refine zW (hK2 _ ?_)
   refine zV ?_
   refine θA ?_
   refine θL fun K hK=> ?_
   all_goals refine zj 6 fun K9 hK9=> ?_
   all_goals push_cast [↓zK,↓zJ]
   all_goals repeat'(first|(apply zO<;>(intro hg;(try simp only [push_cast]at hg)))|(refine⟨_,zFL _ _,?_⟩;push_cast [↓zK,↓zJ])|apply And.intro|(intro hg;(try simp only [push_cast]at hg)))
   all_goals try exact gA
   all_goals(refine hK9 _ ?_;clear hK9 K9)
   all_goals push_cast [↓zK,↓zJ]
   all_goals repeat'(first|(apply zO<;>(intro hg;(try simp only [push_cast]at hg)))|(refine⟨_,zFL _ _,?_⟩;push_cast [↓zK,↓zJ])|apply And.intro|(intro hg;(try simp only [push_cast]at hg)))
   all_goals try exact gA
   all_goals(refine hK _ ?_;clear hK K)
   refine θU (fun hc=> ?_) fun hc=> ?_
   ·
    refine θB ?_
    refine hL0 _ ⟨((i+j) / 2+1,j),⟨(by
       have h9:=fun h=>h2 ((i+j) / 2) h (by omega)
       have e9:(((i:Int)+j) / 2).toNat=(i+j) / 2:=by omega
       rw [e9]at hc
       simp only at*
       rcases Nat.lt_or_ge ((i+j) / 2) p with h8|h8
       ·omega
       ·have :=h9 h8;omega),by simp only at*;omega,by simp only at*;omega⟩,by simp only at*;omega,?_⟩
    exact θX
    all_goals(try(refine congrArg (AV.int .i64) ?_;simp only at*;omega))
   ·
    refine θB ?_
    refine hL0 _ ⟨(i,(i+j) / 2),⟨by simp only at*;omega,(by
       have h9:=fun h=>h1 ((i+j) / 2) h
       have e9:(((i:Int)+j) / 2).toNat=(i+j) / 2:=by omega
       rw [e9]at hc
       simp only at*
       rcases Nat.lt_or_ge ((i+j) / 2) p with h8|h8
       ·have :=h9 h8;omega
       ·omega),by simp only at*;omega⟩,by simp only at*;omega,?_⟩
    exact θX
    all_goals(try(refine congrArg (AV.int .i64) ?_;simp only at*;omega))
  ·
   refine zi (hK1 _ ?_)
   refine zL fun K hK=> ?_
   refine zc false zQ zN ?_ rfl ?_
   ·kernel_rfl
   all_goals refine zm 17 fun K9 hK9=> ?_
   all_goals push_cast [↓zK,↓zJ]
   all_goals repeat'(first|(apply zO<;>(intro hg;(try push_cast at hg)))|(refine⟨_,ku _,?_⟩;push_cast [↓zK,↓zJ])|apply And.intro|(intro hg;(try push_cast at hg)))
   all_goals try exact gA
   all_goals(refine hK9 _ ?_;clear hK9 K9)
   all_goals refine zm 3 fun K9 hK9=> ?_
   all_goals push_cast [↓zK,↓zJ]
   all_goals repeat'(first|(apply zO<;>(intro hg;(try push_cast at hg)))|(refine⟨_,ku _,?_⟩;push_cast [↓zK,↓zJ])|apply And.intro|(intro hg;(try push_cast at hg)))
   all_goals try exact gA
   all_goals(refine hK9 _ ?_;clear hK9 K9)
   all_goals push_cast [↓zK,↓zJ]
   all_goals repeat'(first|(apply zO<;>(intro hg;(try push_cast at hg)))|(refine⟨_,ku _,?_⟩;push_cast [↓zK,↓zJ])|apply And.intro|(intro hg;(try push_cast at hg)))
   all_goals try exact gA
   all_goals(refine hK _ ?_;clear hK K)
   all_goals(
     refine zY ⟨Or.inl rfl,?_⟩
     push_cast [zd,↓zK,↓zJ]
     all_goals(obtain rfl:i=p:=by omega)
     all_goals refine⟨rfl,?_⟩
     all_goals first|exact(decide_eq_true ⟨by omega,by with_reducible assumption⟩).symm|exact(decide_eq_false (by omega)).symm)
theorem zM4 {b:List Int}{n:Int}(hs:zv b n=true){x:Int}{p:Nat}(h1: ∀i,i<p→gi b i<x)(h2: ∀i,p≤i→i<b.length→x≤gi b i):decide (p<b.length∧gi b p=x)=zr b x:=by
 have :=zL2 h1 h2 (zEG hs)
 cases h:zr b x with
 |true=>exact decide_eq_true (this.1 h)
 |false=>exact decide_eq_false fun h3=>by rw [this.2 h3]at h;cases h
set_option maxRecDepth 20000 in
set_option maxHeartbeats 4000000 in
theorem KX (a b:List Int)(ha:a.length≤1048576)(hb:b.length≤1048576)(n:Int)(hs:zv b n=true):Fn Tryz.prog tyT 117 [.c (DI a), .c (DI b)] [.c (DI (a.filter fun x=> !zr b x))]:=by
 refine θH (ts:= [4]) Tryz.func117 Tryz.ntmps117 ?_
 push_cast
 refine θA ?_
 refine θA ?_
 refine zL fun K1 hK1=> ?_
 refine θA ?_
 refine zV ?_
 refine zh [5,7,8,9,13,14,15,16,17,18,19,20,21,22,23,24,25,26,27,28,29] [80] (fun(q:Nat×List Int)=> [(13, .int .i64 q.1),(5, .sl 80 [] 0 q.2.length 2)]) (fun q=> []) (fun q=> [(80,⟨.ex,2,dI q.2,none⟩)]) (fun q=>q.1≤a.length∧q.2=(a.take q.1).filter fun x=> !zr b x) (fun q=>a.length - q.1) (0,[]) ?_ ⟨by omega,rfl⟩ ?_
 ·
  simp only [show dI ([]:List Int)= []from rfl]
  exact θX
 ·rintro⟨k,o⟩ ⟨hk,ho⟩ KL0 hL0
  simp only at hk ho
  have hol:o.length≤a.length:=by rw [ho];exact uQ _ _ _
  obtain⟨p,q1,q2,q3⟩:=zNo hs (gi a k)
  have hB:=uW b hb (gi a k) p q1 q2 q3
  rw [zM4 hs q2 q3]at hB
  push_cast
  refine θA ?_
  refine zL fun K2 hK2=> ?_
  refine θU (fun hc=> ?_) fun hc=> ?_
  ·
   refine zW (hK2 _ ?_)
   refine zL fun K3 hK3=> ?_
   refine zV ?_
   refine θA ?_
   refine θL fun K hK=> ?_
   refine θD 3 ?_
   refine θE hK ?_
   refine θA ?_
   refine θU (fun hc=> ?_) fun hc=> ?_
   ·
    refine θB ?_
    refine hK3 _ ?_
    refine θB ?_
    refine hL0 _ ⟨(k+1,o++ [gi a k]),⟨by simp only;omega,by simp only;rw [kj (by omega) (by rw [hc];rfl),←ho]⟩,by simp only;omega,?_⟩
    refine zX rfl ?_ ?_ ?_<;>push_cast [zf,ze]
    all_goals(try(rw [List.length_append];rfl))
   ·
    refine zW (hK3 _ ?_)
    refine θB ?_
    refine hL0 _ ⟨(k+1,o),⟨by simp only;omega,by simp only;rw [zAJ (by omega) (by rw [hc];rfl),←ho]⟩,by simp only;omega,?_⟩
    exact θX
    all_goals(try(rw [List.length_append];rfl))
  ·
   refine zi ?_
   have hkk:k=a.length:=by omega
   subst hkk
   rw [List.take_length]at ho
   refine hK1 _ ?_
   refine θA ?_
   refine zY ⟨Or.inl rfl,?_⟩
   push_cast [zd]
   subst ho
   first|rfl|(simp;done)
set_option maxRecDepth 20000 in
set_option maxHeartbeats 4000000 in
theorem UI (s t:List Int)(h1:s.length≤1048576)(h2:t.length≤1048576):FnX Tryz.prog tyT 127 [.v (.c (DI s)), .ref (.lst 2 [DI t])] [.c (.bool (decide (s=t)))]:=by
 refine YJ (fn:=Tryz.f127) (rs:= [.tmp 3]) zQ zN Tryz.func127 (by kernel_rfl) rfl rfl (by rw [Tryz.ntmps127];exact Nat.le_of_ble_eq_true rfl) rfl (by simp only [szX,List.mem_cons,List.not_mem_nil,or_false,forall_eq_or_imp,forall_eq,XT.cells,VT.cells,szL];try decide) ?_
 rw [Tryz.ntmps127]
 push_cast
 refine θA ?_
 refine θL fun K hK=> ?_
 all_goals refine zj 3 fun K9 hK9=> ?_
 all_goals push_cast
 all_goals repeat'(first|(apply zO<;>(intro hg;push_cast at hg))|(refine⟨_,kT s t h1 h2,?_⟩;push_cast)|apply And.intro|(intro hg;push_cast at hg))
 all_goals try exact gA
 refine hK9 _ ?_;clear hK9 K9
 all_goals push_cast
 all_goals repeat'(first|(apply zO<;>(intro hg;push_cast at hg))|(refine⟨_,kT s t h1 h2,?_⟩;push_cast)|apply And.intro|(intro hg;push_cast at hg))
 all_goals try exact gA
 refine hK _ ?_;clear hK K
 refine zY ⟨Or.inl rfl,?_⟩
 push_cast [zd,zt,yH]
set_option maxRecDepth 20000 in
set_option maxHeartbeats 4000000 in
theorem zCT (xs:List (List Int))(hl:xs.length≤1048576)(hr: ∀v,(gl xs v).length≤1048576)(g:FuncId)(d:D)(ds:List D)(p:List Int→Bool)(hp: ∀k,k<xs.length→FnX Tryz.prog tyT g [.v (.c (DI (gl xs k))), .ref (.lst 2 (d::ds))] [.c (.bool (p (gl xs k)))]):FnX Tryz.prog tyT 134 [.v (.c (DII xs)), .clo g [.lst 2 (d::ds)]] [.c (.int .i64 (ixF p xs))]:=by
 refine YJ (fn:=Tryz.f134) (rs:= [.tmp 4]) zQ zN Tryz.func134 (by kernel_rfl) rfl rfl (by rw [Tryz.ntmps134];exact Nat.le_of_ble_eq_true rfl) rfl (by simp only [szX,List.mem_cons,List.not_mem_nil,or_false,forall_eq_or_imp,forall_eq,XT.cells,VT.cells,szL];try decide) ?_
 rw [Tryz.ntmps134]
 push_cast [↓zK,↓zJ]
 refine θA ?_
 refine zL fun K1 hK1=> ?_
 refine θA ?_
 refine zV ?_
 refine zh [4,5,8,9,10,11,12,13,14,15,16,17,18] [] (fun(k:Nat)=> [(8, .int .i64 k)]) (fun k=> []) (fun k=> []) (fun k=>k≤xs.length∧∀j,j<k→p (gl xs j)=false) (fun k=>xs.length - k) 0 ?_ ⟨by omega,fun j hj=>by omega⟩ ?_
 ·
  exact θX
 ·rintro k ⟨hk,hall⟩ KL0 hL0
  have hrk:=hr k
  push_cast [↓zK,↓zJ]
  refine θA ?_
  refine zL fun K2 hK2=> ?_
  refine θU (fun hc=> ?_) fun hc=> ?_
  ·
   refine zW (hK2 _ ?_)
   refine zL fun K3 hK3=> ?_
   refine zV ?_
   refine θA ?_
   refine zL fun K hK=> ?_
   refine vu 16 2 rfl zQ zN [] rfl ?_
   push_cast [↓zK,↓zJ]
   repeat' apply And.intro
   all_goals(try push_cast [↓zK,↓zJ])
   all_goals repeat'(first|(apply zO<;>(intro hg;(try push_cast at hg)))|(refine⟨_,hp k (by omega),?_⟩;push_cast [↓zK,↓zJ])|apply And.intro|(intro hg;(try push_cast at hg)))
   all_goals first|exact gA|(exact zP (by omega))|skip
   all_goals(refine hK _ ?_;clear hK K)
   refine θU (fun hc=> ?_) fun hc=> ?_
   ·
    refine θA ?_
    refine zY ⟨Or.inl rfl,?_⟩
    push_cast [zd,zt,yH,↓zK,↓zJ]
    rw [zIO (k:=k) (by omega) (fun j hj=>hall j hj) hc]
   ·
    refine zW (hK3 _ ?_)
    refine θB ?_
    refine hL0 _ ⟨k+1,⟨by omega,fun j hj=>(by
      by_cases hjk:j=k
      ·subst hjk;exact hc
      ·exact hall j (by omega))⟩,by omega,?_⟩
    exact θX
  ·
   refine zi (hK1 _ ?_)
   refine θA ?_
   refine zY ⟨Or.inl rfl,?_⟩
   push_cast [zd,zt,yH,↓zK,↓zJ]
   rw [zJj fun j hj=>hall j (by omega)]
set_option maxRecDepth 20000 in
set_option maxHeartbeats 4000000 in
theorem Qw (xs:List (List Int))(hl:xs.length≤1048576)(hr: ∀v,(gl xs v).length≤1048576)(g:FuncId)(d:D)(ds:List D)(p:List Int→Bool)(hp: ∀k,k<xs.length→FnX Tryz.prog tyT g [.v (.c (DI (gl xs k))), .ref (.lst 2 (d::ds))] [.c (.bool (p (gl xs k)))]):FnX Tryz.prog tyT 126 [.v (.c (DII xs)), .clo g [.lst 2 (d::ds)]] [.c (.bool (xs.any p))]:=by
 refine YJ (fn:=Tryz.f126) (rs:= [.tmp 4]) zQ zN Tryz.func126 (by kernel_rfl) rfl rfl (by rw [Tryz.ntmps126];exact Nat.le_of_ble_eq_true rfl) rfl (by simp only [szX,List.mem_cons,List.not_mem_nil,or_false,forall_eq_or_imp,forall_eq,XT.cells,VT.cells,szL];try decide) ?_
 rw [Tryz.ntmps126]
 push_cast [↓zK,↓zJ]
 refine θA ?_
 refine zL fun K hK=> ?_
 refine vu 7 2 rfl zQ zN [] rfl ?_
 push_cast [↓zK,↓zJ]
 repeat' apply And.intro
 all_goals(try push_cast [↓zK,↓zJ])
 all_goals repeat'(first|(apply zO<;>(intro hg;(try push_cast at hg)))|(refine⟨_,zCT xs hl hr g d ds p hp,?_⟩;push_cast [↓zK,↓zJ])|apply And.intro|(intro hg;(try push_cast at hg)))
 all_goals try exact gA
 all_goals(refine hK _ ?_;clear hK K)
 refine zY ⟨Or.inl rfl,?_⟩
 push_cast [zd,zt,yH,↓zK,↓zJ]
 rw [←zLu]
set_option maxRecDepth 20000 in
set_option maxHeartbeats 4000000 in
theorem VJ (f:Fm)(h1:f.sets.length≤1048576)(hr: ∀v,(gl f.sets v).length≤1048576)(t:List Int)(h2:t.length≤1048576):Fn Tryz.prog tyT 73 [.agg (dFm f), .c (DI t)] [.c (.bool (xn f.sets t))]:=by
 unfold dFm
 refine θH (ts:= [4]) Tryz.func73 Tryz.ntmps73 ?_
 push_cast [↓zK,↓zJ]
 refine θA ?_
 refine zL fun K hK=> ?_
 refine vu 8 2 rfl zQ zN [] rfl ?_
 push_cast [↓zK,↓zJ]
 repeat' apply And.intro
 all_goals(try push_cast [↓zK,↓zJ])
 all_goals repeat'(first|(apply zO<;>(intro hg;(try push_cast at hg)))|(refine⟨_,Qw f.sets h1 hr _ (DI t) [] (fun x=>decide (x=t)) (fun k hk=>UI (gl f.sets k) t (hr k) h2),?_⟩;push_cast [↓zK,↓zJ])|apply And.intro|(intro hg;(try push_cast at hg)))
 all_goals first|exact gA|decide|skip
 all_goals(refine hK _ ?_;clear hK K)
 refine zY ⟨Or.inl rfl,?_⟩
 push_cast [zd,↓zK,↓zJ]
 rfl
end Go.Proofs.YthepmdkpbjfdcaaGreat
