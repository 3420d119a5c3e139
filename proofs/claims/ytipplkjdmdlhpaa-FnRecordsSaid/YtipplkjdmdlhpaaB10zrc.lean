/- lists, sets, and function values: the library's searches, both sides' helpers -/
import Derived.Test.YtipplkjdmdlhpaaGWzrc
import Derived.Test.YtipplkjdmdlhpaaB4zrc
import Derived.Shelf.SortG.Plain
import Derived.Shelf.SortG.SortNone
import Derived.Test.YtipplkjdmdlhpaaProg
import Derived.Sort.OwnSortedInts
import Derived.Test.YtipplkjdmdlhpaaB8zrc
namespace Go.Proofs.Ytipplkjdmdlhpaa
open Nat renaming reduceMod → zA, reduceMul → zB, reduceDiv → zC, reduceAdd → zD, reduceSub → zE, reduceEqDiff → zF, reduceBEq → zG, reduceLT → zH, reduceLeDiff → zI
open Go.RowKit
set_option linter.unusedVariables false
set_option linter.unusedSimpArgs false
theorem zFG :min 1 64=1:=rfl
theorem pow_1 :(2:Int)^1=2:=rfl
attribute [push_cast] zFG pow_1
theorem Qy {xs:List Int}{k:Nat}(h:k<xs.length):xs.take (k+1)=xs.take k++ [gi xs k]:=by rw [List.take_add_one,wt h];rfl
theorem UX {xs:List Int}{k:Nat}(h:k<xs.length):gi xs k∈xs:=List.mem_of_getElem? (wt h)
theorem zIG {xs:List Int}{x:Int}(h:x∈xs): ∃k,k<xs.length∧gi xs k=x:=by
 obtain⟨k,hk,rfl⟩:=List.mem_iff_getElem.1 h
 exact⟨k,hk,by have :=wt hk;rw [List.getElem?_eq_getElem hk]at this;exact(Option.some.inj this).symm⟩
theorem zIH {xs:List (List Int)}{x:List Int}(h:x∈xs): ∃k,k<xs.length∧gl xs k=x:=by
 obtain⟨k,hk,rfl⟩:=List.mem_iff_getElem.1 h
 exact⟨k,hk,by have :=zCV hk;rw [List.getElem?_eq_getElem hk]at this;exact(Option.some.inj this).symm⟩
theorem zDi {xs ys:List Int}(hl:xs.length=ys.length)(h: ∀k,k<xs.length→gi xs k=gi ys k):xs=ys:=by
 refine List.ext_getElem? fun k=> ?_
 rcases Nat.lt_or_ge k xs.length with hk|hk
 ·rw [wt hk,wt (xs:=ys) (by omega),h k hk]
 ·rw [List.getElem?_eq_none hk,List.getElem?_eq_none (by omega)]
theorem zE4 {xs:List Int}{p:Int→Bool}{k:Nat}(h:k<xs.length)(hp:p (gi xs k)=true):(xs.take (k+1)).filter p=(xs.take k).filter p++ [gi xs k]:=by
 rw [Qy h,List.filter_append];simp [hp]
theorem zGZ {xs:List Int}{p:Int→Bool}{k:Nat}(h:k<xs.length)(hp:p (gi xs k)=false):(xs.take (k+1)).filter p=(xs.take k).filter p:=by
 rw [Qy h,List.filter_append];simp [hp]
theorem zFl (xs:List Int)(p:Int→Bool)(k:Nat):((xs.take k).filter p).length≤xs.length:=Nat.le_trans (List.length_filter_le _ _) (by rw [List.length_take];omega)
theorem zIE {b:List Int}{n:Int}(hs:yN b n=true)(x:Int): ∃p,p≤b.length∧(∀i,i<p→gi b i<x)∧∀i,p≤i→i<b.length→x≤gi b i:=by
 have hr: ∀i j,i<j→j<b.length→gi b i<gi b j:=by
  intro i j hij
  induction j with
  |zero=>omega
  |succ j ih=>
   intro hj
   have h1:=qI hs hj
   unfold qF at h1
   have h1:=of_decide_eq_true h1
   simp at h1
   rcases Nat.lt_or_ge i j with h2|h2
   ·have :=ih h2 (by omega);omega
   ·have :i=j:=by omega
    subst this;omega
 have key: ∀m,m≤b.length→∃p,p≤m∧(∀i,i<p→gi b i<x)∧∀i,p≤i→i<m→x≤gi b i:=by
  intro m
  induction m with
  |zero=>intro _;exact⟨0,by omega,fun i hi=>by omega,fun i hi hj=>by omega⟩
  |succ m ih=>
   intro hm
   obtain⟨p,h1,h2,h3⟩:=ih (by omega)
   by_cases hx:gi b m<x
   ·refine⟨m+1,by omega,fun i hi=> ?_,fun i hi hj=>by omega⟩
    rcases Nat.lt_or_ge i m with h4|h4
    ·have :=hr i m h4 (by omega);omega
    ·have :i=m:=by omega
     subst this;exact hx
   ·refine⟨p,by omega,h2,fun i hi hj=> ?_⟩
    rcases Nat.lt_or_ge i m with h4|h4
    ·exact h3 i hi h4
    ·have :i=m:=by omega
     subst this;omega
 exact key b.length (Nat.le_refl _)
theorem zGt {b:List Int}{x:Int}{p:Nat}(h1: ∀i,i<p→gi b i<x)(h2: ∀i,p≤i→i<b.length→x≤gi b i)(hr: ∀i j,i<j→j<b.length→gi b i<gi b j):zt b x=true↔p<b.length∧gi b p=x:=by
 rw [xQ]
 constructor
 ·intro h
  obtain⟨k,hk,rfl⟩:=zIG h
  have h3: ¬k<p:=fun hkp=>by have :=h1 k hkp;omega
  rcases Nat.lt_or_ge p k with h4|h4
  ·have :=hr p k h4 hk
   have :=h2 p (Nat.le_refl _) (by omega)
   omega
  ·have :k=p:=by omega
   subst this;exact⟨hk,rfl⟩
 ·rintro⟨h3,rfl⟩
  exact UX h3
theorem zAJ {b:List Int}{n:Int}(hs:yN b n=true): ∀i j,i<j→j<b.length→gi b i<gi b j:=by
 intro i j hij
 induction j with
 |zero=>omega
 |succ j ih=>
  intro hj
  have h1:=qI hs hj
  unfold qF at h1
  have h1:=of_decide_eq_true h1
  simp at h1
  rcases Nat.lt_or_ge i j with h2|h2
  ·have :=ih h2 (by omega);omega
  ·have :i=j:=by omega
   subst this;omega
def XY (ss:List (List Int))(s:List Int):Bool:=ss.any fun x=>decide (x=s)
set_option maxRecDepth 20000 in
set_option maxHeartbeats 4000000 in
theorem zEe (s t:List Int)(h1:s.length≤1048576)(h2:t.length≤1048576):Fn Try.prog tyT 91 [.c (DI s), .c (DI t)] [.c (.bool (decide (s=t)))]:=by
 refine yG (fn:=Try.f91) (ts:= [4]) Try.func91 (by kernel_rfl) rfl rfl (by rw [Try.ntmps91];exact Nat.le_of_ble_eq_true rfl) rfl (by simp only [szA,List.mem_cons,List.not_mem_nil,or_false,forall_eq_or_imp,forall_eq,VT.cells,szL];try decide) ?_
 rw [Try.ntmps91]
 simp only [push_cast,↓zK,↓zJ,↓reduceIte,zA,zB,zC,zD,zE,zF,zG,zH,zI,reduceCtorEq]
 refine zL fun K hK=> ?_
 refine zM zQ zN [] rfl ?_
 simp only [push_cast,↓zK,↓zJ,↓reduceIte,zA,zB,zC,zD,zE,zF,zG,zH,zI,reduceCtorEq]
 repeat' apply And.intro
 all_goals try exact gB
 all_goals first|(refine hK _ ?_;clear hK K)|(simp only [push_cast];done)
 refine zL fun K1 hK1=> ?_
 refine zL fun K hK=> ?_
 refine zM zQ zN [] rfl ?_
 simp only [push_cast,↓zK,↓zJ,↓reduceIte,zA,zB,zC,zD,zE,zF,zG,zH,zI,reduceCtorEq]
 repeat' apply And.intro
 all_goals try exact gB
 all_goals first|(refine hK _ ?_;clear hK K)|(simp only [push_cast];done)
 refine zV rfl (fun hc=> ?_) (fun hc=> ?_)<;>(try simp only [push_cast]at hc)
 ·
  refine zL fun K hK=> ?_
  refine zM zQ zN [] rfl ?_
  simp only [push_cast,↓zK,↓zJ,↓reduceIte,zA,zB,zC,zD,zE,zF,zG,zH,zI,reduceCtorEq]
  repeat' apply And.intro
  all_goals try exact gB
  all_goals first|(refine hK _ ?_;clear hK K)|(simp only [push_cast];done)
  refine zZ ?_
  (try simp only [zR,zT])
  refine⟨Or.inl rfl,?_⟩
  simp only [zf,push_cast,↓zK,↓zJ,↓reduceIte,zA,zB,zC,zD,zE,zF,zG,zH,zI,reduceCtorEq]
  exact(decide_eq_false (fun e=>by subst e;omega)).symm
 ·
  refine zX ?_
  (try simp only [zR,zT,reduceIte,zF]);refine hK1 _ ?_
  refine zL fun K2 hK2=> ?_
  refine zL fun K hK=> ?_
  refine zM zQ zN [] rfl ?_
  simp only [push_cast,↓zK,↓zJ,↓reduceIte,zA,zB,zC,zD,zE,zF,zG,zH,zI,reduceCtorEq]
  repeat' apply And.intro
  all_goals try exact gB
  all_goals first|(refine hK _ ?_;clear hK K)|(simp only [push_cast];done)
  refine zW ?_
  refine zk [4,5,13,14,15,16,17,18,19,20,21,22,23,24,25] [] (fun(k:Nat)=> [(13, .int .i64 k)]) (fun k=> []) (fun k=> []) (fun k=>k≤s.length∧∀j,j<k→gi s j=gi t j) (fun k=>s.length - k) 0 ?_ ⟨by omega,fun j hj=>by omega⟩ ?_
  ·
   refine zb rfl ?_ ?_ ?_<;>simp only [zi,zh,push_cast,↓zK,↓zJ,↓reduceIte,zA,zB,zC,zD,zE,zF,zG,zH,zI,reduceCtorEq]
  ·rintro k ⟨hk,hall⟩ KL0 hL0
   simp only [push_cast,↓zK,↓zJ,↓reduceIte,zA,zB,zC,zD,zE,zF,zG,zH,zI,reduceCtorEq]
   refine zL fun K hK=> ?_
   refine zM zQ zN [] rfl ?_
   simp only [push_cast,↓zK,↓zJ,↓reduceIte,zA,zB,zC,zD,zE,zF,zG,zH,zI,reduceCtorEq]
   repeat' apply And.intro
   all_goals try exact gB
   all_goals first|(refine hK _ ?_;clear hK K)|(simp only [push_cast];done)
   refine zL fun K3 hK3=> ?_
   refine zV rfl (fun hc=> ?_) (fun hc=> ?_)<;>(try simp only [push_cast]at hc)
   ·
    refine zX ?_
    (try simp only [zR,zT,reduceIte,zF]);refine hK3 _ ?_
    refine zL fun K4 hK4=> ?_
    refine zW ?_
    refine zL fun K hK=> ?_
    refine zM zQ zN [] rfl ?_
    simp only [push_cast,↓zK,↓zJ,↓reduceIte,zA,zB,zC,zD,zE,zF,zG,zH,zI,reduceCtorEq]
    repeat' apply And.intro
    all_goals try exact gB
    all_goals first|(refine hK _ ?_;clear hK K)|(simp only [push_cast];done)
    refine zL fun K hK=> ?_
    refine qC false zQ zN xC ?_ rfl ?_
    ·kernel_rfl
    intro C hC
    simp only [push_cast,↓zK,↓zJ,↓reduceIte,zA,zB,zC,zD,zE,zF,zG,zH,zI,reduceCtorEq]
    repeat' apply And.intro
    all_goals first|omega|with_reducible assumption|(refine hC _ ?_;kernel_rfl)|(simp only [List.length_set,List.length_append,List.length_replicate,List.length_cons,List.length_nil];omega)|skip
    all_goals first|(refine hK _ ?_;clear hC C hK K)|(simp only [push_cast];done)
    refine zV rfl (fun hc=> ?_) (fun hc=> ?_)<;>(try simp only [push_cast]at hc)
    ·
     refine zL fun K hK=> ?_
     refine zM zQ zN [] rfl ?_
     simp only [push_cast,↓zK,↓zJ,↓reduceIte,zA,zB,zC,zD,zE,zF,zG,zH,zI,reduceCtorEq]
     repeat' apply And.intro
     all_goals try exact gB
     all_goals first|(refine hK _ ?_;clear hK K)|(simp only [push_cast];done)
     refine zZ ?_
     (try simp only [zR,zT])
     refine⟨Or.inl rfl,?_⟩
     simp only [zf,push_cast,↓zK,↓zJ,↓reduceIte,zA,zB,zC,zD,zE,zF,zG,zH,zI,reduceCtorEq]
     exact(decide_eq_false (fun e=>by subst e;omega)).symm
    ·
     refine zX ?_
     (try simp only [zR,zT,reduceIte,zF]);refine hK4 _ ?_
     refine zM zQ zN [] rfl ?_
     simp only [push_cast,↓zK,↓zJ,↓reduceIte,zA,zB,zC,zD,zE,zF,zG,zH,zI,reduceCtorEq]
     repeat' apply And.intro
     all_goals try exact gB
     refine hL0 _ ⟨k+1,⟨by omega,fun j hj=>(by
       by_cases hjk:j=k
       ·subst hjk;omega
       ·exact hall j (by omega))⟩,by omega,?_⟩
     refine zb rfl ?_ ?_ ?_<;>simp only [zi,zh,push_cast,↓zK,↓zJ,↓reduceIte,zA,zB,zC,zD,zE,zF,zG,zH,zI,reduceCtorEq]
   ·
    refine zn ?_
    (try simp only [zR,zT,reduceIte,zF]);refine hK2 _ ?_
    refine zL fun K hK=> ?_
    refine zM zQ zN [] rfl ?_
    simp only [push_cast,↓zK,↓zJ,↓reduceIte,zA,zB,zC,zD,zE,zF,zG,zH,zI,reduceCtorEq]
    repeat' apply And.intro
    all_goals try exact gB
    all_goals first|(refine hK _ ?_;clear hK K)|(simp only [push_cast];done)
    refine zZ ?_
    (try simp only [zR,zT])
    refine⟨Or.inl rfl,?_⟩
    simp only [zf,push_cast,↓zK,↓zJ,↓reduceIte,zA,zB,zC,zD,zE,zF,zG,zH,zI,reduceCtorEq]
    exact(decide_eq_true (zDi (by omega) fun j hj=>hall j (by omega))).symm
set_option maxRecDepth 20000 in
set_option maxHeartbeats 4000000 in
theorem Xr (s t:List Int)(h1:s.length≤1048576)(h2:t.length≤1048576):Fn Try.prog tyT 75 [.c (DI s), .c (DI t)] [.c (.bool (decide (s=t)))]:=by
 refine yG (fn:=Try.f75) (ts:= [4]) Try.func75 (by kernel_rfl) rfl rfl (by rw [Try.ntmps75];exact Nat.le_of_ble_eq_true rfl) rfl (by simp only [szA,List.mem_cons,List.not_mem_nil,or_false,forall_eq_or_imp,forall_eq,VT.cells,szL];try decide) ?_
 rw [Try.ntmps75]
 simp only [push_cast,↓zK,↓zJ,↓reduceIte,zA,zB,zC,zD,zE,zF,zG,zH,zI,reduceCtorEq]
 refine zL fun K hK=> ?_
 refine zM zQ zN [] rfl ?_
 simp only [push_cast,↓zK,↓zJ,↓reduceIte,zA,zB,zC,zD,zE,zF,zG,zH,zI,reduceCtorEq]
 repeat' apply And.intro
 all_goals try exact gB
 all_goals first|(refine hK _ ?_;clear hK K)|(simp only [push_cast];done)
 refine zL fun K1 hK1=> ?_
 refine zL fun K hK=> ?_
 refine zM zQ zN [] rfl ?_
 simp only [push_cast,↓zK,↓zJ,↓reduceIte,zA,zB,zC,zD,zE,zF,zG,zH,zI,reduceCtorEq]
 repeat' apply And.intro
 all_goals try exact gB
 all_goals first|(refine hK _ ?_;clear hK K)|(simp only [push_cast];done)
 refine zV rfl (fun hc=> ?_) (fun hc=> ?_)<;>(try simp only [push_cast]at hc)
 ·
  refine zL fun K hK=> ?_
  refine zM zQ zN [] rfl ?_
  simp only [push_cast,↓zK,↓zJ,↓reduceIte,zA,zB,zC,zD,zE,zF,zG,zH,zI,reduceCtorEq]
  repeat' apply And.intro
  all_goals try exact gB
  all_goals first|(refine hK _ ?_;clear hK K)|(simp only [push_cast];done)
  refine zZ ?_
  (try simp only [zR,zT])
  refine⟨Or.inl rfl,?_⟩
  simp only [zf,push_cast,↓zK,↓zJ,↓reduceIte,zA,zB,zC,zD,zE,zF,zG,zH,zI,reduceCtorEq]
  exact(decide_eq_false (fun e=>by subst e;omega)).symm
 ·
  refine zX ?_
  (try simp only [zR,zT,reduceIte,zF]);refine hK1 _ ?_
  refine zL fun K2 hK2=> ?_
  refine zL fun K hK=> ?_
  refine zM zQ zN [] rfl ?_
  simp only [push_cast,↓zK,↓zJ,↓reduceIte,zA,zB,zC,zD,zE,zF,zG,zH,zI,reduceCtorEq]
  repeat' apply And.intro
  all_goals try exact gB
  all_goals first|(refine hK _ ?_;clear hK K)|(simp only [push_cast];done)
  refine zW ?_
  refine zk [4,5,11,12,13,14,15,16,17,18,19,20,21,22,23,24,25] [] (fun(k:Nat)=> [(5, .int .i64 k)]) (fun k=> []) (fun k=> []) (fun k=>k≤s.length∧∀j,j<k→gi s j=gi t j) (fun k=>s.length - k) 0 ?_ ⟨by omega,fun j hj=>by omega⟩ ?_
  ·
   refine zb rfl ?_ ?_ ?_<;>simp only [zi,zh,push_cast,↓zK,↓zJ,↓reduceIte,zA,zB,zC,zD,zE,zF,zG,zH,zI,reduceCtorEq]
  ·rintro k ⟨hk,hall⟩ KL0 hL0
   simp only [push_cast,↓zK,↓zJ,↓reduceIte,zA,zB,zC,zD,zE,zF,zG,zH,zI,reduceCtorEq]
   refine zL fun K3 hK3=> ?_
   refine zL fun K hK=> ?_
   refine zM zQ zN [] rfl ?_
   simp only [push_cast,↓zK,↓zJ,↓reduceIte,zA,zB,zC,zD,zE,zF,zG,zH,zI,reduceCtorEq]
   repeat' apply And.intro
   all_goals try exact gB
   all_goals first|(refine hK _ ?_;clear hK K)|(simp only [push_cast];done)
   refine zV rfl (fun hc=> ?_) (fun hc=> ?_)<;>(try simp only [push_cast]at hc)
   ·
    refine zX ?_
    (try simp only [zR,zT,reduceIte,zF]);refine hK3 _ ?_
    refine zL fun K4 hK4=> ?_
    refine zW ?_
    refine zL fun K hK=> ?_
    refine qC false zQ zN xC ?_ rfl ?_
    ·kernel_rfl
    intro C hC
    simp only [push_cast,↓zK,↓zJ,↓reduceIte,zA,zB,zC,zD,zE,zF,zG,zH,zI,reduceCtorEq]
    repeat' apply And.intro
    all_goals first|omega|with_reducible assumption|(refine hC _ ?_;kernel_rfl)|(simp only [List.length_set,List.length_append,List.length_replicate,List.length_cons,List.length_nil];omega)|skip
    all_goals first|(refine hK _ ?_;clear hC C hK K)|(simp only [push_cast];done)
    refine zV rfl (fun hc=> ?_) (fun hc=> ?_)<;>(try simp only [push_cast]at hc)
    ·
     refine zL fun K hK=> ?_
     refine zM zQ zN [] rfl ?_
     simp only [push_cast,↓zK,↓zJ,↓reduceIte,zA,zB,zC,zD,zE,zF,zG,zH,zI,reduceCtorEq]
     repeat' apply And.intro
     all_goals try exact gB
     all_goals first|(refine hK _ ?_;clear hK K)|(simp only [push_cast];done)
     refine zZ ?_
     (try simp only [zR,zT])
     refine⟨Or.inl rfl,?_⟩
     simp only [zf,push_cast,↓zK,↓zJ,↓reduceIte,zA,zB,zC,zD,zE,zF,zG,zH,zI,reduceCtorEq]
     exact(decide_eq_false (fun e=>by subst e;omega)).symm
    ·
     refine zX ?_
     (try simp only [zR,zT,reduceIte,zF]);refine hK4 _ ?_
     refine zM zQ zN [] rfl ?_
     simp only [push_cast,↓zK,↓zJ,↓reduceIte,zA,zB,zC,zD,zE,zF,zG,zH,zI,reduceCtorEq]
     repeat' apply And.intro
     all_goals try exact gB
     refine hL0 _ ⟨k+1,⟨by omega,fun j hj=>(by
       by_cases hjk:j=k
       ·subst hjk;omega
       ·exact hall j (by omega))⟩,by omega,?_⟩
     refine zb rfl ?_ ?_ ?_<;>simp only [zi,zh,push_cast,↓zK,↓zJ,↓reduceIte,zA,zB,zC,zD,zE,zF,zG,zH,zI,reduceCtorEq]
   ·
    refine zn ?_
    (try simp only [zR,zT,reduceIte,zF]);refine hK2 _ ?_
    refine zL fun K hK=> ?_
    refine zM zQ zN [] rfl ?_
    simp only [push_cast,↓zK,↓zJ,↓reduceIte,zA,zB,zC,zD,zE,zF,zG,zH,zI,reduceCtorEq]
    repeat' apply And.intro
    all_goals try exact gB
    all_goals first|(refine hK _ ?_;clear hK K)|(simp only [push_cast];done)
    refine zZ ?_
    (try simp only [zR,zT])
    refine⟨Or.inl rfl,?_⟩
    simp only [zf,push_cast,↓zK,↓zJ,↓reduceIte,zA,zB,zC,zD,zE,zF,zG,zH,zI,reduceCtorEq]
    exact(decide_eq_true (zDi (by omega) fun j hj=>hall j (by omega))).symm
set_option maxRecDepth 20000 in
set_option maxHeartbeats 4000000 in
theorem Jb (x:Int):Fn Try.prog tyT 111 [.c (.int .i64 x)] [.c (.bool false)]:=by
 refine yG (fn:=Try.f111) (ts:= [2]) Try.func111 (by kernel_rfl) rfl rfl (by rw [Try.ntmps111];exact Nat.le_of_ble_eq_true rfl) rfl (by simp only [szA,List.mem_cons,List.not_mem_nil,or_false,forall_eq_or_imp,forall_eq,VT.cells,szL];try decide) ?_
 rw [Try.ntmps111]
 simp only [push_cast,↓zK,↓zJ,↓reduceIte,zA,zB,zC,zD,zE,zF,zG,zH,zI,reduceCtorEq]
 refine zL fun K hK=> ?_
 refine zM zQ zN [] rfl ?_
 simp only [push_cast,↓zK,↓zJ,↓reduceIte,zA,zB,zC,zD,zE,zF,zG,zH,zI,reduceCtorEq]
 repeat' apply And.intro
 all_goals try exact gB
 all_goals first|(refine hK _ ?_;clear hK K)|(simp only [push_cast];done)
 refine zL fun K hK=> ?_
 refine zM zQ zN [] rfl ?_
 simp only [push_cast,↓zK,↓zJ,↓reduceIte,zA,zB,zC,zD,zE,zF,zG,zH,zI,reduceCtorEq]
 repeat' apply And.intro
 all_goals try exact gB
 all_goals first|(refine hK _ ?_;clear hK K)|(simp only [push_cast];done)
 refine zZ ?_
 (try simp only [zR,zT])
 refine⟨Or.inl rfl,?_⟩
 simp only [zf,push_cast,↓zK,↓zJ,↓reduceIte,zA,zB,zC,zD,zE,zF,zG,zH,zI,reduceCtorEq]
set_option maxRecDepth 20000 in
set_option maxHeartbeats 4000000 in
theorem VY (x:Int):Fn Try.prog tyT 117 [.c (.int .i64 x)] [.c (.bool false)]:=by
 refine yG (fn:=Try.f117) (ts:= [2]) Try.func117 (by kernel_rfl) rfl rfl (by rw [Try.ntmps117];exact Nat.le_of_ble_eq_true rfl) rfl (by simp only [szA,List.mem_cons,List.not_mem_nil,or_false,forall_eq_or_imp,forall_eq,VT.cells,szL];try decide) ?_
 rw [Try.ntmps117]
 simp only [push_cast,↓zK,↓zJ,↓reduceIte,zA,zB,zC,zD,zE,zF,zG,zH,zI,reduceCtorEq]
 refine zL fun K hK=> ?_
 refine zM zQ zN [] rfl ?_
 simp only [push_cast,↓zK,↓zJ,↓reduceIte,zA,zB,zC,zD,zE,zF,zG,zH,zI,reduceCtorEq]
 repeat' apply And.intro
 all_goals try exact gB
 all_goals first|(refine hK _ ?_;clear hK K)|(simp only [push_cast];done)
 refine zL fun K hK=> ?_
 refine zM zQ zN [] rfl ?_
 simp only [push_cast,↓zK,↓zJ,↓reduceIte,zA,zB,zC,zD,zE,zF,zG,zH,zI,reduceCtorEq]
 repeat' apply And.intro
 all_goals try exact gB
 all_goals first|(refine hK _ ?_;clear hK K)|(simp only [push_cast];done)
 refine zZ ?_
 (try simp only [zR,zT])
 refine⟨Or.inl rfl,?_⟩
 simp only [zf,push_cast,↓zK,↓zJ,↓reduceIte,zA,zB,zC,zD,zE,zF,zG,zH,zI,reduceCtorEq]
set_option maxRecDepth 20000 in
set_option maxHeartbeats 4000000 in
theorem zBF (x y:Int):Fn Try.prog tyT 106 [.c (.int .i64 x), .c (.int .i64 y)] [.c (.bool (decide (x<y)))]:=by
 refine yG (fn:=Try.f106) (ts:= [4]) Try.func106 (by kernel_rfl) rfl rfl (by rw [Try.ntmps106];exact Nat.le_of_ble_eq_true rfl) rfl (by simp only [szA,List.mem_cons,List.not_mem_nil,or_false,forall_eq_or_imp,forall_eq,VT.cells,szL];try decide) ?_
 rw [Try.ntmps106]
 simp only [push_cast,↓zK,↓zJ,↓reduceIte,zA,zB,zC,zD,zE,zF,zG,zH,zI,reduceCtorEq]
 refine zL fun K hK=> ?_
 refine zM zQ zN [] rfl ?_
 simp only [push_cast,↓zK,↓zJ,↓reduceIte,zA,zB,zC,zD,zE,zF,zG,zH,zI,reduceCtorEq]
 repeat' apply And.intro
 all_goals try exact gB
 all_goals first|(refine hK _ ?_;clear hK K)|(simp only [push_cast];done)
 refine zL fun K hK=> ?_
 refine ze false zQ zN ?_ rfl ?_
 ·kernel_rfl
 all_goals refine zj 2 fun K9 hK9=> ?_
 all_goals simp only [push_cast,↓zK,↓zJ,↓reduceIte,zA,zB,zC,zD,zE,zF,zG,zH,zI,reduceCtorEq]
 all_goals repeat'(first|(apply zO<;>(intro hg;(try simp only [push_cast]at hg)))|(refine⟨_,VY _,?_⟩;simp only [push_cast,↓zK,↓zJ,↓reduceIte,zA,zB,zC,zD,zE,zF,zG,zH,zI,reduceCtorEq])|apply And.intro|(intro hg;(try simp only [push_cast]at hg)))
 all_goals try exact gA
 all_goals first|(refine hK9 _ ?_;clear hK9 K9)|(simp only [push_cast];done)
 all_goals refine zj 3 fun K9 hK9=> ?_
 all_goals simp only [push_cast,↓zK,↓zJ,↓reduceIte,zA,zB,zC,zD,zE,zF,zG,zH,zI,reduceCtorEq]
 all_goals repeat'(first|(apply zO<;>(intro hg;(try simp only [push_cast]at hg)))|(refine⟨_,VY _,?_⟩;simp only [push_cast,↓zK,↓zJ,↓reduceIte,zA,zB,zC,zD,zE,zF,zG,zH,zI,reduceCtorEq])|apply And.intro|(intro hg;(try simp only [push_cast]at hg)))
 all_goals try exact gA
 all_goals first|(refine hK9 _ ?_;clear hK9 K9)|(simp only [push_cast];done)
 all_goals simp only [push_cast,↓zK,↓zJ,↓reduceIte,zA,zB,zC,zD,zE,zF,zG,zH,zI,reduceCtorEq]
 all_goals repeat'(first|(apply zO<;>(intro hg;(try simp only [push_cast]at hg)))|(refine⟨_,VY _,?_⟩;simp only [push_cast,↓zK,↓zJ,↓reduceIte,zA,zB,zC,zD,zE,zF,zG,zH,zI,reduceCtorEq])|apply And.intro|(intro hg;(try simp only [push_cast]at hg)))
 all_goals try exact gA
 all_goals first|(refine hK _ ?_;clear hK K)|(simp only [push_cast];done)
 all_goals(
   refine zZ ?_
   (try simp only [zR,zT])
   refine⟨Or.inl rfl,?_⟩
   simp only [zf,push_cast,↓zK,↓zJ,↓reduceIte,zA,zB,zC,zD,zE,zF,zG,zH,zI,reduceCtorEq])
set_option maxRecDepth 20000 in
set_option maxHeartbeats 4000000 in
theorem Jp (b:List Int)(hb:b.length≤1048576)(x:Int)(p:Nat)(hp:p≤b.length)(h1: ∀i,i<p→gi b i<x)(h2: ∀i,p≤i→i<b.length→x≤gi b i):Fn Try.prog tyT 96 [.c (DI b), .c (.int .i64 x)] [.c (.int .i64 p), .c (.bool (decide (p<b.length∧gi b p=x)))]:=by
 refine yG (fn:=Try.f96) (ts:= [4,5]) Try.func96 (by kernel_rfl) rfl rfl (by rw [Try.ntmps96];exact Nat.le_of_ble_eq_true rfl) rfl (by simp only [szA,List.mem_cons,List.not_mem_nil,or_false,forall_eq_or_imp,forall_eq,VT.cells,szL];try decide) ?_
 rw [Try.ntmps96]
 simp only [push_cast,↓zK,↓zJ,↓reduceIte,zA,zB,zC,zD,zE,zF,zG,zH,zI,reduceCtorEq]
 refine zL fun K hK=> ?_
 refine zM zQ zN [] rfl ?_
 simp only [push_cast,↓zK,↓zJ,↓reduceIte,zA,zB,zC,zD,zE,zF,zG,zH,zI,reduceCtorEq]
 repeat' apply And.intro
 all_goals try exact gB
 all_goals first|(refine hK _ ?_;clear hK K)|(simp only [push_cast];done)
 refine zL fun K hK=> ?_
 refine zM zQ zN [] rfl ?_
 simp only [push_cast,↓zK,↓zJ,↓reduceIte,zA,zB,zC,zD,zE,zF,zG,zH,zI,reduceCtorEq]
 repeat' apply And.intro
 all_goals try exact gB
 all_goals first|(refine hK _ ?_;clear hK K)|(simp only [push_cast];done)
 refine zL fun K hK=> ?_
 refine zM zQ zN [] rfl ?_
 simp only [push_cast,↓zK,↓zJ,↓reduceIte,zA,zB,zC,zD,zE,zF,zG,zH,zI,reduceCtorEq]
 repeat' apply And.intro
 all_goals try exact gB
 all_goals first|(refine hK _ ?_;clear hK K)|(simp only [push_cast];done)
 refine zL fun K1 hK1=> ?_
 refine zW ?_
 refine zk [7,8,9,13,14,15,16,17,18,19,20,21,22,23,24,25,26,27,28,29,30] [] (fun(q:Nat×Nat)=> [(7, .int .i64 q.1),(8, .int .i64 q.2)]) (fun q=> []) (fun q=> []) (fun q=>q.1≤p∧p≤q.2∧q.2≤b.length) (fun q=>q.2 - q.1) (0,b.length) ?_ ⟨by omega,by omega,by omega⟩ ?_
 ·
  refine zb rfl ?_ ?_ ?_<;>simp only [zi,zh,push_cast,↓zK,↓zJ,↓reduceIte,zA,zB,zC,zD,zE,zF,zG,zH,zI,reduceCtorEq]
 ·rintro⟨i,j⟩ ⟨hi,hj,hl⟩ KL0 hL0
  simp only at hi hj hl
  simp only [push_cast,↓zK,↓zJ,↓reduceIte,zA,zB,zC,zD,zE,zF,zG,zH,zI,reduceCtorEq]
  refine zL fun K2 hK2=> ?_
  refine zL fun K hK=> ?_
  refine zM zQ zN [] rfl ?_
  simp only [push_cast,↓zK,↓zJ,↓reduceIte,zA,zB,zC,zD,zE,zF,zG,zH,zI,reduceCtorEq]
  repeat' apply And.intro
  all_goals try exact gB
  all_goals first|(refine hK _ ?_;clear hK K)|(simp only [push_cast];done)
  refine zV rfl (fun hc=> ?_) (fun hc=> ?_)<;>(try simp only [push_cast]at hc)
  ·
   refine zX ?_
   (try simp only [zR,zT,reduceIte,zF]);refine hK2 _ ?_
   refine zW ?_
   refine zL fun K hK=> ?_
   refine zM zQ zN [] rfl ?_
   simp only [push_cast,↓zK,↓zJ,↓reduceIte,zA,zB,zC,zD,zE,zF,zG,zH,zI,reduceCtorEq]
   repeat' apply And.intro
   all_goals try exact gB
   all_goals first|(refine hK _ ?_;clear hK K)|(simp only [push_cast];done)
   refine zL fun K hK=> ?_
   refine zM zQ zN [] rfl ?_
   all_goals refine yC 6 fun K9 hK9=> ?_
   all_goals simp only [push_cast,↓zK,↓zJ,↓reduceIte,zA,zB,zC,zD,zE,zF,zG,zH,zI,reduceCtorEq]
   all_goals repeat'(first|(apply zO<;>(intro hg;(try simp only [push_cast]at hg)))|(refine⟨_,zBF _ _,?_⟩;simp only [push_cast,↓zK,↓zJ,↓reduceIte,zA,zB,zC,zD,zE,zF,zG,zH,zI,reduceCtorEq])|apply And.intro|(intro hg;(try simp only [push_cast]at hg)))
   all_goals try exact gA
   all_goals first|(refine hK9 _ ?_;clear hK9 K9)|(simp only [push_cast];done)
   all_goals simp only [push_cast,↓zK,↓zJ,↓reduceIte,zA,zB,zC,zD,zE,zF,zG,zH,zI,reduceCtorEq]
   all_goals repeat'(first|(apply zO<;>(intro hg;(try simp only [push_cast]at hg)))|(refine⟨_,zBF _ _,?_⟩;simp only [push_cast,↓zK,↓zJ,↓reduceIte,zA,zB,zC,zD,zE,zF,zG,zH,zI,reduceCtorEq])|apply And.intro|(intro hg;(try simp only [push_cast]at hg)))
   all_goals try exact gA
   all_goals first|(refine hK _ ?_;clear hK K)|(simp only [push_cast];done)
   refine zV rfl (fun hc=> ?_) (fun hc=> ?_)<;>(try simp only [push_cast]at hc)
   ·
    refine zM zQ zN [] rfl ?_
    simp only [push_cast,↓zK,↓zJ,↓reduceIte,zA,zB,zC,zD,zE,zF,zG,zH,zI,reduceCtorEq]
    repeat' apply And.intro
    all_goals try exact gB
    refine hL0 _ ⟨((i+j) / 2+1,j),⟨(by
       have h9:=fun h=>h2 ((i+j) / 2) h (by omega)
       have e9:(((i:Int)+j) / 2).toNat=(i+j) / 2:=by omega
       rw [e9]at hc
       simp only at*
       rcases Nat.lt_or_ge ((i+j) / 2) p with h8|h8
       ·omega
       ·have :=h9 h8;omega),by simp only at*;omega,by simp only at*;omega⟩,by simp only at*;omega,?_⟩
    refine zb rfl ?_ ?_ ?_<;>simp only [zi,zh,push_cast,↓zK,↓zJ,↓reduceIte,zA,zB,zC,zD,zE,zF,zG,zH,zI,reduceCtorEq]
    all_goals(try(refine congrArg (AV.int .i64) ?_;simp only at*;omega))
   ·
    refine zM zQ zN [] rfl ?_
    simp only [push_cast,↓zK,↓zJ,↓reduceIte,zA,zB,zC,zD,zE,zF,zG,zH,zI,reduceCtorEq]
    repeat' apply And.intro
    all_goals try exact gB
    refine hL0 _ ⟨(i,(i+j) / 2),⟨by simp only at*;omega,(by
       have h9:=fun h=>h1 ((i+j) / 2) h
       have e9:(((i:Int)+j) / 2).toNat=(i+j) / 2:=by omega
       rw [e9]at hc
       simp only at*
       rcases Nat.lt_or_ge ((i+j) / 2) p with h8|h8
       ·have :=h9 h8;omega
       ·omega),by simp only at*;omega⟩,by simp only at*;omega,?_⟩
    refine zb rfl ?_ ?_ ?_<;>simp only [zi,zh,push_cast,↓zK,↓zJ,↓reduceIte,zA,zB,zC,zD,zE,zF,zG,zH,zI,reduceCtorEq]
    all_goals(try(refine congrArg (AV.int .i64) ?_;simp only at*;omega))
  ·
   refine zn ?_
   (try simp only [zR,zT,reduceIte,zF]);refine hK1 _ ?_
   refine zL fun K hK=> ?_
   refine ze false zQ zN ?_ rfl ?_
   ·kernel_rfl
   all_goals refine zj 17 fun K9 hK9=> ?_
   all_goals simp only [push_cast,↓zK,↓zJ,↓reduceIte,zA,zB,zC,zD,zE,zF,zG,zH,zI,reduceCtorEq]
   all_goals repeat'(first|(apply zO<;>(intro hg;(try simp only [push_cast]at hg)))|(refine⟨_,Jb _,?_⟩;simp only [push_cast,↓zK,↓zJ,↓reduceIte,zA,zB,zC,zD,zE,zF,zG,zH,zI,reduceCtorEq])|apply And.intro|(intro hg;(try simp only [push_cast]at hg)))
   all_goals try exact gA
   all_goals first|(refine hK9 _ ?_;clear hK9 K9)|(simp only [push_cast];done)
   all_goals refine zj 3 fun K9 hK9=> ?_
   all_goals simp only [push_cast,↓zK,↓zJ,↓reduceIte,zA,zB,zC,zD,zE,zF,zG,zH,zI,reduceCtorEq]
   all_goals repeat'(first|(apply zO<;>(intro hg;(try simp only [push_cast]at hg)))|(refine⟨_,Jb _,?_⟩;simp only [push_cast,↓zK,↓zJ,↓reduceIte,zA,zB,zC,zD,zE,zF,zG,zH,zI,reduceCtorEq])|apply And.intro|(intro hg;(try simp only [push_cast]at hg)))
   all_goals try exact gA
   all_goals first|(refine hK9 _ ?_;clear hK9 K9)|(simp only [push_cast];done)
   all_goals simp only [push_cast,↓zK,↓zJ,↓reduceIte,zA,zB,zC,zD,zE,zF,zG,zH,zI,reduceCtorEq]
   all_goals repeat'(first|(apply zO<;>(intro hg;(try simp only [push_cast]at hg)))|(refine⟨_,Jb _,?_⟩;simp only [push_cast,↓zK,↓zJ,↓reduceIte,zA,zB,zC,zD,zE,zF,zG,zH,zI,reduceCtorEq])|apply And.intro|(intro hg;(try simp only [push_cast]at hg)))
   all_goals try exact gA
   all_goals first|(refine hK _ ?_;clear hK K)|(simp only [push_cast];done)
   all_goals(
     refine zZ ?_
     (try simp only [zR,zT])
     refine⟨Or.inl rfl,?_⟩
     simp only [zf,push_cast,↓zK,↓zJ,↓reduceIte,zA,zB,zC,zD,zE,zF,zG,zH,zI,reduceCtorEq]
     all_goals(obtain rfl:i=p:=by omega)
     all_goals refine⟨rfl,?_⟩
     all_goals first|exact(decide_eq_true ⟨by omega,by with_reducible assumption⟩).symm|exact(decide_eq_false (by omega)).symm)
theorem zHd {b:List Int}{n:Int}(hs:yN b n=true){x:Int}{p:Nat}(h1: ∀i,i<p→gi b i<x)(h2: ∀i,p≤i→i<b.length→x≤gi b i):decide (p<b.length∧gi b p=x)=zt b x:=by
 have :=zGt h1 h2 (zAJ hs)
 cases h:zt b x with
 |true=>exact decide_eq_true (this.1 h)
 |false=>exact decide_eq_false fun h3=>by rw [this.2 h3]at h;cases h
set_option maxRecDepth 20000 in
set_option maxHeartbeats 4000000 in
theorem zDw (a b:List Int)(ha:a.length≤1048576)(hb:b.length≤1048576)(n:Int)(hs:yN b n=true):Fn Try.prog tyT 83 [.c (DI a), .c (DI b)] [.c (DI (a.filter fun x=> !zt b x))]:=by
 refine yG (fn:=Try.f83) (ts:= [4]) Try.func83 (by kernel_rfl) rfl rfl (by rw [Try.ntmps83];exact Nat.le_of_ble_eq_true rfl) rfl (by simp only [szA,List.mem_cons,List.not_mem_nil,or_false,forall_eq_or_imp,forall_eq,VT.cells,szL];try decide) ?_
 rw [Try.ntmps83]
 simp only [push_cast,↓zK,↓zJ,↓reduceIte,zA,zB,zC,zD,zE,zF,zG,zH,zI,reduceCtorEq]
 refine zL fun K hK=> ?_
 refine zM zQ zN [] rfl ?_
 simp only [push_cast,↓zK,↓zJ,↓reduceIte,zA,zB,zC,zD,zE,zF,zG,zH,zI,reduceCtorEq]
 repeat' apply And.intro
 all_goals try exact gB
 all_goals first|(refine hK _ ?_;clear hK K)|(simp only [push_cast];done)
 refine zL fun K hK=> ?_
 refine zM zQ zN [] rfl ?_
 simp only [push_cast,↓zK,↓zJ,↓reduceIte,zA,zB,zC,zD,zE,zF,zG,zH,zI,reduceCtorEq]
 repeat' apply And.intro
 all_goals try exact gB
 all_goals first|(refine hK _ ?_;clear hK K)|(simp only [push_cast];done)
 refine zL fun K1 hK1=> ?_
 refine zL fun K hK=> ?_
 refine zM zQ zN [] rfl ?_
 simp only [push_cast,↓zK,↓zJ,↓reduceIte,zA,zB,zC,zD,zE,zF,zG,zH,zI,reduceCtorEq]
 repeat' apply And.intro
 all_goals try exact gB
 all_goals first|(refine hK _ ?_;clear hK K)|(simp only [push_cast];done)
 refine zW ?_
 refine zk [5,7,8,9,13,14,15,16,17,18,19,20,21,22,23,24,25,26,27,28,29] [80] (fun(q:Nat×List Int)=> [(13, .int .i64 q.1),(5, .sl 80 [] 0 q.2.length 2)]) (fun q=> []) (fun q=> [(80,⟨.ex,2,dI q.2,none⟩)]) (fun q=>q.1≤a.length∧q.2=(a.take q.1).filter fun x=> !zt b x) (fun q=>a.length - q.1) (0,[]) ?_ ⟨by omega,rfl⟩ ?_
 ·
  simp only [show dI ([]:List Int)= []from rfl]
  refine zb rfl ?_ ?_ ?_<;>simp only [zi,zh,push_cast,↓zK,↓zJ,↓reduceIte,zA,zB,zC,zD,zE,zF,zG,zH,zI,reduceCtorEq]
 ·rintro⟨k,o⟩ ⟨hk,ho⟩ KL0 hL0
  simp only at hk ho
  have hol:o.length≤a.length:=by rw [ho];exact zFl _ _ _
  obtain⟨p,q1,q2,q3⟩:=zIE hs (gi a k)
  have hB:=Jp b hb (gi a k) p q1 q2 q3
  rw [zHd hs q2 q3]at hB
  simp only [push_cast,↓zK,↓zJ,↓reduceIte,zA,zB,zC,zD,zE,zF,zG,zH,zI,reduceCtorEq]
  refine zL fun K hK=> ?_
  refine zM zQ zN [] rfl ?_
  simp only [push_cast,↓zK,↓zJ,↓reduceIte,zA,zB,zC,zD,zE,zF,zG,zH,zI,reduceCtorEq]
  repeat' apply And.intro
  all_goals try exact gB
  all_goals first|(refine hK _ ?_;clear hK K)|(simp only [push_cast];done)
  refine zL fun K2 hK2=> ?_
  refine zV rfl (fun hc=> ?_) (fun hc=> ?_)<;>(try simp only [push_cast]at hc)
  ·
   refine zX ?_
   (try simp only [zR,zT,reduceIte,zF]);refine hK2 _ ?_
   refine zL fun K3 hK3=> ?_
   refine zW ?_
   refine zL fun K hK=> ?_
   refine zM zQ zN [] rfl ?_
   simp only [push_cast,↓zK,↓zJ,↓reduceIte,zA,zB,zC,zD,zE,zF,zG,zH,zI,reduceCtorEq]
   repeat' apply And.intro
   all_goals try exact gB
   all_goals first|(refine hK _ ?_;clear hK K)|(simp only [push_cast];done)
   refine zL fun K hK=> ?_
   refine zM zQ zN [] rfl ?_
   all_goals refine yC 3 fun K9 hK9=> ?_
   all_goals simp only [push_cast,↓zK,↓zJ,↓reduceIte,zA,zB,zC,zD,zE,zF,zG,zH,zI,reduceCtorEq]
   all_goals repeat'(first|(apply zO<;>(intro hg;(try simp only [push_cast]at hg)))|(refine⟨_,hB,?_⟩;simp only [push_cast,↓zK,↓zJ,↓reduceIte,zA,zB,zC,zD,zE,zF,zG,zH,zI,reduceCtorEq])|apply And.intro|(intro hg;(try simp only [push_cast]at hg)))
   all_goals try exact gA
   all_goals first|(refine hK9 _ ?_;clear hK9 K9)|(simp only [push_cast];done)
   all_goals simp only [push_cast,↓zK,↓zJ,↓reduceIte,zA,zB,zC,zD,zE,zF,zG,zH,zI,reduceCtorEq]
   all_goals repeat'(first|(apply zO<;>(intro hg;(try simp only [push_cast]at hg)))|(refine⟨_,hB,?_⟩;simp only [push_cast,↓zK,↓zJ,↓reduceIte,zA,zB,zC,zD,zE,zF,zG,zH,zI,reduceCtorEq])|apply And.intro|(intro hg;(try simp only [push_cast]at hg)))
   all_goals try exact gA
   all_goals first|(refine hK _ ?_;clear hK K)|(simp only [push_cast];done)
   refine zL fun K hK=> ?_
   refine zM zQ zN [] rfl ?_
   simp only [push_cast,↓zK,↓zJ,↓reduceIte,zA,zB,zC,zD,zE,zF,zG,zH,zI,reduceCtorEq]
   repeat' apply And.intro
   all_goals try exact gB
   all_goals first|(refine hK _ ?_;clear hK K)|(simp only [push_cast];done)
   refine zV rfl (fun hc=> ?_) (fun hc=> ?_)<;>(try simp only [push_cast]at hc)
   ·
    refine zM zQ zN [] rfl ?_
    simp only [push_cast,↓zK,↓zJ,↓reduceIte,zA,zB,zC,zD,zE,zF,zG,zH,zI,reduceCtorEq]
    repeat' apply And.intro
    all_goals try exact gB
    (try simp only [zR,zT,reduceIte,zF]);refine hK3 _ ?_
    refine zM zQ zN [] rfl ?_
    simp only [push_cast,↓zK,↓zJ,↓reduceIte,zA,zB,zC,zD,zE,zF,zG,zH,zI,reduceCtorEq]
    repeat' apply And.intro
    all_goals try exact gB
    refine hL0 _ ⟨(k+1,o++ [gi a k]),⟨by simp only;omega,by simp only;rw [zE4 (by omega) (by rw [hc];rfl),←ho]⟩,by simp only;omega,?_⟩
    refine zb rfl ?_ ?_ ?_<;>simp only [zi,zh,push_cast,↓zK,↓zJ,↓reduceIte,zA,zB,zC,zD,zE,zF,zG,zH,zI,reduceCtorEq]
    all_goals(try(rw [List.length_append];rfl))
   ·
    refine zX ?_
    (try simp only [zR,zT,reduceIte,zF]);refine hK3 _ ?_
    refine zM zQ zN [] rfl ?_
    simp only [push_cast,↓zK,↓zJ,↓reduceIte,zA,zB,zC,zD,zE,zF,zG,zH,zI,reduceCtorEq]
    repeat' apply And.intro
    all_goals try exact gB
    refine hL0 _ ⟨(k+1,o),⟨by simp only;omega,by simp only;rw [zGZ (by omega) (by rw [hc];rfl),←ho]⟩,by simp only;omega,?_⟩
    refine zb rfl ?_ ?_ ?_<;>simp only [zi,zh,push_cast,↓zK,↓zJ,↓reduceIte,zA,zB,zC,zD,zE,zF,zG,zH,zI,reduceCtorEq]
    all_goals(try(rw [List.length_append];rfl))
  ·
   refine zn ?_
   have hkk:k=a.length:=by omega
   subst hkk
   rw [List.take_length]at ho
   (try simp only [zR,zT,reduceIte,zF]);refine hK1 _ ?_
   refine zL fun K hK=> ?_
   refine zM zQ zN [] rfl ?_
   simp only [push_cast,↓zK,↓zJ,↓reduceIte,zA,zB,zC,zD,zE,zF,zG,zH,zI,reduceCtorEq]
   repeat' apply And.intro
   all_goals try exact gB
   all_goals first|(refine hK _ ?_;clear hK K)|(simp only [push_cast];done)
   refine zZ ?_
   (try simp only [zR,zT])
   refine⟨Or.inl rfl,?_⟩
   simp only [zf,push_cast,↓zK,↓zJ,↓reduceIte,zA,zB,zC,zD,zE,zF,zG,zH,zI,reduceCtorEq]
   subst ho
   first|rfl|(simp;done)
def uH (a b:List Int):List Int:=a.filter fun x=> !zt b x
def famAt (f:Fm)(n:Int)(i:Nat):Bool:=yN (gl f.sets i) n&&(decide ((uH (gl f.sets i) f.names).length=0)&& !XY (f.sets.take i) (gl f.sets i))
def famI (f:Fm)(n:Int):Bool:=yN f.names n&&(decide (f.names.length≤4∧f.sets.length≤16)&&wU f.sets.length (famAt f n))
theorem zEQ {b:List Int}{n:Int}(hs:yN b n=true):b.Pairwise (· < ·):=by
 rw [List.pairwise_iff_getElem]
 intro i j hi hj hij
 have :=zAJ hs i j hij hj
 have e: ∀k (hk:k<b.length),b[k]=gi b k:=fun k hk=>by have :=wt hk;rw [List.getElem?_eq_getElem hk]at this;exact Option.some.inj this
 rw [e i hi,e j hj]
 exact this
def wv (a b:List Int):List Int:=a.filter fun x=>zt b x
theorem zCT {f:Fm}{n:Int}(h:famI f n=true):yN f.names n=true∧f.names.length≤4∧f.sets.length≤16:=by
 unfold famI at h
 rw [Bool.and_eq_true,Bool.and_eq_true,decide_eq_true_eq]at h
 exact⟨h.1,h.2.1⟩
open Go.Shelf
def ui :Go.Shelf.Ren:=⟨fun|53=>79|64=>95|63=>94|78=>109|79=>110|70=>100|71=>101|72=>102|73=>103|74=>104|75=>105|59=>106|76=>107|77=>108|88=>112|89=>113|90=>114|91=>115|92=>116|68=>117|96=>118|n=>n,fun|22=>27|23=>2|3=>3|51=>65|0=>0|67=>116|69=>26|4=>4|61=>109|60=>108|44=>102|5=>5|9=>9|75=>119|79=>123|83=>125|84=>126|n=>n,fun|n=>n⟩
theorem uh :Go.Proofs.SlLaysN.n53 Try.prog ui:={
 mixed:=by kernel_rfl
 f53:=⟨Try.f79.name,by decide,Try.func79.trans (congrArg some (by kernel_rfl))⟩
 f59:=⟨Try.f106.name,by decide,Try.func106.trans (congrArg some (by kernel_rfl))⟩
 f63:=⟨Try.f94.name,by decide,Try.func94.trans (congrArg some (by kernel_rfl))⟩
 f64:=Try.func95.trans (congrArg some (by kernel_rfl))
 f68:=⟨Try.f117.name,by decide,Try.func117.trans (congrArg some (by kernel_rfl))⟩
 f70:=⟨Try.f100.name,by decide,Try.func100.trans (congrArg some (by kernel_rfl))⟩
 f71:=⟨Try.f101.name,by decide,Try.func101.trans (congrArg some (by kernel_rfl))⟩
 f72:=⟨Try.f102.name,by decide,Try.func102.trans (congrArg some (by kernel_rfl))⟩
 f73:=⟨Try.f103.name,by decide,Try.func103.trans (congrArg some (by kernel_rfl))⟩
 f74:=⟨Try.f104.name,by decide,Try.func104.trans (congrArg some (by kernel_rfl))⟩
 f75:=⟨Try.f105.name,by decide,Try.func105.trans (congrArg some (by kernel_rfl))⟩
 f76:=⟨Try.f107.name,by decide,Try.func107.trans (congrArg some (by kernel_rfl))⟩
 f77:=⟨Try.f108.name,by decide,Try.func108.trans (congrArg some (by kernel_rfl))⟩
 f78:=Try.func109.trans (congrArg some (by kernel_rfl))
 f79:=Try.func110.trans (congrArg some (by kernel_rfl))
 f88:=⟨Try.f112.name,by decide,Try.func112.trans (congrArg some (by kernel_rfl))⟩
 f89:=Try.func113.trans (congrArg some (by kernel_rfl))
 f90:=Try.func114.trans (congrArg some (by kernel_rfl))
 f91:=⟨Try.f115.name,by decide,Try.func115.trans (congrArg some (by kernel_rfl))⟩
 f92:=⟨Try.f116.name,by decide,Try.func116.trans (congrArg some (by kernel_rfl))⟩
 f96:=⟨Try.f118.name,by decide,Try.func118.trans (congrArg some (by kernel_rfl))⟩
 t0:=Try.underlying0
 a0:=Try.isAgg0
 z0:=Try.sizeOf0
 v0:=Try.zeroValue0
 t3:=Try.underlying3
 a3:=Try.isAgg3
 z3:=Try.sizeOf3
 v3:=Try.zeroValue3
 t4:=Try.underlying4
 a4:=Try.isAgg4
 z4:=Try.sizeOf4
 v4:=Try.zeroValue4
 t5:=Try.underlying5
 a5:=Try.isAgg5
 z5:=Try.sizeOf5
 v5:=Try.zeroValue5
 t9:=Try.underlying9
 a9:=Try.isAgg9
 z9:=Try.sizeOf9
 v9:=Try.zeroValue9
 t22:=Try.underlying27
 a22:=Try.isAgg27
 z22:=Try.sizeOf27
 v22:=Try.zeroValue27
 t23:=Try.underlying2
 a23:=Try.isAgg2
 z23:=Try.sizeOf2
 v23:=Try.zeroValue2
 t44:=Try.underlying102
 a44:=Try.isAgg102
 z44:=Try.sizeOf102
 v44:=Try.zeroValue102
 t51:=Try.underlying65
 a51:=Try.isAgg65
 z51:=Try.sizeOf65
 v51:=Try.zeroValue65
 t60:=Try.underlying108
 a60:=Try.isAgg108
 z60:=Try.sizeOf108
 v60:=Try.zeroValue108
 t61:=Try.underlying109
 a61:=Try.isAgg109
 z61:=Try.sizeOf109
 v61:=Try.zeroValue109
 t67:=Try.underlying116
 a67:=Try.isAgg116
 z67:=Try.sizeOf116
 v67:=Try.zeroValue116
 t69:=Try.underlying26
 a69:=Try.isAgg26
 z69:=Try.sizeOf26
 v69:=Try.zeroValue26
 t75:=Try.underlying119
 a75:=Try.isAgg119
 z75:=Try.sizeOf119
 v75:=Try.zeroValue119
 t79:=Try.underlying123
 a79:=Try.isAgg123
 z79:=Try.sizeOf123
 v79:=Try.zeroValue123
 t83:=Try.underlying125
 a83:=Try.isAgg125
 z83:=Try.sizeOf125
 v83:=Try.zeroValue125
 t84:=Try.underlying126
 a84:=Try.isAgg126
 z84:=Try.sizeOf126
 v84:=Try.zeroValue126}
open Go Go.RowKit Go.Sort
def yH (xs:List Int):List Int:=xs.mergeSort fun x y=>decide (x≤y)
theorem xH (xs:List Int):(yH xs).length=xs.length:=List.length_mergeSort ..
theorem qp (xs:List Int):(yH xs).Perm xs:=List.mergeSort_perm ..
theorem Yh (xs:List Int):(yH xs).Pairwise (· ≤ ·):=by
 have :=List.pairwise_mergeSort (le:=fun x y:Int=>decide (x≤y)) (fun a b c h1 h2=>by simp at h1 h2⊢;omega) (fun a b=>by simp;omega) xs
 refine this.imp fun h=>by simpa using h
theorem ki :yH []= []:=by simp [yH]
theorem kv :qu Try.prog 79:=⟨_,Try.func79,by decide+kernel,rfl⟩
theorem zBV {S:TypeId→Nat}{lo:Nat}{w:World}{ow:Nat→Option Pl}: ∀{xs:List Int} {m:Md} {k:Nat} {vs:List Value},RpL S lo w ow m k (dI xs) vs→vs=xs.map (Value.int .i64)
 | [],m,k,vs,h=>by simpa only [dI,List.map_nil,RpL]using h
 |x::xs,m,k,vs,h=>by
  simp only [dI,List.map_cons,RpL,Rp]at h
  obtain⟨v,vs',rfl,rfl,h2⟩:=h
  rw [zBV (xs:=xs) h2]
  rfl
set_option maxHeartbeats 1000000 in
theorem zBK (xs:List Int)(hl:xs.length≤1048576):FnG Try.prog tyT 79 [.c (DI xs)] [0] [(0,2,dI (yH xs))] []:=by
 refine⟨kv,fun lo w ow cargs hlo how hargs=> ?_⟩
 obtain⟨h1,h2⟩:=hargs
 obtain⟨v,rfl⟩: ∃v,cargs= [v]:=by
  cases cargs with
  |nil=>simp at h1
  |cons v vs=>cases vs with
   |nil=>exact⟨v,rfl⟩
   |cons _ _=>simp at h1
 obtain⟨cs,k1,k2,k3⟩:=h2 0 _ v rfl rfl
 have hv:Rp (sz tyT) lo w ow (.ex 0 []) (DI xs) v:=by
  rcases k3 with⟨d,c,e1,rfl,rfl⟩|⟨ds,e1,-⟩|⟨f,ds,e1,-⟩
  ·exact k2 0 _ _ rfl rfl
  ·cases e1
  ·cases e1
 simp only [DI,Rp]at hv
 obtain⟨vs,⟨q1,n,q2,q3,q4⟩,q5⟩:=hv
 have hs1:sz tyT 2=1:=rfl
 have hvs:=zBV q5
 rw [KZ,hs1,Nat.mul_one]at q2
 subst q2
 rw [hs1]at q3
 have hh:yE [v] 0=v∨True:= .inr trivial
 rcases q3.2 with⟨rfl,h0⟩|⟨g,cap,cur,rfl,hg,hb,hc1,hc2,hc3,htake⟩
 ·have hx:xs= []:=List.eq_nil_of_length_eq_zero h0
  subst hx
  refine(AnyG.slices_Sort_int_none uh none 0 w).mono fun e w' ⟨he,hw⟩=> ?_
  subst hw;subst he
  refine⟨[],fun b=>none,rfl,yy.start _,fun b _ _=>rfl,fun b p h=>(by cases h),by simp [vc],fun x hx=> ?_⟩
  simp only [List.mem_singleton]at hx
  subst hx
  simp only [ki,show dI ([]:List Int)= []from rfl]
  exact vd _ _ _
 ·rw [hvs]at htake q3
  have hlt:g<w.heap.size:=(Array.getElem?_eq_some_iff.1 hb).1
  rw [Nat.mul_one]at htake
  have hH:=holds_of_blockI hb htake
  have hsl:=xH xs
  refine(AnyG.slices_Sort_int uh g 0 cap xs w hH hlt (by omega)).mono fun e w' ⟨he,n,os,hw⟩=> ?_
  subst he
  have hgr:w.grownBy w' (some g):=by rw [hw];exact grownBy_sortedI _
  have hown:=ownsRow_sortedI (base:=lo) (n:=n) (os:=os) (ts:=yH xs) hsl hg hb hc1 hc2 hc3
  rw [show(grow (putRow (Value.int .i64) (Sort.ahead w n) g 0 (yH xs).toArray) os)=w' from hw.symm]at hown
  have hog:=q4 g rfl
  refine⟨[],fun b=>match ow b with|some (.root d q)=>if d=0 then some (.root (wA 0) q)else none|_=>none,rfl,⟨hgr.os,hgr.tape,hgr.output,hgr.size,fun b hb' hk=>hgr.block b hb' (fun e=> ?_)⟩,fun b _ h=>by simp only [h],fun b p h=> ?_,by simp [vc],fun x hx=> ?_⟩
  ·simp only [Option.some.injEq]at e
   subst e
   simp only at hk
   rw [hog]at hk;cases hk
  ·simp only at h
   split at h
   ·rename_i d q ho
    split at h
    ·cases h
     have :=how b _ ho
     exact⟨Nat.lt_of_lt_of_le this.1 hgr.size,this.2.1,_,_,rfl⟩
    ·cases h
   ·cases h
  ·simp only [List.mem_singleton]at hx
   subst hx
   simp only
   refine(zx _ _).2 ⟨(yH xs).map (Value.int .i64),⟨by simp [KZ],xs.length,by rw [KZ,hs1,hsl,Nat.mul_one],?_⟩,fun i x u hx hu=> ?_⟩
   ·simp only
    rw [hs1]
    exact⟨hown,fun b hb'=>by
     have :b=g:=by simp [yE,Value.ownBlock]at hb';exact hb'.symm
     subst this
     simp only [hog,if_true]⟩
   ·simp only [dI,List.getElem?_map]at hx hu
    cases hk:(yH xs)[i]? with
    |none=>rw [hk]at hx;cases hx
    |some y=>rw [hk]at hx hu;cases hx;cases hu;simp only [Rp]
theorem Xx : ∀{xs ys:List Int},xs.Perm ys→xs.Pairwise (· ≤ ·)→ys.Pairwise (· ≤ ·)→xs=ys
 | [],ys,h,_,_=>(List.Perm.nil_eq h)
 |x::xs,[],h,_,_=>by have :=h.length_eq;simp at this
 |x::xs,y::ys,h,h1,h2=>by
  rw [List.pairwise_cons]at h1 h2
  have hx:x∈y::ys:=h.subset (by simp)
  have hy:y∈x::xs:=h.symm.subset (by simp)
  have e:x=y:=by
   rw [List.mem_cons]at hx hy
   rcases hx with hx|hx
   ·exact hx
   ·rcases hy with hy|hy
    ·exact hy.symm
    ·have :=h1.1 y hy;have :=h2.1 x hx;omega
  subst e
  rw [Xx ((List.perm_cons x).1 h) h1.2 h2.2]
theorem zFV {xs:List Int}(h:xs.Pairwise (· < ·)):xs.Nodup:=h.imp fun h=>by omega
def visB (f:Fm)(r:List Int):Bool:=famI f 256&&decide (yH r=f.names)
theorem WF {f:Fm}{r:List Int}(h:visB f r=true):famI f 256=true∧yH r=f.names∧r.length≤4∧r.Nodup∧∀x,x∈r↔x∈f.names:=by
 unfold visB at h
 rw [Bool.and_eq_true,decide_eq_true_eq]at h
 obtain⟨h1,h2⟩:=h
 have hn:=zCT h1
 refine⟨h1,h2,by have :=xH r;rw [h2]at this;omega,?_,fun x=> ?_⟩
 ·rw [←(qp r).nodup_iff,h2];exact zFV (zEQ hn.1)
 ·rw [←(qp r).mem_iff,h2]
def Wa (r:List Int)(v:Int):List Int:=if zt r v then v::r.filter (fun x=> !decide (x=v))else r
theorem zFI {r:List Int}{v:Int}(h:zt r v=false):Wa r v=r:=by unfold Wa;rw [h];rfl
theorem zD1 {r:List Int}{v:Int}(h:zt r v=true):Wa r v=v::r.filter (fun x=> !decide (x=v)):=by unfold Wa;rw [h];rfl
def YG (f:Fm)(r:List Int)(v:Int):Int:=if zt r v then 2*yd r v+(if XY f.sets (wv f.names (r.take (yd r v+1)))then 2 else 1)else(if XY f.sets []then 0 else 1)
theorem zDo {r:List Int}{v:Int}:zt r v=decide (yd r v<r.length):=rfl
theorem zFS {f:Fm}{r:List Int}{v:Int}{k:Nat}(hk:k<r.length)(h: ∀j,j<k→¬gi r j=v)(he:gi r k=v):YG f r v=2*k+(if XY f.sets (wv f.names (r.take (k+1)))then 2 else 1):=by
 have hf:yd r v=k:=Xo hk h he
 unfold YG
 rw [zDo,hf,decide_eq_true hk]
 rfl
def yj (u:Int)(r:List Int)(p:Plc):Bool:=decide (p.at_=u)&&decide (p.record=r)
theorem ke {u:Int}{r:List Int}{p:Plc}(h: ¬p.at_=u):yj u r p=false:=by unfold yj;rw [decide_eq_false h];rfl
theorem kf {u:Int}{r:List Int}{p:Plc}(h: ¬p.record=r):yj u r p=false:=by unfold yj;rw [decide_eq_false h,Bool.and_false]
theorem kg {u:Int}{r:List Int}{p:Plc}(h:p.at_=u)(h2:p.record=r):yj u r p=true:=by unfold yj;rw [decide_eq_true h,decide_eq_true h2];rfl
def ixQ (p:Plc→Bool)(ps:List Plc):Int:=if ps.findIdx p<ps.length then ps.findIdx p else -1
theorem KS {ps:List Plc}{k:Nat}(h:k<ps.length):ps[k]=gq ps k:=by
 have :=zFy h
 rw [List.getElem?_eq_getElem h]at this
 exact Option.some.inj this
theorem kQ {p:Plc→Bool}{ps:List Plc}{k:Nat}(hk:k<ps.length)(h: ∀j,j<k→p (gq ps j)=false)(hp:p (gq ps k)=true):ixQ p ps=k:=by
 have e:ps.findIdx p=k:=by
  rw [List.findIdx_eq hk]
  refine⟨by rw [KS hk];exact hp,fun j hj=> ?_⟩
  rw [KS (by omega)]
  exact h j hj
 unfold ixQ
 rw [e,if_pos hk]
theorem Jc {p:Plc→Bool}{ps:List Plc}(h: ∀j,j<ps.length→p (gq ps j)=false):ixQ p ps= -1:=by
 have e: ¬ps.findIdx p<ps.length:=fun h9=>by
  have h1:=List.findIdx_getElem (w:=h9)
  rw [KS h9,h _ h9]at h1
  cases h1
 unfold ixQ
 rw [if_neg e]
theorem zE6 {ys:List Int}{x:Int}{k:Nat}(hk:k≤ys.length)(hs:ys.Pairwise (· ≤ ·))(h1: ∀j,k≤j→j<ys.length→gi ys j>x)(h2:k=0∨gi ys (k - 1)≤x):(ys.take k++ [x]++ys.drop k).Pairwise (· ≤ ·):=by
 have hg: ∀{j} (hj:j<ys.length),ys[j]=gi ys j:=fun{j} hj=>by
  have h3:=wt (xs:=ys) (k:=j) hj
  rw [List.getElem?_eq_getElem hj]at h3
  exact Option.some.inj h3
 have hle: ∀y∈ys.take k,y≤x:=fun y hy=>by
  obtain⟨j,hj,rfl⟩:=List.mem_iff_getElem.1 hy
  rw [List.length_take]at hj
  rw [List.getElem_take]
  rcases h2 with h2|h2
  ·omega
  ·rw [←hg (j:=k - 1) (by omega)]at h2
   rcases Nat.lt_or_ge j (k - 1)with h|h
   ·have :=List.pairwise_iff_getElem.1 hs j (k - 1) (by omega) (by omega) h
    omega
   ·have :j=k - 1:=by omega
    subst this;exact h2
 have hgt: ∀y∈ys.drop k,x≤y:=fun y hy=>by
  obtain⟨j,hj,rfl⟩:=List.mem_iff_getElem.1 hy
  rw [List.length_drop]at hj
  rw [List.getElem_drop,hg (by omega)]
  have :=h1 (k+j) (by omega) (by omega)
  omega
 rw [List.append_assoc,List.pairwise_append]
 refine⟨hs.sublist (List.take_sublist _ _),?_,fun y hy z hz=> ?_⟩
 ·rw [List.singleton_append,List.pairwise_cons]
  exact⟨hgt,hs.sublist (List.drop_sublist _ _)⟩
 ·rw [List.singleton_append,List.mem_cons]at hz
  rcases hz with rfl|hz
  ·exact hle y hy
  ·have :=hle y hy;have :=hgt z hz;omega
theorem zH7 {xs:List Int}{i k:Nat}(hi:i<xs.length)(hk:k≤i)(h1: ∀j,k≤j→j<i→gi (yH (xs.take i)) j>gi xs i)(h2:k=0∨gi (yH (xs.take i)) (k - 1)≤gi xs i):(yH (xs.take i)).take k++ [gi xs i]++(yH (xs.take i)).drop k=yH (xs.take (i+1)):=by
 have hl:(yH (xs.take i)).length=i:=by rw [xH,List.length_take];omega
 refine Xx ?_ (zE6 (by omega) (Yh _) (fun j h3 h4=>h1 j h3 (by omega)) h2) (Yh _)
 refine List.Perm.trans ?_ (qp _).symm
 rw [Qy hi]
 refine List.Perm.trans (l₂:= [gi xs i]++((yH (xs.take i)).take k++(yH (xs.take i)).drop k)) ?_ ?_
 ·rw [←List.append_assoc]
  exact List.Perm.append_right _ List.perm_append_comm
 ·rw [List.take_append_drop]
  exact List.perm_append_comm.trans (List.Perm.append_right _ (qp _))
theorem zGl {xs:List Int}{i k:Nat}(hi:i<xs.length)(hk:k≤i)(h1: ∀j,k≤j→j<i→gi (yH (xs.take i)) j>gi xs i)(h2:k=0∨gi (yH (xs.take i)) (k - 1)≤gi xs i):List.take (k+1) (List.take k (List.take k (yH (xs.take i)))++ [gi xs i])++List.take (i - k) (List.drop k (yH (xs.take i)))=yH (xs.take (i+1)):=by
 have hl:(yH (xs.take i)).length=i:=by rw [xH,List.length_take];omega
 rw [List.take_take,Nat.min_self,List.take_of_length_le (l:=(yH (xs.take i)).take k++ [gi xs i]) (by rw [List.length_append,List.length_take,List.length_singleton];omega),List.take_of_length_le (l:=(yH (xs.take i)).drop k) (by rw [List.length_drop];omega)]
 exact zH7 hi hk h1 h2
set_option maxRecDepth 20000 in
set_option maxHeartbeats 4000000 in
theorem KX (ps:List Plc)(ha:QLn 1048576 ps)(u:Int)(r:List Int)(hr:r.length≤1048576):Fn Try.prog tyT 36 [.c (.lst 72 (yn ps)), .c (.int .i64 u), .c (DI r)] [.c (.int .i64 (ixQ (yj u r) ps))]:=by
 have hl:=ha.1
 have hgl:=fun k=>WU ha k
 refine yG (fn:=Try.f36) (ts:= [6]) Try.func36 (by kernel_rfl) rfl rfl (by rw [Try.ntmps36];exact Nat.le_of_ble_eq_true rfl) rfl (by simp only [szA,List.mem_cons,List.not_mem_nil,or_false,forall_eq_or_imp,forall_eq,VT.cells,szL];try decide) ?_
 rw [Try.ntmps36]
 simp only [push_cast,↓zK,↓zJ,↓reduceIte,zA,zB,zC,zD,zE,zF,zG,zH,zI,reduceCtorEq]
 refine zL fun K hK=> ?_
 refine zM zQ zN [] rfl ?_
 all_goals simp only [push_cast,↓zK,↓zJ,↓reduceIte,zA,zB,zC,zD,zE,zF,zG,zH,zI,reduceCtorEq]
 all_goals repeat'(first|(apply zO<;>(intro hg;(try simp only [push_cast]at hg)))|apply And.intro|(intro hg;(try simp only [push_cast]at hg)))
 all_goals first|exact gA|(exact zU (by omega))|skip
 all_goals first|(refine hK _ ?_;clear hK K)|(simp only [push_cast];done)
 refine zL fun K1 hK1=> ?_
 refine zL fun K hK=> ?_
 refine zM zQ zN [] rfl ?_
 all_goals simp only [push_cast,↓zK,↓zJ,↓reduceIte,zA,zB,zC,zD,zE,zF,zG,zH,zI,reduceCtorEq]
 all_goals repeat'(first|(apply zO<;>(intro hg;(try simp only [push_cast]at hg)))|apply And.intro|(intro hg;(try simp only [push_cast]at hg)))
 all_goals first|exact gA|(exact zU (by omega))|skip
 all_goals first|(refine hK _ ?_;clear hK K)|(simp only [push_cast];done)
 refine zW ?_
 refine zk [6,7,8,9,10,11,12,13,14,15,16,17,18,19,20,21,22,23,24,25,26,27,28,29,30] [] (fun(k:Nat)=> [(7, .int .i64 k)]) (fun k=> []) (fun k=> []) (fun k=>k≤ps.length∧∀j,j<k→yj u r (gq ps j)=false) (fun k=>ps.length - k) 0 ?_ ⟨by omega,fun j hj=>by omega⟩ ?_
 ·
  refine zb rfl ?_ ?_ ?_<;>simp only [zi,zh,push_cast,↓zK,↓zJ,↓reduceIte,zA,zB,zC,zD,zE,zF,zG,zH,zI,reduceCtorEq]
 ·rintro k ⟨hk,hall⟩ KL0 hL0
  simp only [push_cast,↓zK,↓zJ,↓reduceIte,zA,zB,zC,zD,zE,zF,zG,zH,zI,reduceCtorEq]
  refine zL fun K2 hK2=> ?_
  refine zL fun K hK=> ?_
  refine zM zQ zN [] rfl ?_
  all_goals simp only [push_cast,↓zK,↓zJ,↓reduceIte,zA,zB,zC,zD,zE,zF,zG,zH,zI,reduceCtorEq]
  all_goals repeat'(first|(apply zO<;>(intro hg;(try simp only [push_cast]at hg)))|apply And.intro|(intro hg;(try simp only [push_cast]at hg)))
  all_goals first|exact gA|(exact zU (by omega))|skip
  all_goals first|(refine hK _ ?_;clear hK K)|(simp only [push_cast];done)
  refine zV rfl (fun hc=> ?_) (fun hc=> ?_)<;>(try simp only [push_cast]at hc)
  ·
   refine zX ?_
   (try simp only [zR,zT,reduceIte,zF]);refine hK2 _ ?_
   refine zL fun K3 hK3=> ?_
   refine zW ?_
   refine zL fun K hK=> ?_
   refine ze false zQ zN ?_ rfl ?_
   ·kernel_rfl
   all_goals refine zj 15 fun K9 hK9=> ?_
   all_goals simp only [push_cast,↓zK,↓zJ,↓reduceIte,zA,zB,zC,zD,zE,zF,zG,zH,zI,reduceCtorEq]
   all_goals repeat'(first|(apply zO<;>(intro hg;(try simp only [push_cast]at hg)))|(refine⟨_,Xr (gq ps k).record r (hgl k) hr,?_⟩;simp only [push_cast,↓zK,↓zJ,↓reduceIte,zA,zB,zC,zD,zE,zF,zG,zH,zI,reduceCtorEq])|apply And.intro|(intro hg;(try simp only [push_cast]at hg)))
   all_goals first|exact gA|(exact zU (by omega))|skip
   all_goals first|(refine hK9 _ ?_;clear hK9 K9)|(simp only [push_cast];done)
   all_goals simp only [push_cast,↓zK,↓zJ,↓reduceIte,zA,zB,zC,zD,zE,zF,zG,zH,zI,reduceCtorEq]
   all_goals repeat'(first|(apply zO<;>(intro hg;(try simp only [push_cast]at hg)))|(refine⟨_,Xr (gq ps k).record r (hgl k) hr,?_⟩;simp only [push_cast,↓zK,↓zJ,↓reduceIte,zA,zB,zC,zD,zE,zF,zG,zH,zI,reduceCtorEq])|apply And.intro|(intro hg;(try simp only [push_cast]at hg)))
   all_goals first|exact gA|(exact zU (by omega))|skip
   all_goals first|(refine hK _ ?_;clear hK K)|(simp only [push_cast];done)
   all_goals refine zV rfl (fun hc=> ?_) (fun hc=> ?_)
   all_goals(first|(cases hc;done)|skip)
   all_goals(try simp only [push_cast]at hc)
   all_goals first
    |(
      refine zX ?_
      (try simp only [zR,zT,reduceIte,zF]);refine hK3 _ ?_
      refine zM zQ zN [] rfl ?_
      all_goals simp only [push_cast,↓zK,↓zJ,↓reduceIte,zA,zB,zC,zD,zE,zF,zG,zH,zI,reduceCtorEq]
      all_goals repeat'(first|(apply zO<;>(intro hg;(try simp only [push_cast]at hg)))|apply And.intro|(intro hg;(try simp only [push_cast]at hg)))
      all_goals first|exact gA|(exact zU (by omega))|skip
      refine hL0 _ ⟨k+1,⟨by omega,fun j hj=>(by
        by_cases hjk:j=k
        ·subst hjk;first|exact ke (by omega)|exact kf (by simpa using hc)|exact kf (by with_reducible assumption)
        ·exact hall j (by omega))⟩,by omega,?_⟩
      refine zb rfl ?_ ?_ ?_<;>simp only [zi,zh,push_cast,↓zK,↓zJ,↓reduceIte,zA,zB,zC,zD,zE,zF,zG,zH,zI,reduceCtorEq]
      done)
    |(
      refine zL fun K hK=> ?_
      refine zM zQ zN [] rfl ?_
      all_goals simp only [push_cast,↓zK,↓zJ,↓reduceIte,zA,zB,zC,zD,zE,zF,zG,zH,zI,reduceCtorEq]
      all_goals repeat'(first|(apply zO<;>(intro hg;(try simp only [push_cast]at hg)))|apply And.intro|(intro hg;(try simp only [push_cast]at hg)))
      all_goals first|exact gA|(exact zU (by omega))|skip
      all_goals first|(refine hK _ ?_;clear hK K)|(simp only [push_cast];done)
      refine zZ ?_
      (try simp only [zR,zT])
      refine⟨Or.inl rfl,?_⟩
      simp only [zf,push_cast,↓zK,↓zJ,↓reduceIte,zA,zB,zC,zD,zE,zF,zG,zH,zI,reduceCtorEq]
      exact(kQ (k:=k) (by omega) hall (kg (by omega) (by with_reducible assumption))).symm
      done)
  ·
   refine zn ?_
   (try simp only [zR,zT,reduceIte,zF]);refine hK1 _ ?_
   refine zL fun K hK=> ?_
   refine zM zQ zN [] rfl ?_
   all_goals simp only [push_cast,↓zK,↓zJ,↓reduceIte,zA,zB,zC,zD,zE,zF,zG,zH,zI,reduceCtorEq]
   all_goals repeat'(first|(apply zO<;>(intro hg;(try simp only [push_cast]at hg)))|apply And.intro|(intro hg;(try simp only [push_cast]at hg)))
   all_goals first|exact gA|(exact zU (by omega))|skip
   all_goals first|(refine hK _ ?_;clear hK K)|(simp only [push_cast];done)
   refine zZ ?_
   (try simp only [zR,zT])
   refine⟨Or.inl rfl,?_⟩
   simp only [zf,push_cast,↓zK,↓zJ,↓reduceIte,zA,zB,zC,zD,zE,zF,zG,zH,zI,reduceCtorEq]
   all_goals first|(rw [Jc fun j hj=>hall j (by omega)];done)|(rw [Jc fun j hj=>hall j (by omega)];rfl)
set_option maxRecDepth 20000 in
set_option maxHeartbeats 4000000 in
theorem Uf (xs:List Int)(hx:xs.length≤1048576):Fn Try.prog tyT 37 [.c (DI xs)] [.c (DI (yH xs))]:=by
 refine yG (fn:=Try.f37) (ts:= [2]) Try.func37 (by kernel_rfl) rfl rfl (by rw [Try.ntmps37];exact Nat.le_of_ble_eq_true rfl) rfl (by simp only [szA,List.mem_cons,List.not_mem_nil,or_false,forall_eq_or_imp,forall_eq,VT.cells,szL];try decide) ?_
 rw [Try.ntmps37]
 simp only [push_cast,↓zK,↓zJ,↓reduceIte,zA,zB,zC,zD,zE,zF,zG,zH,zI,reduceCtorEq]
 refine zL fun K hK=> ?_
 refine zM zQ zN [] rfl ?_
 simp only [push_cast,↓zK,↓zJ,↓reduceIte,zA,zB,zC,zD,zE,zF,zG,zH,zI,reduceCtorEq]
 repeat' apply And.intro
 all_goals try exact gB
 all_goals first|(refine hK _ ?_;clear hK K)|(simp only [push_cast];done)
 refine zL fun K hK=> ?_
 refine zM zQ zN [] rfl ?_
 simp only [push_cast,↓zK,↓zJ,↓reduceIte,zA,zB,zC,zD,zE,zF,zG,zH,zI,reduceCtorEq]
 repeat' apply And.intro
 all_goals try exact gB
 all_goals first|(refine hK _ ?_;clear hK K)|(simp only [push_cast];done)
 refine zL fun K1 hK1=> ?_
 refine zL fun K hK=> ?_
 refine zM zQ zN [] rfl ?_
 simp only [push_cast,↓zK,↓zJ,↓reduceIte,zA,zB,zC,zD,zE,zF,zG,zH,zI,reduceCtorEq]
 repeat' apply And.intro
 all_goals try exact gB
 all_goals first|(refine hK _ ?_;clear hK K)|(simp only [push_cast];done)
 refine zW ?_
 refine zk [3,4,5,6,8,9,10,11,12,13,14,15,16,17,18,19,20,21,22,23,24,25,26,27,28,29,30,31,32,33,34,35,36,37,38,39,40,41,42,43,44,45,46,47,48] [48] (fun(i:Nat)=> [(4, .int .i64 i),(3, .sl 48 [] 0 i 2)]) (fun i=> []) (fun i=> [(48,⟨.ex,2,dI (yH (xs.take i)),none⟩)]) (fun i=>i≤xs.length) (fun i=>xs.length - i) 0 ?_ (by omega) ?_
 ·
  rw [List.take_zero,ki,show dI ([]:List Int)= []from rfl]
  refine zb rfl ?_ ?_ ?_<;>simp only [zi,zh,push_cast,↓zK,↓zJ,↓reduceIte,zA,zB,zC,zD,zE,zF,zG,zH,zI,reduceCtorEq]
 ·rintro i hi KL0 hL0
  have hol:(yH (xs.take i)).length=i:=by rw [xH,List.length_take];omega
  simp only [push_cast,↓zK,↓zJ,↓reduceIte,zA,zB,zC,zD,zE,zF,zG,zH,zI,reduceCtorEq]
  refine zL fun K2 hK2=> ?_
  refine zL fun K hK=> ?_
  refine zM zQ zN [] rfl ?_
  simp only [push_cast,↓zK,↓zJ,↓reduceIte,zA,zB,zC,zD,zE,zF,zG,zH,zI,reduceCtorEq]
  repeat' apply And.intro
  all_goals try exact gB
  all_goals first|(refine hK _ ?_;clear hK K)|(simp only [push_cast];done)
  refine zV rfl (fun hc=> ?_) (fun hc=> ?_)<;>(try simp only [push_cast]at hc)
  ·
   refine zX ?_
   (try simp only [zR,zT,reduceIte,zF]);refine hK2 _ ?_
   refine zL fun K3 hK3=> ?_
   refine zW ?_
   refine zL fun K hK=> ?_
   refine zM zQ zN [] rfl ?_
   simp only [push_cast,↓zK,↓zJ,↓reduceIte,zA,zB,zC,zD,zE,zF,zG,zH,zI,reduceCtorEq]
   repeat' apply And.intro
   all_goals try exact gB
   all_goals first|(refine hK _ ?_;clear hK K)|(simp only [push_cast];done)
   refine zL fun K4 hK4=> ?_
   refine zW ?_
   refine zk [5,16,17,18,19,20,21,22,23,24,25,26,27,28,29,30,31] [] (fun(k:Nat)=> [(5, .int .i64 k)]) (fun k=> []) (fun k=> []) (fun k=>k≤i∧∀j,k≤j→j<i→gi (yH (xs.take i)) j>gi xs i) (fun k=>k) i ?_ ⟨by omega,fun j h8 h9=>by omega⟩ ?_
   ·
    refine zb rfl ?_ ?_ ?_<;>simp only [zi,zh,push_cast,↓zK,↓zJ,↓reduceIte,zA,zB,zC,zD,zE,zF,zG,zH,zI,reduceCtorEq]
   ·rintro k ⟨hk,hall⟩ KL1 hL1
    simp only [push_cast,↓zK,↓zJ,↓reduceIte,zA,zB,zC,zD,zE,zF,zG,zH,zI,reduceCtorEq]
    refine zL fun K5 hK5=> ?_
    refine zL fun K hK=> ?_
    refine yJ false zQ zN xC ?_ rfl ?_
    ·kernel_rfl
    intro E hE
    all_goals simp only [push_cast,↓zK,↓zJ,↓reduceIte,zA,zB,zC,zD,zE,zF,zG,zH,zI,reduceCtorEq]
    all_goals repeat'(first|(apply zO<;>(intro hg;(try simp only [push_cast]at hg)))|apply And.intro|(intro hg;(try simp only [push_cast]at hg)))
    all_goals first|exact gA|(refine hE _ _ ?_ ?_;kernel_rfl)|skip
    all_goals clear hE E
    all_goals first|(refine hK _ ?_;clear hK K)|(simp only [push_cast];done)
    all_goals refine zV rfl (fun hc=> ?_) (fun hc=> ?_)
    all_goals(first|(cases hc;done)|skip)
    all_goals(try simp only [push_cast]at hc)
    all_goals try(
      refine zn ?_
      (try simp only [zR,zT,reduceIte,zF]);refine hK4 _ ?_
      refine zL fun K hK=> ?_
      refine zM zQ zN [] rfl ?_
      simp only [push_cast,↓zK,↓zJ,↓reduceIte,zA,zB,zC,zD,zE,zF,zG,zH,zI,reduceCtorEq]
      repeat' apply And.intro
      all_goals try exact gB
      all_goals first|(refine hK _ ?_;clear hK K)|(simp only [push_cast];done)
      refine zL fun K hK=> ?_
      refine zM zQ zN [] rfl ?_
      simp only [push_cast,↓zK,↓zJ,↓reduceIte,zA,zB,zC,zD,zE,zF,zG,zH,zI,reduceCtorEq]
      repeat' apply And.intro
      all_goals try exact gB
      all_goals first|(refine hK _ ?_;clear hK K)|(simp only [push_cast];done)
      refine zM zQ zN [] rfl ?_
      simp only [push_cast,↓zK,↓zJ,↓reduceIte,zA,zB,zC,zD,zE,zF,zG,zH,zI,reduceCtorEq]
      repeat' apply And.intro
      all_goals try exact gB
      (try simp only [zR,zT,reduceIte,zF]);refine hK3 _ ?_
      refine zM zQ zN [] rfl ?_
      simp only [push_cast,↓zK,↓zJ,↓reduceIte,zA,zB,zC,zD,zE,zF,zG,zH,zI,reduceCtorEq]
      repeat' apply And.intro
      all_goals try exact gB
      refine hL0 _ ⟨i+1,by omega,by omega,?_⟩
      refine zb rfl ?_ ?_ ?_<;>simp only [zi,zh,push_cast,↓zK,↓zJ,↓reduceIte,zA,zB,zC,zD,zE,zF,zG,zH,zI,reduceCtorEq]
      all_goals first|(rw [show k+1+(i - k)=i+1 from by omega];done)|(rw [zGl (by omega) (by omega) (fun j h8 h9=>hall j h8 h9) (by first|exact .inl (by omega)|exact .inr (by omega))];done)|skip
      done)
    refine zX ?_
    (try simp only [zR,zT,reduceIte,zF]);refine hK5 _ ?_
    refine zW ?_
    refine zM zQ zN [] rfl ?_
    simp only [push_cast,↓zK,↓zJ,↓reduceIte,zA,zB,zC,zD,zE,zF,zG,zH,zI,reduceCtorEq]
    repeat' apply And.intro
    all_goals try exact gB
    refine hL1 _ ⟨k - 1,⟨by omega,fun j h8 h9=>(by
      by_cases hjk:j=k - 1
      ·subst hjk;omega
      ·exact hall j (by omega) h9)⟩,by omega,?_⟩
    refine zb rfl ?_ ?_ ?_<;>simp only [zi,zh,push_cast,↓zK,↓zJ,↓reduceIte,zA,zB,zC,zD,zE,zF,zG,zH,zI,reduceCtorEq]
    all_goals(try(refine congrArg (AV.int .i64) ?_;omega))
  ·
   refine zn ?_
   have hii:i=xs.length:=by omega
   subst hii
   rw [List.take_length]
   (try simp only [zR,zT,reduceIte,zF]);refine hK1 _ ?_
   refine zL fun K hK=> ?_
   refine zM zQ zN [] rfl ?_
   simp only [push_cast,↓zK,↓zJ,↓reduceIte,zA,zB,zC,zD,zE,zF,zG,zH,zI,reduceCtorEq]
   repeat' apply And.intro
   all_goals try exact gB
   all_goals first|(refine hK _ ?_;clear hK K)|(simp only [push_cast];done)
   refine zZ ?_
   (try simp only [zR,zT])
   refine⟨Or.inl rfl,?_⟩
   simp only [zf,push_cast,↓zK,↓zJ,↓reduceIte,zA,zB,zC,zD,zE,zF,zG,zH,zI,reduceCtorEq]
   all_goals first|rfl|exact⟨rfl,rfl⟩|exact⟨rfl,(xH xs).symm⟩|(simp [xH];done)
end Go.Proofs.Ytipplkjdmdlhpaa
