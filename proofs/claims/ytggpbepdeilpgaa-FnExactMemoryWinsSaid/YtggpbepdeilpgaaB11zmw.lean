/- memory strategies: both sides -/
import Derived.Test.YtggpbepdeilpgaaB10zmw
import Derived.Test.YtggpbepdeilpgaaB6zmw
import Derived.Test.YtggpbepdeilpgaaB5zmw
import Derived.Test.YtggpbepdeilpgaaB4zmw
import Derived.Test.YtggpbepdeilpgaaB7zmw
import Derived.ArgAppend
import Derived.MapKept
namespace Go.Proofs.Ytggpbepdeilpgaa
open Nat renaming reduceMod → zA, reduceMul → zB, reduceDiv → zC, reduceAdd → zD, reduceSub → zE, reduceEqDiff → zF, reduceBEq → zG, reduceLT → zH, reduceLeDiff → zI
open Go.RowKit
set_option linter.unusedVariables false
set_option linter.unusedSimpArgs false
def qK (a:Ar)(next choice:List Int)(k:Int):Bool:=decide (next.length=a.owner.length)&&(vc a 0 choice&&wa next.length (fun v=>decide (0≤gi next v∧gi next v<k)))
theorem Kw {a:Ar}{next choice:List Int}{k:Int}(h: ¬next.length=a.owner.length):qK a next choice k=false:=by unfold qK;rw [decide_eq_false h];rfl
theorem Qd {a:Ar}{next choice:List Int}{k:Int}(h:vc a 0 choice=false):qK a next choice k=false:=by unfold qK;rw [h,Bool.false_and,Bool.and_false]
theorem Kx {a:Ar}{next choice:List Int}{k:Int}{v:Nat}(hv:v<next.length)(h: ¬(0≤gi next v∧gi next v<k)):qK a next choice k=false:=by unfold qK;rw [qf hv (decide_eq_false h),Bool.and_false,Bool.and_false]
theorem Ky {a:Ar}{next choice:List Int}{k:Int}(h1:next.length=a.owner.length)(h2:vc a 0 choice=true)(h3: ∀v,v<next.length→0≤gi next v∧gi next v<k):qK a next choice k=true:=by unfold qK;rw [decide_eq_true h1,h2,vE fun v hv=>decide_eq_true (h3 v hv)];rfl
def vh (a:Ar)(m:Me):Bool:=decide (1≤m.next.length∧m.next.length≤24∧m.choice.length=m.next.length)&&wa m.next.length (fun s=>qK a (gl m.next s) (gl m.choice s) m.next.length)
theorem uJ {a:Ar}{m:Me}(h: ¬(1≤m.next.length∧m.next.length≤24∧m.choice.length=m.next.length)):vh a m=false:=by unfold vh;rw [decide_eq_false h];rfl
theorem WD {a:Ar}{m:Me}{s:Nat}(hs:s<m.next.length)(h:qK a (gl m.next s) (gl m.choice s) m.next.length=false):vh a m=false:=by unfold vh;rw [qf hs h,Bool.and_false]
theorem uK {a:Ar}{m:Me}(h1:1≤m.next.length∧m.next.length≤24∧m.choice.length=m.next.length)(h2: ∀s,s<m.next.length→qK a (gl m.next s) (gl m.choice s) m.next.length=true):vh a m=true:=by unfold vh;rw [decide_eq_true h1,vE h2];rfl
set_option maxRecDepth 20000 in
set_option maxHeartbeats 4000000 in
theorem Wu (xs:List Int)(x:Int)(hl:xs.length≤1048576):Fn Try.prog tyT 36 [.c (DI xs), .c (.int .i64 x)] [.c (.bool (yR xs x))]:=by
 refine yC (fn:=Try.f36) (ts:= [4]) Try.func36 (by kernel_rfl) rfl rfl (by rw [Try.ntmps36];exact Nat.le_of_ble_eq_true rfl) rfl (by simp only [szA,List.mem_cons,List.not_mem_nil,or_false,forall_eq_or_imp,forall_eq,VT.cells,szL];try decide) ?_
 rw [Try.ntmps36]
 simp only [push_cast,↓zK,↓zJ,↓reduceIte,zA,zB,zC,zD,zE,zF,zG,zH,zI,reduceCtorEq]
 refine zL fun K hK=> ?_
 refine zM zQ zO [] rfl ?_
 simp only [push_cast,↓zK,↓zJ,↓reduceIte,zA,zB,zC,zD,zE,zF,zG,zH,zI,reduceCtorEq]
 repeat' apply And.intro
 all_goals try exact gB
 all_goals first|(refine hK _ ?_;clear hK K)|(simp only [push_cast];done)
 refine zL fun K1 hK1=> ?_
 refine zL fun K hK=> ?_
 refine zM zQ zO [] rfl ?_
 simp only [push_cast,↓zK,↓zJ,↓reduceIte,zA,zB,zC,zD,zE,zF,zG,zH,zI,reduceCtorEq]
 repeat' apply And.intro
 all_goals try exact gB
 all_goals first|(refine hK _ ?_;clear hK K)|(simp only [push_cast];done)
 refine zX ?_
 refine zn [4,5,6,7,8,9,10,11,12,13,14,15,16,17] [] (fun(k:Nat)=> [(5, .int .i64 k)]) (fun k=> []) (fun k=> []) (fun k=>k≤xs.length∧∀j,j<k→¬gi xs j=x) (fun k=>xs.length - k) 0 ?_ ⟨by omega,fun j hj=>by omega⟩ ?_
 ·
  refine zb rfl ?_ ?_ ?_<;>simp only [zj,zi,push_cast,↓zK,↓zJ,↓reduceIte,zA,zB,zC,zD,zE,zF,zG,zH,zI,reduceCtorEq]
 ·rintro k ⟨hk,hall⟩ KL0 hL0
  simp only [push_cast,↓zK,↓zJ,↓reduceIte,zA,zB,zC,zD,zE,zF,zG,zH,zI,reduceCtorEq]
  refine zL fun K2 hK2=> ?_
  refine zL fun K hK=> ?_
  refine zM zQ zO [] rfl ?_
  simp only [push_cast,↓zK,↓zJ,↓reduceIte,zA,zB,zC,zD,zE,zF,zG,zH,zI,reduceCtorEq]
  repeat' apply And.intro
  all_goals try exact gB
  all_goals first|(refine hK _ ?_;clear hK K)|(simp only [push_cast];done)
  refine zU rfl (fun hc=> ?_) (fun hc=> ?_)<;>(try simp only [push_cast]at hc)
  ·
   refine zV ?_
   (try simp only [zS,zT,reduceIte,zF]);refine hK2 _ ?_
   refine zL fun K3 hK3=> ?_
   refine zX ?_
   refine zL fun K hK=> ?_
   refine zM zQ zO [] rfl ?_
   simp only [push_cast,↓zK,↓zJ,↓reduceIte,zA,zB,zC,zD,zE,zF,zG,zH,zI,reduceCtorEq]
   repeat' apply And.intro
   all_goals try exact gB
   all_goals first|(refine hK _ ?_;clear hK K)|(simp only [push_cast];done)
   refine zU rfl (fun hc=> ?_) (fun hc=> ?_)<;>(try simp only [push_cast]at hc)
   ·
    refine zL fun K hK=> ?_
    refine zM zQ zO [] rfl ?_
    simp only [push_cast,↓zK,↓zJ,↓reduceIte,zA,zB,zC,zD,zE,zF,zG,zH,zI,reduceCtorEq]
    repeat' apply And.intro
    all_goals try exact gB
    all_goals first|(refine hK _ ?_;clear hK K)|(simp only [push_cast];done)
    refine za ?_
    (try simp only [zS,zT])
    refine⟨Or.inl rfl,?_⟩
    simp only [ze,push_cast,↓zK,↓zJ,↓reduceIte,zA,zB,zC,zD,zE,zF,zG,zH,zI,reduceCtorEq]
    have hf:ZN xs x=k:=Jo (by omega) hall (by omega)
    unfold yR
    rw [hf]
    exact(decide_eq_true (by omega)).symm
   ·
    refine zV ?_
    (try simp only [zS,zT,reduceIte,zF]);refine hK3 _ ?_
    refine zM zQ zO [] rfl ?_
    simp only [push_cast,↓zK,↓zJ,↓reduceIte,zA,zB,zC,zD,zE,zF,zG,zH,zI,reduceCtorEq]
    repeat' apply And.intro
    all_goals try exact gB
    refine hL0 _ ⟨k+1,⟨by omega,fun j hj=>(by
      by_cases hjk:j=k
      ·subst hjk;omega
      ·exact hall j (by omega))⟩,by omega,?_⟩
    refine zb rfl ?_ ?_ ?_<;>simp only [zj,zi,push_cast,↓zK,↓zJ,↓reduceIte,zA,zB,zC,zD,zE,zF,zG,zH,zI,reduceCtorEq]
  ·
   refine zp ?_
   (try simp only [zS,zT,reduceIte,zF]);refine hK1 _ ?_
   refine zL fun K hK=> ?_
   refine zM zQ zO [] rfl ?_
   simp only [push_cast,↓zK,↓zJ,↓reduceIte,zA,zB,zC,zD,zE,zF,zG,zH,zI,reduceCtorEq]
   repeat' apply And.intro
   all_goals try exact gB
   all_goals first|(refine hK _ ?_;clear hK K)|(simp only [push_cast];done)
   refine za ?_
   (try simp only [zS,zT])
   refine⟨Or.inl rfl,?_⟩
   simp only [ze,push_cast,↓zK,↓zJ,↓reduceIte,zA,zB,zC,zD,zE,zF,zG,zH,zI,reduceCtorEq]
   unfold yR
   rw [QT (fun j hj=>hall j (by omega))]
   exact(decide_eq_false (by omega)).symm
set_option maxRecDepth 20000 in
set_option maxHeartbeats 4000000 in
theorem zCB (a:Ar)(ha:a.Ln 1048576)(hnl:a.next.length=a.owner.length)(next choice:List Int)(h1:next.length≤1048576)(h2:choice.length≤1048576)(k:Int)(hk0:1≤k∧k≤24):Fn Try.prog tyT 64 [.agg (dAr a), .c (DI next), .c (DI choice), .c (.int .i64 k)] [.c (.bool (qK a next choice k))]:=by
 have hr: ∀v,(gl a.next v).length≤1048576:=fun v=>wx ha.next v
 have hno:=ha.owner
 unfold LnI at hno
 unfold dAr
 refine yC (fn:=Try.f64) (ts:= [8]) Try.func64 (by kernel_rfl) rfl rfl (by rw [Try.ntmps64];exact Nat.le_of_ble_eq_true rfl) rfl (by simp only [szA,List.mem_cons,List.not_mem_nil,or_false,forall_eq_or_imp,forall_eq,VT.cells,szL];try decide) ?_
 rw [Try.ntmps64]
 simp only [push_cast,↓zK,↓zJ,↓reduceIte,zA,zB,zC,zD,zE,zF,zG,zH,zI,reduceCtorEq]
 refine zL fun K hK=> ?_
 refine zM zQ zO [] rfl ?_
 all_goals simp only [push_cast,↓zK,↓zJ,↓reduceIte,zA,zB,zC,zD,zE,zF,zG,zH,zI,reduceCtorEq]
 all_goals repeat'(first|(apply zP<;>(intro hg;(try simp only [push_cast]at hg)))|apply And.intro|(intro hg;(try simp only [push_cast]at hg)))
 all_goals first|exact gA|(exact zN (by omega))|skip
 all_goals first|(refine hK _ ?_;clear hK K)|(simp only [push_cast];done)
 refine zL fun K1 hK1=> ?_
 refine zL fun K hK=> ?_
 refine zf false zQ zO ?_ rfl ?_
 ·kernel_rfl
 all_goals simp only [push_cast,↓zK,↓zJ,↓reduceIte,zA,zB,zC,zD,zE,zF,zG,zH,zI,reduceCtorEq]
 all_goals repeat'(first|(apply zP<;>(intro hg;(try simp only [push_cast]at hg)))|apply And.intro|(intro hg;(try simp only [push_cast]at hg)))
 all_goals first|exact gA|(exact zN (by omega))|skip
 all_goals first|(refine hK _ ?_;clear hK K)|(simp only [push_cast];done)
 all_goals refine zU rfl (fun hc=> ?_) (fun hc=> ?_)
 all_goals(first|(cases hc;done)|skip)
 all_goals(try simp only [push_cast]at hc)
 all_goals try(
   refine zL fun K hK=> ?_
   refine zM zQ zO [] rfl ?_
   all_goals simp only [push_cast,↓zK,↓zJ,↓reduceIte,zA,zB,zC,zD,zE,zF,zG,zH,zI,reduceCtorEq]
   all_goals repeat'(first|(apply zP<;>(intro hg;(try simp only [push_cast]at hg)))|apply And.intro|(intro hg;(try simp only [push_cast]at hg)))
   all_goals first|exact gA|(exact zN (by omega))|skip
   all_goals first|(refine hK _ ?_;clear hK K)|(simp only [push_cast];done)
   refine za ?_
   (try simp only [zS,zT])
   refine⟨Or.inl rfl,?_⟩
   simp only [ze,push_cast,↓zK,↓zJ,↓reduceIte,zA,zB,zC,zD,zE,zF,zG,zH,zI,reduceCtorEq]
   symm
   first|exact Kw (by omega)|exact Qd (jB (by omega))
   done)
 refine zV ?_
 (try simp only [zS,zT,reduceIte,zF]);refine hK1 _ ?_
 refine zL fun K2 hK2=> ?_
 refine zL fun K hK=> ?_
 refine zM zQ zO [] rfl ?_
 all_goals simp only [push_cast,↓zK,↓zJ,↓reduceIte,zA,zB,zC,zD,zE,zF,zG,zH,zI,reduceCtorEq]
 all_goals repeat'(first|(apply zP<;>(intro hg;(try simp only [push_cast]at hg)))|apply And.intro|(intro hg;(try simp only [push_cast]at hg)))
 all_goals first|exact gA|(exact zN (by omega))|skip
 all_goals first|(refine hK _ ?_;clear hK K)|(simp only [push_cast];done)
 refine zX ?_
 refine zn [8,9,16,24,25,26,27,28,29,30,31,32,33,34,35,36,37,38,39,40,41,42,43,44,45,46,47,48,49,50,51,52,53,54,55,56,57,58,59,60,61,62,63,64] [] (fun(v:Nat)=> [(9, .int .i64 v)]) (fun v=> []) (fun v=> []) (fun v=>v≤a.owner.length∧∀j,j<v→(0≤gi next j∧gi next j<k)∧qz a 0 choice j=true) (fun v=>a.owner.length - v) 0 ?_ ⟨by omega,fun j hj=>by omega⟩ ?_
 ·
  refine zb rfl ?_ ?_ ?_<;>simp only [zj,zi,push_cast,↓zK,↓zJ,↓reduceIte,zA,zB,zC,zD,zE,zF,zG,zH,zI,reduceCtorEq]
 ·rintro v ⟨hv,hall⟩ KL0 hL0
  have hrv:=hr v
  simp only [push_cast,↓zK,↓zJ,↓reduceIte,zA,zB,zC,zD,zE,zF,zG,zH,zI,reduceCtorEq]
  refine zL fun K3 hK3=> ?_
  refine zL fun K hK=> ?_
  refine zM zQ zO [] rfl ?_
  all_goals simp only [push_cast,↓zK,↓zJ,↓reduceIte,zA,zB,zC,zD,zE,zF,zG,zH,zI,reduceCtorEq]
  all_goals repeat'(first|(apply zP<;>(intro hg;(try simp only [push_cast]at hg)))|apply And.intro|(intro hg;(try simp only [push_cast]at hg)))
  all_goals first|exact gA|(exact zN (by omega))|skip
  all_goals first|(refine hK _ ?_;clear hK K)|(simp only [push_cast];done)
  refine zU rfl (fun hc=> ?_) (fun hc=> ?_)<;>(try simp only [push_cast]at hc)
  ·
   refine zV ?_
   (try simp only [zS,zT,reduceIte,zF]);refine hK3 _ ?_
   refine zL fun K4 hK4=> ?_
   refine zX ?_
   refine zL fun K5 hK5=> ?_
   refine zL fun K hK=> ?_
   refine zM zQ zO [] rfl ?_
   all_goals refine vF 7 fun K9 hK9=> ?_
   all_goals simp only [push_cast,↓zK,↓zJ,↓reduceIte,zA,zB,zC,zD,zE,zF,zG,zH,zI,reduceCtorEq]
   all_goals repeat'(first|(apply zP<;>(intro hg;(try simp only [push_cast]at hg)))|(refine⟨_,yM _ _ _,?_⟩;simp only [push_cast,↓zK,↓zJ,↓reduceIte,zA,zB,zC,zD,zE,zF,zG,zH,zI,reduceCtorEq])|apply And.intro|(intro hg;(try simp only [push_cast]at hg)))
   all_goals first|exact gA|(exact zN (by omega))|skip
   all_goals first|(refine hK9 _ ?_;clear hK9 K9)|(simp only [push_cast];done)
   all_goals simp only [push_cast,↓zK,↓zJ,↓reduceIte,zA,zB,zC,zD,zE,zF,zG,zH,zI,reduceCtorEq]
   all_goals repeat'(first|(apply zP<;>(intro hg;(try simp only [push_cast]at hg)))|(refine⟨_,yM _ _ _,?_⟩;simp only [push_cast,↓zK,↓zJ,↓reduceIte,zA,zB,zC,zD,zE,zF,zG,zH,zI,reduceCtorEq])|apply And.intro|(intro hg;(try simp only [push_cast]at hg)))
   all_goals first|exact gA|(exact zN (by omega))|skip
   all_goals first|(refine hK _ ?_;clear hK K)|(simp only [push_cast];done)
   refine zU rfl (fun hc=> ?_) (fun hc=> ?_)<;>(try simp only [push_cast]at hc)
   ·
    refine zL fun K hK=> ?_
    refine zM zQ zO [] rfl ?_
    all_goals simp only [push_cast,↓zK,↓zJ,↓reduceIte,zA,zB,zC,zD,zE,zF,zG,zH,zI,reduceCtorEq]
    all_goals repeat'(first|(apply zP<;>(intro hg;(try simp only [push_cast]at hg)))|apply And.intro|(intro hg;(try simp only [push_cast]at hg)))
    all_goals first|exact gA|(exact zN (by omega))|skip
    all_goals first|(refine hK _ ?_;clear hK K)|(simp only [push_cast];done)
    refine za ?_
    (try simp only [zS,zT])
    refine⟨Or.inl rfl,?_⟩
    simp only [ze,push_cast,↓zK,↓zJ,↓reduceIte,zA,zB,zC,zD,zE,zF,zG,zH,zI,reduceCtorEq]
    symm
    exact Kx (v:=v) (by omega) (by omega)
   ·
    refine zV ?_
    (try simp only [zS,zT,reduceIte,zF]);refine hK5 _ ?_
    refine zL fun K hK=> ?_
    refine yu false zQ zO qM ?_ rfl ?_
    ·kernel_rfl
    intro E hE
    all_goals refine vL 23 (by decide) fun K9 hK9=> ?_
    all_goals simp only [push_cast,↓zK,↓zJ,↓reduceIte,zA,zB,zC,zD,zE,zF,zG,zH,zI,reduceCtorEq]
    all_goals repeat'(first|(apply zP<;>(intro hg;(try simp only [push_cast]at hg)))|(refine⟨_,Wu (gl a.next v) _ (hr v),?_⟩;simp only [push_cast,↓zK,↓zJ,↓reduceIte,zA,zB,zC,zD,zE,zF,zG,zH,zI,reduceCtorEq])|apply And.intro|(intro hg;(try simp only [push_cast]at hg)))
    all_goals first|exact gA|(exact zN (by omega))|skip
    all_goals first|(refine hK9 _ _ ?_;clear hK9 K9)|(simp only [push_cast];done)
    all_goals simp only [push_cast,↓zK,↓zJ,↓reduceIte,zA,zB,zC,zD,zE,zF,zG,zH,zI,reduceCtorEq]
    all_goals repeat'(first|(apply zP<;>(intro hg;(try simp only [push_cast]at hg)))|(refine⟨_,Wu (gl a.next v) _ (hr v),?_⟩;simp only [push_cast,↓zK,↓zJ,↓reduceIte,zA,zB,zC,zD,zE,zF,zG,zH,zI,reduceCtorEq])|apply And.intro|(intro hg;(try simp only [push_cast]at hg)))
    all_goals first|exact gA|(refine hE _ _ ?_ ?_;kernel_rfl)|(exact zN (by omega))|skip
    all_goals clear hE E
    all_goals first|(refine hK _ ?_;clear hK K)|(simp only [push_cast];done)
    all_goals refine zU rfl (fun hc=> ?_) (fun hc=> ?_)
    all_goals(first|(cases hc;done)|skip)
    all_goals(try simp only [push_cast]at hc)
    all_goals first
     |(
       refine zV ?_
       (try simp only [zS,zT,reduceIte,zF]);refine hK4 _ ?_
       refine zM zQ zO [] rfl ?_
       all_goals simp only [push_cast,↓zK,↓zJ,↓reduceIte,zA,zB,zC,zD,zE,zF,zG,zH,zI,reduceCtorEq]
       all_goals repeat'(first|(apply zP<;>(intro hg;(try simp only [push_cast]at hg)))|apply And.intro|(intro hg;(try simp only [push_cast]at hg)))
       all_goals first|exact gA|(exact zN (by omega))|skip
       refine hL0 _ ⟨v+1,⟨by omega,fun j hj=>(by
         by_cases hjv:j=v
         ·subst hjv;exact⟨by omega,JK (by first|exact Or.inl (by omega)|exact Or.inr ⟨by omega,by with_reducible assumption⟩)⟩
         ·exact hall j (by omega))⟩,by omega,?_⟩
       refine zb rfl ?_ ?_ ?_<;>simp only [zj,zi,push_cast,↓zK,↓zJ,↓reduceIte,zA,zB,zC,zD,zE,zF,zG,zH,zI,reduceCtorEq]
       done)
     |(
       refine zL fun K hK=> ?_
       refine zM zQ zO [] rfl ?_
       all_goals simp only [push_cast,↓zK,↓zJ,↓reduceIte,zA,zB,zC,zD,zE,zF,zG,zH,zI,reduceCtorEq]
       all_goals repeat'(first|(apply zP<;>(intro hg;(try simp only [push_cast]at hg)))|apply And.intro|(intro hg;(try simp only [push_cast]at hg)))
       all_goals first|exact gA|(exact zN (by omega))|skip
       all_goals first|(refine hK _ ?_;clear hK K)|(simp only [push_cast];done)
       refine za ?_
       (try simp only [zS,zT])
       refine⟨Or.inl rfl,?_⟩
       simp only [ze,push_cast,↓zK,↓zJ,↓reduceIte,zA,zB,zC,zD,zE,zF,zG,zH,zI,reduceCtorEq]
       symm
       exact Qd (uT (v:=v) (by omega) (JJ (by omega) (by first|exact Or.inl (by omega)|exact Or.inr (by with_reducible assumption))))
       done)
  ·
   refine zp ?_
   (try simp only [zS,zT,reduceIte,zF]);refine hK2 _ ?_
   refine zL fun K hK=> ?_
   refine zM zQ zO [] rfl ?_
   all_goals simp only [push_cast,↓zK,↓zJ,↓reduceIte,zA,zB,zC,zD,zE,zF,zG,zH,zI,reduceCtorEq]
   all_goals repeat'(first|(apply zP<;>(intro hg;(try simp only [push_cast]at hg)))|apply And.intro|(intro hg;(try simp only [push_cast]at hg)))
   all_goals first|exact gA|(exact zN (by omega))|skip
   all_goals first|(refine hK _ ?_;clear hK K)|(simp only [push_cast];done)
   refine za ?_
   (try simp only [zS,zT])
   refine⟨Or.inl rfl,?_⟩
   simp only [ze,push_cast,↓zK,↓zJ,↓reduceIte,zA,zB,zC,zD,zE,zF,zG,zH,zI,reduceCtorEq]
   symm
   exact Ky (by omega) (jC (by omega) fun j hj=>(hall j (by omega)).2) fun j hj=>(hall j (by omega)).1
set_option maxRecDepth 20000 in
set_option maxHeartbeats 4000000 in
theorem UR (a:Ar)(ha:a.Ln 1048576)(hnl:a.next.length=a.owner.length)(m:Me)(hm:m.Ln 1048576):Fn Try.prog tyT 42 [.agg (dAr a), .agg (dMe m)] [.c (.bool (vh a m))]:=by
 have hmr: ∀s,(gl m.next s).length≤1048576:=fun s=>wx hm.next s
 have hmc: ∀s,(gl m.choice s).length≤1048576:=fun s=>wx hm.choice s
 have hm1:=hm.next.1
 have hm2:=hm.choice.1
 have hno:=ha.owner
 unfold LnI at hno
 have hP:=fun s=>zB8 a ha hnl 0 (gl m.choice s) (hmc s)
 unfold dAr at hP
 unfold dAr dMe
 refine yC (fn:=Try.f42) (ts:= [4]) Try.func42 (by kernel_rfl) rfl rfl (by rw [Try.ntmps42];exact Nat.le_of_ble_eq_true rfl) rfl (by simp only [szA,List.mem_cons,List.not_mem_nil,or_false,forall_eq_or_imp,forall_eq,VT.cells,szL];try decide) ?_
 rw [Try.ntmps42]
 simp only [push_cast,↓zK,↓zJ,↓reduceIte,zA,zB,zC,zD,zE,zF,zG,zH,zI,reduceCtorEq]
 refine zL fun K hK=> ?_
 refine zM zQ zO [] rfl ?_
 all_goals simp only [push_cast,↓zK,↓zJ,↓reduceIte,zA,zB,zC,zD,zE,zF,zG,zH,zI,reduceCtorEq]
 all_goals repeat'(first|(apply zP<;>(intro hg;(try simp only [push_cast]at hg)))|apply And.intro|(intro hg;(try simp only [push_cast]at hg)))
 all_goals first|exact gA|(exact zN (by omega))|skip
 all_goals first|(refine hK _ ?_;clear hK K)|(simp only [push_cast];done)
 refine zL fun K hK=> ?_
 refine zM zQ zO [] rfl ?_
 all_goals simp only [push_cast,↓zK,↓zJ,↓reduceIte,zA,zB,zC,zD,zE,zF,zG,zH,zI,reduceCtorEq]
 all_goals repeat'(first|(apply zP<;>(intro hg;(try simp only [push_cast]at hg)))|apply And.intro|(intro hg;(try simp only [push_cast]at hg)))
 all_goals first|exact gA|(exact zN (by omega))|skip
 all_goals first|(refine hK _ ?_;clear hK K)|(simp only [push_cast];done)
 refine zL fun K1 hK1=> ?_
 refine zL fun K hK=> ?_
 refine zf false zQ zO ?_ rfl ?_
 ·kernel_rfl
 all_goals simp only [push_cast,↓zK,↓zJ,↓reduceIte,zA,zB,zC,zD,zE,zF,zG,zH,zI,reduceCtorEq]
 all_goals repeat'(first|(apply zP<;>(intro hg;(try simp only [push_cast]at hg)))|apply And.intro|(intro hg;(try simp only [push_cast]at hg)))
 all_goals first|exact gA|(exact zN (by omega))|skip
 all_goals first|(refine hK _ ?_;clear hK K)|(simp only [push_cast];done)
 all_goals refine zU rfl (fun hc=> ?_) (fun hc=> ?_)
 all_goals(first|(cases hc;done)|skip)
 all_goals(try simp only [push_cast]at hc)
 all_goals try(
   refine zL fun K hK=> ?_
   refine zM zQ zO [] rfl ?_
   all_goals simp only [push_cast,↓zK,↓zJ,↓reduceIte,zA,zB,zC,zD,zE,zF,zG,zH,zI,reduceCtorEq]
   all_goals repeat'(first|(apply zP<;>(intro hg;(try simp only [push_cast]at hg)))|apply And.intro|(intro hg;(try simp only [push_cast]at hg)))
   all_goals first|exact gA|(exact zN (by omega))|skip
   all_goals first|(refine hK _ ?_;clear hK K)|(simp only [push_cast];done)
   refine za ?_
   (try simp only [zS,zT])
   refine⟨Or.inl rfl,?_⟩
   simp only [ze,push_cast,↓zK,↓zJ,↓reduceIte,zA,zB,zC,zD,zE,zF,zG,zH,zI,reduceCtorEq]
   symm
   exact uJ (by omega)
   done)
 refine zV ?_
 (try simp only [zS,zT,reduceIte,zF]);refine hK1 _ ?_
 refine zL fun K2 hK2=> ?_
 refine zL fun K hK=> ?_
 refine zM zQ zO [] rfl ?_
 all_goals simp only [push_cast,↓zK,↓zJ,↓reduceIte,zA,zB,zC,zD,zE,zF,zG,zH,zI,reduceCtorEq]
 all_goals repeat'(first|(apply zP<;>(intro hg;(try simp only [push_cast]at hg)))|apply And.intro|(intro hg;(try simp only [push_cast]at hg)))
 all_goals first|exact gA|(exact zN (by omega))|skip
 all_goals first|(refine hK _ ?_;clear hK K)|(simp only [push_cast];done)
 refine zX ?_
 refine zn [4,6,7,9,15,19,31,32,33,34,35,36,37,38,39,40,41,42,43,44,45,46,47,48,49,50,51,52,53,54,55,56,57,58,59,60,61,62,63,64,65,66] [] (fun(s:Nat)=> [(31, .int .i64 s)]) (fun s=> []) (fun s=> []) (fun s=>s≤m.next.length∧∀j,j<s→qK a (gl m.next j) (gl m.choice j) m.next.length=true) (fun s=>m.next.length - s) 0 ?_ ⟨by omega,fun j hj=>by omega⟩ ?_
 ·
  refine zb rfl ?_ ?_ ?_<;>simp only [zj,zi,push_cast,↓zK,↓zJ,↓reduceIte,zA,zB,zC,zD,zE,zF,zG,zH,zI,reduceCtorEq]
 ·rintro s ⟨hs,hall⟩ KL0 hL0
  have hrs:=hmr s
  have hcs:=hmc s
  simp only [push_cast,↓zK,↓zJ,↓reduceIte,zA,zB,zC,zD,zE,zF,zG,zH,zI,reduceCtorEq]
  refine zL fun K hK=> ?_
  refine zM zQ zO [] rfl ?_
  all_goals simp only [push_cast,↓zK,↓zJ,↓reduceIte,zA,zB,zC,zD,zE,zF,zG,zH,zI,reduceCtorEq]
  all_goals repeat'(first|(apply zP<;>(intro hg;(try simp only [push_cast]at hg)))|apply And.intro|(intro hg;(try simp only [push_cast]at hg)))
  all_goals first|exact gA|(exact zN (by omega))|skip
  all_goals first|(refine hK _ ?_;clear hK K)|(simp only [push_cast];done)
  refine zL fun K3 hK3=> ?_
  refine zU rfl (fun hc=> ?_) (fun hc=> ?_)<;>(try simp only [push_cast]at hc)
  ·
   refine zV ?_
   (try simp only [zS,zT,reduceIte,zF]);refine hK3 _ ?_
   refine zL fun K4 hK4=> ?_
   refine zX ?_
   refine zL fun K hK=> ?_
   refine zM zQ zO [] rfl ?_
   all_goals simp only [push_cast,↓zK,↓zJ,↓reduceIte,zA,zB,zC,zD,zE,zF,zG,zH,zI,reduceCtorEq]
   all_goals repeat'(first|(apply zP<;>(intro hg;(try simp only [push_cast]at hg)))|apply And.intro|(intro hg;(try simp only [push_cast]at hg)))
   all_goals first|exact gA|(exact zN (by omega))|skip
   all_goals first|(refine hK _ ?_;clear hK K)|(simp only [push_cast];done)
   refine zL fun K5 hK5=> ?_
   refine zL fun K hK=> ?_
   refine yu false zQ zO qM ?_ rfl ?_
   ·kernel_rfl
   intro E hE
   all_goals refine vL 14 (by decide) fun K9 hK9=> ?_
   all_goals simp only [push_cast,↓zK,↓zJ,↓reduceIte,zA,zB,zC,zD,zE,zF,zG,zH,zI,reduceCtorEq]
   all_goals repeat'(first|(apply zP<;>(intro hg;(try simp only [push_cast]at hg)))|(refine⟨_,hP s,?_⟩;simp only [push_cast,↓zK,↓zJ,↓reduceIte,zA,zB,zC,zD,zE,zF,zG,zH,zI,reduceCtorEq])|apply And.intro|(intro hg;(try simp only [push_cast]at hg)))
   all_goals first|exact gA|(exact zN (by omega))|skip
   all_goals first|(refine hK9 _ _ ?_;clear hK9 K9)|(simp only [push_cast];done)
   all_goals simp only [push_cast,↓zK,↓zJ,↓reduceIte,zA,zB,zC,zD,zE,zF,zG,zH,zI,reduceCtorEq]
   all_goals repeat'(first|(apply zP<;>(intro hg;(try simp only [push_cast]at hg)))|(refine⟨_,hP s,?_⟩;simp only [push_cast,↓zK,↓zJ,↓reduceIte,zA,zB,zC,zD,zE,zF,zG,zH,zI,reduceCtorEq])|apply And.intro|(intro hg;(try simp only [push_cast]at hg)))
   all_goals first|exact gA|(refine hE _ _ ?_ ?_;kernel_rfl)|(exact zN (by omega))|skip
   all_goals clear hE E
   all_goals first|(refine hK _ ?_;clear hK K)|(simp only [push_cast];done)
   all_goals refine zU rfl (fun hc=> ?_) (fun hc=> ?_)
   all_goals(first|(cases hc;done)|skip)
   all_goals(try simp only [push_cast]at hc)
   all_goals first
    |(
      refine zV ?_
      (try simp only [zS,zT,reduceIte,zF]);refine hK5 _ ?_
      refine zL fun K hK=> ?_
      refine zM zQ zO [] rfl ?_
      all_goals simp only [push_cast,↓zK,↓zJ,↓reduceIte,zA,zB,zC,zD,zE,zF,zG,zH,zI,reduceCtorEq]
      all_goals repeat'(first|(apply zP<;>(intro hg;(try simp only [push_cast]at hg)))|apply And.intro|(intro hg;(try simp only [push_cast]at hg)))
      all_goals first|exact gA|(exact zN (by omega))|skip
      all_goals first|(refine hK _ ?_;clear hK K)|(simp only [push_cast];done)
      refine zX ?_
      refine zn [4,9,15,19,42,54,55,56,57,58,59,60,61,62,63,64,65] [] (fun(k:Nat)=> [(54, .int .i64 k)]) (fun k=> []) (fun k=> []) (fun k=>k≤(gl m.next s).length∧∀j,j<k→0≤gi (gl m.next s) j∧gi (gl m.next s) j<m.next.length) (fun k=>(gl m.next s).length - k) 0 ?_ ⟨by omega,fun j hj=>by omega⟩ ?_
      ·
       refine zb rfl ?_ ?_ ?_<;>simp only [zj,zi,push_cast,↓zK,↓zJ,↓reduceIte,zA,zB,zC,zD,zE,zF,zG,zH,zI,reduceCtorEq]
      ·rintro k ⟨hk,hall2⟩ KL1 hL1
       simp only [push_cast,↓zK,↓zJ,↓reduceIte,zA,zB,zC,zD,zE,zF,zG,zH,zI,reduceCtorEq]
       refine zL fun K hK=> ?_
       refine zM zQ zO [] rfl ?_
       all_goals simp only [push_cast,↓zK,↓zJ,↓reduceIte,zA,zB,zC,zD,zE,zF,zG,zH,zI,reduceCtorEq]
       all_goals repeat'(first|(apply zP<;>(intro hg;(try simp only [push_cast]at hg)))|apply And.intro|(intro hg;(try simp only [push_cast]at hg)))
       all_goals first|exact gA|(exact zN (by omega))|skip
       all_goals first|(refine hK _ ?_;clear hK K)|(simp only [push_cast];done)
       refine zL fun K6 hK6=> ?_
       refine zU rfl (fun hc=> ?_) (fun hc=> ?_)<;>(try simp only [push_cast]at hc)
       ·
        refine zV ?_
        (try simp only [zS,zT,reduceIte,zF]);refine hK6 _ ?_
        refine zL fun K7 hK7=> ?_
        refine zX ?_
        refine zL fun K hK=> ?_
        refine zM zQ zO [] rfl ?_
        all_goals simp only [push_cast,↓zK,↓zJ,↓reduceIte,zA,zB,zC,zD,zE,zF,zG,zH,zI,reduceCtorEq]
        all_goals repeat'(first|(apply zP<;>(intro hg;(try simp only [push_cast]at hg)))|apply And.intro|(intro hg;(try simp only [push_cast]at hg)))
        all_goals first|exact gA|(exact zN (by omega))|skip
        all_goals first|(refine hK _ ?_;clear hK K)|(simp only [push_cast];done)
        refine zL fun K hK=> ?_
        refine zf false zQ zO ?_ rfl ?_
        ·kernel_rfl
        all_goals simp only [push_cast,↓zK,↓zJ,↓reduceIte,zA,zB,zC,zD,zE,zF,zG,zH,zI,reduceCtorEq]
        all_goals repeat'(first|(apply zP<;>(intro hg;(try simp only [push_cast]at hg)))|apply And.intro|(intro hg;(try simp only [push_cast]at hg)))
        all_goals first|exact gA|(exact zN (by omega))|skip
        all_goals first|(refine hK _ ?_;clear hK K)|(simp only [push_cast];done)
        all_goals refine zU rfl (fun hc=> ?_) (fun hc=> ?_)
        all_goals(first|(cases hc;done)|skip)
        all_goals(try simp only [push_cast]at hc)
        all_goals try(
          refine zL fun K hK=> ?_
          refine zM zQ zO [] rfl ?_
          all_goals simp only [push_cast,↓zK,↓zJ,↓reduceIte,zA,zB,zC,zD,zE,zF,zG,zH,zI,reduceCtorEq]
          all_goals repeat'(first|(apply zP<;>(intro hg;(try simp only [push_cast]at hg)))|apply And.intro|(intro hg;(try simp only [push_cast]at hg)))
          all_goals first|exact gA|(exact zN (by omega))|skip
          all_goals first|(refine hK _ ?_;clear hK K)|(simp only [push_cast];done)
          refine za ?_
          (try simp only [zS,zT])
          refine⟨Or.inl rfl,?_⟩
          simp only [ze,push_cast,↓zK,↓zJ,↓reduceIte,zA,zB,zC,zD,zE,zF,zG,zH,zI,reduceCtorEq]
          symm
          exact WD (s:=s) (by omega) (Kx (v:=k) (by omega) (by omega))
          done)
        refine zV ?_
        (try simp only [zS,zT,reduceIte,zF]);refine hK7 _ ?_
        refine zM zQ zO [] rfl ?_
        all_goals simp only [push_cast,↓zK,↓zJ,↓reduceIte,zA,zB,zC,zD,zE,zF,zG,zH,zI,reduceCtorEq]
        all_goals repeat'(first|(apply zP<;>(intro hg;(try simp only [push_cast]at hg)))|apply And.intro|(intro hg;(try simp only [push_cast]at hg)))
        all_goals first|exact gA|(exact zN (by omega))|skip
        refine hL1 _ ⟨k+1,⟨by omega,fun j hj=>(by
          by_cases hjk:j=k
          ·subst hjk;omega
          ·exact hall2 j (by omega))⟩,by omega,?_⟩
        refine zb rfl ?_ ?_ ?_<;>simp only [zj,zi,push_cast,↓zK,↓zJ,↓reduceIte,zA,zB,zC,zD,zE,zF,zG,zH,zI,reduceCtorEq]
       ·
        refine zp ?_
        (try simp only [zS,zT,reduceIte,zF]);refine hK4 _ ?_
        refine zM zQ zO [] rfl ?_
        all_goals simp only [push_cast,↓zK,↓zJ,↓reduceIte,zA,zB,zC,zD,zE,zF,zG,zH,zI,reduceCtorEq]
        all_goals repeat'(first|(apply zP<;>(intro hg;(try simp only [push_cast]at hg)))|apply And.intro|(intro hg;(try simp only [push_cast]at hg)))
        all_goals first|exact gA|(exact zN (by omega))|skip
        refine hL0 _ ⟨s+1,⟨by omega,fun j hj=>(by
          by_cases hjs:j=s
          ·subst hjs;exact Ky (by omega) (by with_reducible assumption) fun v hv=>hall2 v (by omega)
          ·exact hall j (by omega))⟩,by omega,?_⟩
        refine zb rfl ?_ ?_ ?_<;>simp only [zj,zi,push_cast,↓zK,↓zJ,↓reduceIte,zA,zB,zC,zD,zE,zF,zG,zH,zI,reduceCtorEq]
      done)
    |(
      refine zL fun K hK=> ?_
      refine zM zQ zO [] rfl ?_
      all_goals simp only [push_cast,↓zK,↓zJ,↓reduceIte,zA,zB,zC,zD,zE,zF,zG,zH,zI,reduceCtorEq]
      all_goals repeat'(first|(apply zP<;>(intro hg;(try simp only [push_cast]at hg)))|apply And.intro|(intro hg;(try simp only [push_cast]at hg)))
      all_goals first|exact gA|(exact zN (by omega))|skip
      all_goals first|(refine hK _ ?_;clear hK K)|(simp only [push_cast];done)
      refine za ?_
      (try simp only [zS,zT])
      refine⟨Or.inl rfl,?_⟩
      simp only [ze,push_cast,↓zK,↓zJ,↓reduceIte,zA,zB,zC,zD,zE,zF,zG,zH,zI,reduceCtorEq]
      symm
      refine WD (s:=s) (by omega) ?_
      first|exact Kw (by omega)|exact Qd (by with_reducible assumption)
      done)
  ·
   refine zp ?_
   (try simp only [zS,zT,reduceIte,zF]);refine hK2 _ ?_
   refine zL fun K hK=> ?_
   refine zM zQ zO [] rfl ?_
   all_goals simp only [push_cast,↓zK,↓zJ,↓reduceIte,zA,zB,zC,zD,zE,zF,zG,zH,zI,reduceCtorEq]
   all_goals repeat'(first|(apply zP<;>(intro hg;(try simp only [push_cast]at hg)))|apply And.intro|(intro hg;(try simp only [push_cast]at hg)))
   all_goals first|exact gA|(exact zN (by omega))|skip
   all_goals first|(refine hK _ ?_;clear hK K)|(simp only [push_cast];done)
   refine za ?_
   (try simp only [zS,zT])
   refine⟨Or.inl rfl,?_⟩
   simp only [ze,push_cast,↓zK,↓zJ,↓reduceIte,zA,zB,zC,zD,zE,zF,zG,zH,zI,reduceCtorEq]
   symm
   exact uK (by omega) fun j hj=>hall j (by omega)
set_option maxRecDepth 20000 in
set_option maxHeartbeats 4000000 in
theorem jr (a:Ar)(ha:a.Ln 1048576)(m:Me)(hm:m.Ln 1048576):Fn Try.prog tyT 32 [.agg (dAr a), .agg (dMe m)] [.c (.bool (ym a&&vh a m))]:=by
 have hmr: ∀s,(gl m.next s).length≤1048576:=fun s=>wx hm.next s
 have hmc: ∀s,(gl m.choice s).length≤1048576:=fun s=>wx hm.choice s
 have hm1:=hm.next.1
 have hm2:=hm.choice.1
 have hno:=ha.owner
 unfold LnI at hno
 have hA:=uz a ha
 have hR:=fun h k hk s=>zCB a ha h (gl m.next s) (gl m.choice s) (hmr s) (hmc s) k hk
 unfold dAr at hA hR
 unfold dAr dMe
 refine yC (fn:=Try.f32) (ts:= [4]) Try.func32 (by kernel_rfl) rfl rfl (by rw [Try.ntmps32];exact Nat.le_of_ble_eq_true rfl) rfl (by simp only [szA,List.mem_cons,List.not_mem_nil,or_false,forall_eq_or_imp,forall_eq,VT.cells,szL];try decide) ?_
 rw [Try.ntmps32]
 simp only [push_cast,↓zK,↓zJ,↓reduceIte,zA,zB,zC,zD,zE,zF,zG,zH,zI,reduceCtorEq]
 refine zL fun K hK=> ?_
 refine zM zQ zO [] rfl ?_
 all_goals simp only [push_cast,↓zK,↓zJ,↓reduceIte,zA,zB,zC,zD,zE,zF,zG,zH,zI,reduceCtorEq]
 all_goals repeat'(first|(apply zP<;>(intro hg;(try simp only [push_cast]at hg)))|apply And.intro|(intro hg;(try simp only [push_cast]at hg)))
 all_goals first|exact gA|(exact zN (by omega))|skip
 all_goals first|(refine hK _ ?_;clear hK K)|(simp only [push_cast];done)
 refine zL fun K hK=> ?_
 refine zM zQ zO [] rfl ?_
 all_goals simp only [push_cast,↓zK,↓zJ,↓reduceIte,zA,zB,zC,zD,zE,zF,zG,zH,zI,reduceCtorEq]
 all_goals repeat'(first|(apply zP<;>(intro hg;(try simp only [push_cast]at hg)))|apply And.intro|(intro hg;(try simp only [push_cast]at hg)))
 all_goals first|exact gA|(exact zN (by omega))|skip
 all_goals first|(refine hK _ ?_;clear hK K)|(simp only [push_cast];done)
 refine zL fun K1 hK1=> ?_
 refine zL fun K hK=> ?_
 refine zf false zQ zO ?_ rfl ?_
 ·kernel_rfl
 all_goals refine yE 2 fun K9 hK9=> ?_
 all_goals simp only [push_cast,↓zK,↓zJ,↓reduceIte,zA,zB,zC,zD,zE,zF,zG,zH,zI,reduceCtorEq]
 all_goals repeat'(first|(apply zP<;>(intro hg;(try simp only [push_cast]at hg)))|(refine⟨_,hA,?_⟩;simp only [push_cast,↓zK,↓zJ,↓reduceIte,zA,zB,zC,zD,zE,zF,zG,zH,zI,reduceCtorEq])|(refine⟨_,yM _ _ _,?_⟩;simp only [push_cast,↓zK,↓zJ,↓reduceIte,zA,zB,zC,zD,zE,zF,zG,zH,zI,reduceCtorEq])|apply And.intro|(intro hg;(try simp only [push_cast]at hg)))
 all_goals first|exact gA|(exact zN (by omega))|skip
 all_goals first|(refine hK9 _ ?_;clear hK9 K9)|(simp only [push_cast];done)
 all_goals refine yE 4 fun K9 hK9=> ?_
 all_goals simp only [push_cast,↓zK,↓zJ,↓reduceIte,zA,zB,zC,zD,zE,zF,zG,zH,zI,reduceCtorEq]
 all_goals repeat'(first|(apply zP<;>(intro hg;(try simp only [push_cast]at hg)))|(refine⟨_,hA,?_⟩;simp only [push_cast,↓zK,↓zJ,↓reduceIte,zA,zB,zC,zD,zE,zF,zG,zH,zI,reduceCtorEq])|(refine⟨_,yM _ _ _,?_⟩;simp only [push_cast,↓zK,↓zJ,↓reduceIte,zA,zB,zC,zD,zE,zF,zG,zH,zI,reduceCtorEq])|apply And.intro|(intro hg;(try simp only [push_cast]at hg)))
 all_goals first|exact gA|(exact zN (by omega))|skip
 all_goals first|(refine hK9 _ ?_;clear hK9 K9)|(simp only [push_cast];done)
 all_goals simp only [push_cast,↓zK,↓zJ,↓reduceIte,zA,zB,zC,zD,zE,zF,zG,zH,zI,reduceCtorEq]
 all_goals repeat'(first|(apply zP<;>(intro hg;(try simp only [push_cast]at hg)))|(refine⟨_,hA,?_⟩;simp only [push_cast,↓zK,↓zJ,↓reduceIte,zA,zB,zC,zD,zE,zF,zG,zH,zI,reduceCtorEq])|(refine⟨_,yM _ _ _,?_⟩;simp only [push_cast,↓zK,↓zJ,↓reduceIte,zA,zB,zC,zD,zE,zF,zG,zH,zI,reduceCtorEq])|apply And.intro|(intro hg;(try simp only [push_cast]at hg)))
 all_goals first|exact gA|(exact zN (by omega))|skip
 all_goals first|(refine hK _ ?_;clear hK K)|(simp only [push_cast];done)
 all_goals refine zU rfl (fun hc=> ?_) (fun hc=> ?_)
 all_goals(first|(cases hc;done)|skip)
 all_goals(try simp only [push_cast]at hc)
 all_goals try(
   refine zL fun K hK=> ?_
   refine zM zQ zO [] rfl ?_
   all_goals simp only [push_cast,↓zK,↓zJ,↓reduceIte,zA,zB,zC,zD,zE,zF,zG,zH,zI,reduceCtorEq]
   all_goals repeat'(first|(apply zP<;>(intro hg;(try simp only [push_cast]at hg)))|apply And.intro|(intro hg;(try simp only [push_cast]at hg)))
   all_goals first|exact gA|(exact zN (by omega))|skip
   all_goals first|(refine hK _ ?_;clear hK K)|(simp only [push_cast];done)
   refine za ?_
   (try simp only [zS,zT])
   refine⟨Or.inl rfl,?_⟩
   simp only [ze,push_cast,↓zK,↓zJ,↓reduceIte,zA,zB,zC,zD,zE,zF,zG,zH,zI,reduceCtorEq]
   symm
   first|(rw [show ym a=false from by with_reducible assumption];rfl)|(rw [uJ (by omega),Bool.and_false])
   done)
 refine zV ?_
 (try simp only [zS,zT,reduceIte,zF]);refine hK1 _ ?_
 refine zL fun K2 hK2=> ?_
 have hok:ym a=true:=by with_reducible assumption
 refine zL fun K hK=> ?_
 refine zM zQ zO [] rfl ?_
 all_goals simp only [push_cast,↓zK,↓zJ,↓reduceIte,zA,zB,zC,zD,zE,zF,zG,zH,zI,reduceCtorEq]
 all_goals repeat'(first|(apply zP<;>(intro hg;(try simp only [push_cast]at hg)))|apply And.intro|(intro hg;(try simp only [push_cast]at hg)))
 all_goals first|exact gA|(exact zN (by omega))|skip
 all_goals first|(refine hK _ ?_;clear hK K)|(simp only [push_cast];done)
 refine zX ?_
 refine zn [4,6,13,18,27,28,29,30,31,32,33,34,35,36,37,38,39,40,41,42,43,44,45] [] (fun(s:Nat)=> [(6, .int .i64 s)]) (fun s=> []) (fun s=> []) (fun s=>s≤m.next.length∧∀j,j<s→qK a (gl m.next j) (gl m.choice j) m.next.length=true) (fun s=>m.next.length - s) 0 ?_ ⟨by omega,fun j hj=>by omega⟩ ?_
 ·
  refine zb rfl ?_ ?_ ?_<;>simp only [zj,zi,push_cast,↓zK,↓zJ,↓reduceIte,zA,zB,zC,zD,zE,zF,zG,zH,zI,reduceCtorEq]
 ·rintro s ⟨hs,hall⟩ KL0 hL0
  have hrs:=hmr s
  have hcs:=hmc s
  simp only [push_cast,↓zK,↓zJ,↓reduceIte,zA,zB,zC,zD,zE,zF,zG,zH,zI,reduceCtorEq]
  refine zL fun K3 hK3=> ?_
  refine zL fun K hK=> ?_
  refine zM zQ zO [] rfl ?_
  all_goals simp only [push_cast,↓zK,↓zJ,↓reduceIte,zA,zB,zC,zD,zE,zF,zG,zH,zI,reduceCtorEq]
  all_goals repeat'(first|(apply zP<;>(intro hg;(try simp only [push_cast]at hg)))|apply And.intro|(intro hg;(try simp only [push_cast]at hg)))
  all_goals first|exact gA|(exact zN (by omega))|skip
  all_goals first|(refine hK _ ?_;clear hK K)|(simp only [push_cast];done)
  refine zU rfl (fun hc=> ?_) (fun hc=> ?_)<;>(try simp only [push_cast]at hc)
  ·
   refine zV ?_
   (try simp only [zS,zT,reduceIte,zF]);refine hK3 _ ?_
   refine zL fun K4 hK4=> ?_
   refine zX ?_
   refine zL fun K hK=> ?_
   refine yu false zQ zO qM ?_ rfl ?_
   ·kernel_rfl
   intro E hE
   all_goals refine vL 13 (by decide) fun K9 hK9=> ?_
   all_goals simp only [push_cast,↓zK,↓zJ,↓reduceIte,zA,zB,zC,zD,zE,zF,zG,zH,zI,reduceCtorEq]
   all_goals repeat'(first|(apply zP<;>(intro hg;(try simp only [push_cast]at hg)))|(refine⟨_,hR (yi hok).2.2 _ (by omega) s,?_⟩;simp only [push_cast,↓zK,↓zJ,↓reduceIte,zA,zB,zC,zD,zE,zF,zG,zH,zI,reduceCtorEq])|apply And.intro|(intro hg;(try simp only [push_cast]at hg)))
   all_goals first|exact gA|(exact zN (by omega))|skip
   all_goals first|(refine hK9 _ _ ?_;clear hK9 K9)|(simp only [push_cast];done)
   all_goals simp only [push_cast,↓zK,↓zJ,↓reduceIte,zA,zB,zC,zD,zE,zF,zG,zH,zI,reduceCtorEq]
   all_goals repeat'(first|(apply zP<;>(intro hg;(try simp only [push_cast]at hg)))|(refine⟨_,hR (yi hok).2.2 _ (by omega) s,?_⟩;simp only [push_cast,↓zK,↓zJ,↓reduceIte,zA,zB,zC,zD,zE,zF,zG,zH,zI,reduceCtorEq])|apply And.intro|(intro hg;(try simp only [push_cast]at hg)))
   all_goals first|exact gA|(refine hE _ _ ?_ ?_;kernel_rfl)|(exact zN (by omega))|skip
   all_goals clear hE E
   all_goals first|(refine hK _ ?_;clear hK K)|(simp only [push_cast];done)
   refine zU rfl (fun hc=> ?_) (fun hc=> ?_)<;>(try simp only [push_cast]at hc)
   ·
    refine zL fun K hK=> ?_
    refine zM zQ zO [] rfl ?_
    all_goals simp only [push_cast,↓zK,↓zJ,↓reduceIte,zA,zB,zC,zD,zE,zF,zG,zH,zI,reduceCtorEq]
    all_goals repeat'(first|(apply zP<;>(intro hg;(try simp only [push_cast]at hg)))|apply And.intro|(intro hg;(try simp only [push_cast]at hg)))
    all_goals first|exact gA|(exact zN (by omega))|skip
    all_goals first|(refine hK _ ?_;clear hK K)|(simp only [push_cast];done)
    refine za ?_
    (try simp only [zS,zT])
    refine⟨Or.inl rfl,?_⟩
    simp only [ze,push_cast,↓zK,↓zJ,↓reduceIte,zA,zB,zC,zD,zE,zF,zG,zH,zI,reduceCtorEq]
    rw [WD (s:=s) (by omega) (by with_reducible assumption),Bool.and_false]
   ·
    refine zV ?_
    (try simp only [zS,zT,reduceIte,zF]);refine hK4 _ ?_
    refine zM zQ zO [] rfl ?_
    all_goals simp only [push_cast,↓zK,↓zJ,↓reduceIte,zA,zB,zC,zD,zE,zF,zG,zH,zI,reduceCtorEq]
    all_goals repeat'(first|(apply zP<;>(intro hg;(try simp only [push_cast]at hg)))|apply And.intro|(intro hg;(try simp only [push_cast]at hg)))
    all_goals first|exact gA|(exact zN (by omega))|skip
    refine hL0 _ ⟨s+1,⟨by omega,fun j hj=>(by
      by_cases hjs:j=s
      ·subst hjs;with_reducible assumption
      ·exact hall j (by omega))⟩,by omega,?_⟩
    refine zb rfl ?_ ?_ ?_<;>simp only [zj,zi,push_cast,↓zK,↓zJ,↓reduceIte,zA,zB,zC,zD,zE,zF,zG,zH,zI,reduceCtorEq]
  ·
   refine zp ?_
   (try simp only [zS,zT,reduceIte,zF]);refine hK2 _ ?_
   refine zL fun K hK=> ?_
   refine zM zQ zO [] rfl ?_
   all_goals simp only [push_cast,↓zK,↓zJ,↓reduceIte,zA,zB,zC,zD,zE,zF,zG,zH,zI,reduceCtorEq]
   all_goals repeat'(first|(apply zP<;>(intro hg;(try simp only [push_cast]at hg)))|apply And.intro|(intro hg;(try simp only [push_cast]at hg)))
   all_goals first|exact gA|(exact zN (by omega))|skip
   all_goals first|(refine hK _ ?_;clear hK K)|(simp only [push_cast];done)
   refine za ?_
   (try simp only [zS,zT])
   refine⟨Or.inl rfl,?_⟩
   simp only [ze,push_cast,↓zK,↓zJ,↓reduceIte,zA,zB,zC,zD,zE,zF,zG,zH,zI,reduceCtorEq]
   rw [hok,uK (by omega) fun j hj=>hall j (by omega)];rfl
theorem Xl : ∀(N:Nat) (l:List Nat),l.Nodup→(∀x∈l,x<N)→l.length≤N
 |0,l,_,h=>by
  cases l with
  |nil=>simp
  |cons x l=>have :=h x List.mem_cons_self;omega
 |N+1,l,hn,h=>by
  have h1:=List.length_eq_countP_add_countP (p:=fun x=>x==N) (l:=l)
  have h2:l.countP (fun x=>x==N)≤1:=List.nodup_iff_count.1 hn N
  have h4:=Xl N (l.filter (fun x=> !(x==N))) (hn.filter _) fun x hx=>by
   have h5:=List.mem_filter.1 hx
   have h6:=h x h5.1
   have h7: ¬x=N:=by simpa using h5.2
   omega
  have h3:(l.filter (fun x=> !(x==N))).length=l.countP (fun x=> !(x==N)):=(List.countP_eq_length_filter ..).symm
  have h8:l.countP (fun x=>decide ¬(x==N)=true)=l.countP (fun x=> !(x==N)):=by
   congr 1
   funext x
   by_cases e:x=N<;>simp [e]
  omega
theorem vY {xs:List Int}{y:Int}{j:Nat}(h:j<xs.length+1):gi (xs++ [y]) j=if j=xs.length then y else gi xs j:=by
 by_cases e:j=xs.length
 ·subst e;rw [if_pos rfl,QY]
 ·rw [if_neg e,QX (by omega)]
def goP (a:Ar)(even odd:List Int)(v:Int):Int:=if gi a.owner v.toNat=0 then gi even v.toNat else gi odd v.toNat
structure Vp (a:Ar)(even odd:List Int)(v0:Int)(met:List Int)(v:Int):Prop where
 rg: ∀j,j<met.length→0≤gi met j∧gi met j<a.owner.length
 ne: ∀j,j<met.length→∀i,i<j→¬gi met i=gi met j
 go: ∀j,j+1<met.length→gi met (j+1)=goP a even odd (gi met j)
 last:1≤met.length→v=goP a even odd (gi met (met.length - 1))
 f0:met.length=0→v=v0
 f1:1≤met.length→gi met 0=v0
 hv:0≤v∧v<a.owner.length
theorem Vp.start {a:Ar}{even odd:List Int}{v0:Int}(h:0≤v0∧v0<a.owner.length):Vp a even odd v0 [] v0:=
 ⟨fun j hj=>by simp at hj,fun j hj=>by simp at hj,fun j hj=>by simp at hj,fun h=>by simp at h,fun _=>rfl,fun h=>by simp at h,h⟩
theorem Vp.next {a:Ar}{even odd:List Int}{v0:Int}{met:List Int}{v:Int}(h:Vp a even odd v0 met v)(hn:yR met v=false)(hg:0≤goP a even odd v∧goP a even odd v<a.owner.length):Vp a even odd v0 (met++ [v]) (goP a even odd v):=by
 have hne: ∀i,i<met.length→¬gi met i=v:=fun i hi e=>by
  have h1:v∈met:=by rw [←e];exact List.mem_of_getElem? (ZY hi)
  rw [←Xb]at h1
  rw [h1]at hn
  cases hn
 have hl:(met++ [v]).length=met.length+1:=by simp
 refine⟨fun j hj=> ?_,fun j hj i hi=> ?_,fun j hj=> ?_,fun _=> ?_,fun e=>by rw [hl]at e;omega,fun _=> ?_,hg⟩
 ·rw [hl]at hj
  rw [vY hj]
  split
  ·exact h.hv
  ·exact h.rg j (by omega)
 ·rw [hl]at hj
  rw [vY hj,vY (by omega),if_neg (by omega)]
  split
  ·exact hne i (by omega)
  ·exact h.ne j (by omega) i hi
 ·rw [hl]at hj
  rw [vY (j:=j+1) (by omega),vY (j:=j) (by omega),if_neg (show ¬j=met.length by omega)]
  split
  ·have h5:=h.last (by omega)
   rw [show met.length - 1=j from by omega]at h5
   exact h5
  ·exact h.go j (by omega)
 ·rw [hl,Nat.add_sub_cancel,vY (j:=met.length) (by omega),if_pos rfl]
 ·rw [vY (by omega)]
  split
  ·exact h.f0 (by omega)
  ·exact h.f1 (by omega)
theorem jA {f:Nat→Nat}: ∀n,(∀i j,i<j→j<n→f i≠f j)→((List.range n).map f).Nodup
 |0,_=>by simp
 |n+1,h=>by
  rw [List.range_succ,List.map_append,List.nodup_append]
  refine⟨jA n fun i j hij hj=>h i j hij (by omega),by simp,fun x hx y hy=> ?_⟩
  obtain⟨i,hi,rfl⟩:=List.mem_map.1 hx
  have hy2:y=f n:=by simpa using hy
  rw [hy2]
  exact h i n (List.mem_range.1 hi) (by omega)
theorem Vp.le {a:Ar}{even odd:List Int}{v0:Int}{met:List Int}{v:Int}(h:Vp a even odd v0 met v):met.length≤a.owner.length:=by
 have hl:((List.range met.length).map fun j=>(gi met j).toNat).length=met.length:=by simp
 rw [←hl]
 refine Xl _ _ (jA _ fun i j hij hj=> ?_) fun x hx=> ?_
 ·have h1:=h.ne j hj i hij
  have h2:=h.rg i (by omega)
  have h3:=h.rg j hj
  omega
 ·obtain⟨j,hj,rfl⟩:=List.mem_map.1 hx
  have :=h.rg j (List.mem_range.1 hj)
  omega
structure PlayP (a:Ar)(even odd:List Int)(v0:Int)(l:Ls):Prop where
 ok:zGi a l=true
 first:gi (Xy l) 0=v0
 rg: ∀i,i≤l.stem.length+l.loop.length→0≤gi (Xy l) i∧gi (Xy l) i<a.owner.length
 go: ∀i,i<l.stem.length+l.loop.length→gi (Xy l) (i+1)=goP a even odd (gi (Xy l) i)
 last:gi (Xy l) (l.stem.length+l.loop.length)=gi (Xy l) l.stem.length
 pos:1≤l.loop.length
 len:l.stem.length+l.loop.length≤a.owner.length
theorem zDj {path st:List Int}{n S:Nat}(hn:n≤256)(hS:S≤24)(h1: ∀j,j<path.length→(0≤gi path j∧gi path j<n)∧0≤gi st j∧gi st j<S)(h2: ∀j,j<path.length→∀i,i<j→¬(gi path i=gi path j∧gi st i=gi st j)):path.length≤6144:=by
 have hl:((List.range path.length).map fun j=>(gi path j).toNat+256*(gi st j).toNat).length=path.length:=by simp
 rw [←hl]
 refine Xl 6144 _ ?_ fun x hx=> ?_
 ·refine List.pairwise_iff_getElem.2 fun i j hi hj hij=> ?_
  rw [hl]at hi hj
  simp only [List.getElem_map,List.getElem_range]
  have a1:=h1 i hi
  have a2:=h1 j hj
  have a3:=h2 j hj i hij
  intro e
  exact a3 (by omega)
 ·obtain⟨j,hj,rfl⟩:=List.mem_map.1 hx
  have a1:=h1 j (List.mem_range.1 hj)
  omega
structure WM (a:Ar)(m:Me)(path st:List Int)(v s:Int):Prop where
 len:st.length=path.length
 rg: ∀j,j<path.length→(0≤gi path j∧gi path j<a.owner.length)∧0≤gi st j∧gi st j<m.next.length
 ne: ∀j,j<path.length→∀i,i<j→¬(gi path i=gi path j∧gi st i=gi st j)
 hv:0≤v∧v<a.owner.length
 hs:0≤s∧s<m.next.length
theorem WM.next {a:Ar}{m:Me}{path st:List Int}{v s:Int}(h:WM a m path st v s)(hno: ∀j,j<path.length→¬(gi path j=v∧gi st j=s)){v' s':Int}(hv:0≤v'∧v'<a.owner.length)(hs:0≤s'∧s'<m.next.length):WM a m (path++ [v]) (st++ [s]) v' s':=by
 have hl:=h.len
 refine⟨by simp [hl],fun j hj=> ?_,fun j hj i hi=> ?_,hv,hs⟩
 ·rw [List.length_append]at hj
  have hj:j<path.length+1:=hj
  rw [vY hj,vY (by omega),hl]
  split
  ·exact⟨h.hv,h.hs⟩
  ·exact h.rg j (by omega)
 ·rw [List.length_append]at hj
  have hj:j<path.length+1:=hj
  have e1:gi (path++ [v]) i=gi path i:=QX (by omega)
  have e2:gi (st++ [s]) i=gi st i:=QX (by omega)
  rw [e1,e2]
  by_cases e:j=path.length
  ·subst e
   rw [QY]
   have e3:gi (st++ [s]) path.length=s:=by rw [←hl];exact QY
   rw [e3]
   exact hno i (by omega)
  ·have e3:gi (path++ [v]) j=gi path j:=QX (by omega)
   have e4:gi (st++ [s]) j=gi st j:=QX (by omega)
   rw [e3,e4]
   exact h.ne j (by omega) i hi
theorem WM.le {a:Ar}{m:Me}{path st:List Int}{v s:Int}(h:WM a m path st v s)(hn:a.owner.length≤256)(hS:m.next.length≤24):path.length≤6144:=zDj hn hS h.rg h.ne
theorem vb {a:Ar}{m:Me}(h:vh a m=true):(1≤m.next.length∧m.next.length≤24∧m.choice.length=m.next.length)∧∀s,s<m.next.length→(gl m.next s).length=a.owner.length∧vc a 0 (gl m.choice s)=true∧∀v,v<(gl m.next s).length→0≤gi (gl m.next s) v∧gi (gl m.next s) v<m.next.length:=by
 unfold vh at h
 rw [Bool.and_eq_true,decide_eq_true_eq]at h
 refine⟨h.1,fun s hs=> ?_⟩
 have h2:=vy (p:=fun s=>qK a (gl m.next s) (gl m.choice s) m.next.length) h.2 hs
 unfold qK at h2
 rw [Bool.and_eq_true,Bool.and_eq_true,decide_eq_true_eq]at h2
 exact⟨h2.1,h2.2.1,fun v hv=>of_decide_eq_true (vy (p:=fun v=>decide (0≤gi (gl m.next s) v∧gi (gl m.next s) v<(m.next.length:Int))) h2.2.2 hv)⟩
section
variable {P:Program} {τ:Ty} {lo:Nat} {w0:Fz} {ow:Nat→Option Pl} {hd:Nat→Value} {bk:Nat→Nat} {st:St} {a:Act} {w:World}
end
section
variable {P:Program} {τ:Ty} {lo:Nat} {w0:Fz} {ow:Nat→Option Pl} {hd:Nat→Value} {bk:Nat→Nat} {st:St} {a:Act} {w:World}
end
abbrev MD :=List ((Int×Int)×Int)
def mapE (x:(Int×Int)×Int)(i:Nat):MapEntry:={key:= .agg #[.int .i64 x.1.1, .int .i64 x.1.2],val:= .int .i64 x.2,born:=i}
def ZO :MD→Nat→List MapEntry
 | [],_=> []
 |x::xs,i=>mapE x i::ZO xs (i+1)
def qt (m:MD):Obj:= .map (ZO m 0).toArray m.length
theorem uI : ∀(m:MD) (x:(Int×Int)×Int) (i:Nat),ZO (m++ [x]) i=ZO m i++ [mapE x (i+m.length)]
 | [],x,i=>rfl
 |y::m,x,i=>by
  simp only [List.cons_append,ZO,uI m x (i+1),List.length_cons,List.cons.injEq,true_and]
  rw [show i+1+m.length=i+(m.length+1) by omega]
def lkM :MD→Int×Int→Option Int
 | [],_=>none
 |x::m,k=>if k=x.1 then some x.2 else lkM m k
def ixM :MD→Int×Int→Nat→Nat
 | [],_,i=>i
 |x::m,k,i=>if k=x.1 then i else ixM m k (i+1)
structure yc (P:Program)(ta te tm:TypeId):Prop where
 ua:P.underlying ta=some (.array 2 te)
 ue:P.underlying te=some (.int .i64)
 um:P.underlying tm=some (.map ta te)
 ia: ∃i,P.info? ta=some i∧i.size=2∧i.zero=some (.agg #[.int .i64 0, .int .i64 0])
 ie: ∃i,P.info? te=some i∧i.size=1∧i.zero=some (.int .i64 0)
section
variable {P:Program} {ta te tm:TypeId} {w:World}
theorem yc.agg (h:yc P ta te tm):(isAgg ta).run P w= .ok true w:=by
 unfold isAgg
 rw [Sem.run_bind,run_underlying h.ua,Result.andThen_ok]
 simp
theorem yc.eagg (h:yc P ta te tm):(isAgg te).run P w= .ok false w:=by
 unfold isAgg
 rw [Sem.run_bind,run_underlying h.ue,Result.andThen_ok]
 simp
theorem yc.size (h:yc P ta te tm):(sizeOf ta).run P w= .ok 2 w:=by
 obtain⟨i,hi,h1,-⟩:=h.ia
 simp [sizeOf,typeInfo,hi,h1]
theorem yc.esize (h:yc P ta te tm):(sizeOf te).run P w= .ok 1 w:=by
 obtain⟨i,hi,h1,-⟩:=h.ie
 simp [sizeOf,typeInfo,hi,h1]
theorem yc.zero (h:yc P ta te tm):(zeroValue ta).run P w= .ok (.agg #[.int .i64 0, .int .i64 0]) w:=by
 obtain⟨i,hi,-,h1⟩:=h.ia
 simp [zeroValue,typeInfo,hi,h1]
theorem yc.ezero (h:yc P ta te tm):(zeroValue te).run P w= .ok (.int .i64 0) w:=by
 obtain⟨i,hi,-,h1⟩:=h.ie
 simp [zeroValue,typeInfo,hi,h1]
theorem yc.part (h:yc P ta te tm){xs:Array Value}{i:Nat}{v:Value}(hx:xs[i]? =some v):(part te xs i).run P w= .ok v w:=by
 unfold Go.part
 rw [Sem.run_bind,h.eagg,Result.andThen_ok]
 simp [hx]
theorem yc.echeck (h:yc P ta te tm)(em:Bool)(n:Nat)(k:IntKind)(x:Int):(Instr.checkKey em (n+1) te (.int k x)).run P w= .ok () w:=by
 unfold Instr.checkKey
 rw [Sem.run_bind,run_underlying h.ue,Result.andThen_ok]
 simp
theorem yc.check (h:yc P ta te tm)(em:Bool)(a b:Int):(Instr.checkKey em 10000 ta (.agg #[.int .i64 a, .int .i64 b])).run P w= .ok () w:=by
 rw [show(10000:Nat)=9999+1 from rfl]
 unfold Instr.checkKey
 rw [Sem.run_bind,run_underlying h.ua,Result.andThen_ok]
 have p0:=h.part (w:=w) (i:=0) (v:= .int .i64 a) (xs:= #[.int .i64 a, .int .i64 b]) rfl
 have p1:=h.part (w:=w) (i:=1) (v:= .int .i64 b) (xs:= #[.int .i64 a, .int .i64 b]) rfl
 have c0:=h.echeck (w:=w) em 9998 .i64 a
 have c1:=h.echeck (w:=w) em 9998 .i64 b
 have es:=h.esize (w:=w)
 simp [show List.range' 0 2= [0,1]from rfl,Sem.run_bind,es,p0,p1,c0,c1,Result.andThen]
theorem yc.eq (h:yc P ta te tm)(a b c d:Int):(Op.equal ta (.agg #[.int .i64 a, .int .i64 b]) (.agg #[.int .i64 c, .int .i64 d])).run P w= .ok (decide ((a,b)=(c,d))) w:=by
 unfold Op.equal
 rw [show Op.maxDepth=9998+1+1 from rfl]
 unfold Op.equalIn
 rw [Sem.run_bind,run_underlying h.ua,Result.andThen_ok]
 have h1: ∀x y:Int,(Op.equalIn (9998+1) te (.int .i64 x) (.int .i64 y)).run P w= .ok (x==y) w:=fun x y=>run_equalIn_int w 9998 te .i64 .i64 x y h.ue
 simp [h.esize,h.part (i:=0) (v:= .int .i64 a) (xs:= #[.int .i64 a, .int .i64 b]) rfl,h.part (i:=1) (v:= .int .i64 b) (xs:= #[.int .i64 a, .int .i64 b]) rfl,h.part (i:=0) (v:= .int .i64 c) (xs:= #[.int .i64 c, .int .i64 d]) rfl,h.part (i:=1) (v:= .int .i64 d) (xs:= #[.int .i64 c, .int .i64 d]) rfl,h1,Result.andThen,show List.range' 0 2= [0,1]from rfl]
 have p1:=h.part (w:=w) (i:=1) (v:= .int .i64 b) (xs:= #[.int .i64 a, .int .i64 b]) rfl
 have p2:=h.part (w:=w) (i:=1) (v:= .int .i64 d) (xs:= #[.int .i64 c, .int .i64 d]) rfl
 have h2:(Op.equalIn 9999 te (.int .i64 b) (.int .i64 d)).run P w= .ok (b==d) w:=h1 b d
 by_cases hac:a=c
 ·subst hac
  by_cases hbd:b=d
  ·subst hbd
   rw [beq_self_eq_true]at h2
   simp [Sem.run_bind,p1,h2,Result.andThen]
  ·rw [beq_eq_false_iff_ne.2 hbd]at h2
   simp [Sem.run_bind,p1,p2,h2,hbd,Result.andThen]
 ·simp [hac,Sem.run_bind,Result.andThen]
theorem yc.asks (h:yc P ta te tm)(k:Int×Int): ∀(m:MD) (i j:Nat),(Instr.findAsking ta (.agg #[.int .i64 k.1, .int .i64 k.2]) (ZO m j) i).run P w= .ok ((lkM m k).map fun v=>(ixM m k i, .int .i64 v)) w
 | [],i,j=>by simp [Instr.findAsking,ZO,lkM]
 |x::m,i,j=>by
  simp only [ZO,Instr.findAsking,mapE]
  rw [Sem.run_bind,h.eq,Result.andThen_ok]
  simp only [lkM,ixM]
  by_cases e:k=x.1
  ·have :((k.1,k.2):Int×Int)=(x.1.1,x.1.2):=e
   rw [decide_eq_true this,if_pos e,if_pos e]
   simp
  ·have : ¬((k.1,k.2):Int×Int)=(x.1.1,x.1.2):=e
   rw [decide_eq_false this,if_neg e,if_neg e]
   simp only [Bool.false_eq_true,if_false]
   exact h.asks k m (i+1) (j+1)
theorem yc.finds (h:yc P ta te tm)(k:Int×Int)(m:MD)(j:Nat):(Instr.findKey ta (.agg #[.int .i64 k.1, .int .i64 k.2]) (ZO m j)).run P w= .ok ((lkM m k).map fun v=>(ixM m k 0, .int .i64 v)) w:=by
 unfold Instr.findKey
 rw [Sem.run_bind,run_underlying h.ua,Result.andThen_ok]
 cases m with
 |nil=>simp [ZO,Instr.findNow,lkM]
 |cons x m=>
  have :=h.asks (w:=w) k (x::m) 0 j
  simp only [ZO,Instr.findNow,Instr.sameNow]at this⊢
  exact this
theorem yc.look (h:yc P ta te tm){r:Nat}{m:MD}(hr:w.heap[r]? =some (qt m))(k:Int×Int):
  (Instr.lookup tm (.map (some r)) (.agg #[.int .i64 k.1, .int .i64 k.2]) true).run P w= .ok (.tuple #[.int .i64 ((lkM m k).getD 0), .bool (lkM m k).isSome]) w:=by
 have hf:=h.finds (w:=w) k m 0
 have hg:=MapKept.run_getObj_map (P:=P) hr
 have hc:=h.check (w:=w) (ZO m 0).toArray.isEmpty k.1 k.2
 unfold Instr.lookup
 rw [Sem.run_bind,run_underlying h.um,Result.andThen_ok]
 simp only [Sem.run_bind,hg,Result.andThen_ok,Sem.run_pure,hc,hf]
 cases hl:lkM m k with
 |none=>simp [h.ezero,Sem.run_bind,Result.andThen]
 |some v=>simp [Sem.run_bind,Result.andThen]
theorem yc.upd (h:yc P ta te tm){r:Nat}{m:MD}(hr:w.heap[r]? =some (qt m))(k:Int×Int)(v:Int)(hk:lkM m k=none):
  (Instr.mapUpdate tm (.map (some r)) (.agg #[.int .i64 k.1, .int .i64 k.2]) (.int .i64 v)).run P w= .ok () {w with heap:=w.heap.setIfInBounds r (qt (m++ [(k,v)]))}:=by
 have hf:=h.finds (w:=w) k m 0
 have hg:=MapKept.run_getObj_map (P:=P) hr
 have hc:=h.check (w:=w) false k.1 k.2
 have hs:=fun o=>MapKept.run_setObj_map (P:=P) o hr
 unfold Instr.mapUpdate
 rw [Sem.run_bind,run_underlying h.um,Result.andThen_ok]
 simp only [Sem.run_bind,hg,Result.andThen_ok,hc,hf,hk,Option.map_none]
 rw [hs]
 simp [qt,uI,mapE]
end
def chM (a:Ar)(m:Me)(p:Plc):Int:=gi (gl m.choice (gi p.record 0).toNat) p.at_.toNat
def usM (a:Ar)(m:Me)(p:Plc):List Int:=if gi a.owner p.at_.toNat=0 then(if chM a m p<0 then []else [chM a m p])else gl a.next p.at_.toNat
def ntM (m:Me)(p:Plc):Int:=gi (gl m.next (gi p.record 0).toNat) p.at_.toNat
def rcM (m:Me)(p:Plc):List Int:= [ntM m p]
theorem JU {a:Ar}{m:Me}{p:Plc}(h:gi a.owner p.at_.toNat=0)(h2:chM a m p<0):usM a m p= []:=by unfold usM;rw [if_pos h,if_pos h2]
theorem VP {a:Ar}{m:Me}{p:Plc}(h:gi a.owner p.at_.toNat=0)(h2: ¬chM a m p<0):usM a m p= [chM a m p]:=by unfold usM;rw [if_pos h,if_neg h2]
theorem XI {a:Ar}{m:Me}{p:Plc}(h: ¬gi a.owner p.at_.toNat=0):usM a m p=gl a.next p.at_.toNat:=by unfold usM;rw [if_neg h]
def stM (a:Ar)(m:Me)(s:Int)(i:Nat):List Plc:=stQ (usM a m) (rcM m) ⟨s,[0]⟩ i
def rwM (a:Ar)(m:Me)(s:Int)(i:Nat):List Int:=(zh (rcM m (gq (stM a m s i) i)) (usM a m (gq (stM a m s i) i)) (stM a m s i) (usM a m (gq (stM a m s i) i)).length).2
def rsM (a:Ar)(m:Me)(s:Int)(n:Nat):List (List Int):=(List.range n).map (rwM a m s)
theorem wo (a:Ar)(m:Me)(s:Int)(n:Nat):(rsM a m s n).length=n:=by simp [rsM]
theorem zEX (a:Ar)(m:Me)(s:Int):rsM a m s 0= []:=rfl
theorem jg (a:Ar)(m:Me)(s:Int)(n:Nat):rsM a m s (n+1)=rsM a m s n++ [rwM a m s n]:=by simp [rsM,List.range_succ]
def mmB (a:Ar)(m:Me)(s:Int):Bool:=ym a&&vh a m&&decide (0≤s∧s<a.owner.length)
structure MmI (a:Ar)(m:Me)(s:Int):Prop where
 ar:ym a=true
 mem:vh a m=true
 st:0≤s∧s<a.owner.length
theorem zGo {a:Ar}{m:Me}{s:Int}(h:ym a=false):mmB a m s=false:=by unfold mmB;rw [h];rfl
theorem zGp {a:Ar}{m:Me}{s:Int}(h:vh a m=false):mmB a m s=false:=by unfold mmB;rw [h,Bool.and_false];rfl
theorem zCJ {a:Ar}{m:Me}{s:Int}(h: ¬(0≤s∧s<a.owner.length)):mmB a m s=false:=by unfold mmB;rw [decide_eq_false h,Bool.and_false]
theorem zCK {a:Ar}{m:Me}{s:Int}(h1:ym a=true)(h2:vh a m=true)(h3:0≤s∧s<a.owner.length):mmB a m s=true:=by unfold mmB;rw [h1,h2,decide_eq_true h3];rfl
theorem XB {a:Ar}{m:Me}{s:Int}(h:mmB a m s=true):MmI a m s:=by
 unfold mmB at h
 rw [Bool.and_eq_true,Bool.and_eq_true,decide_eq_true_eq]at h
 exact⟨h.1.1,h.1.2,h.2⟩
def OkM (a:Ar)(m:Me)(p:Plc):Prop:=0≤p.at_∧p.at_<a.owner.length∧p.record= [gi p.record 0]∧0≤gi p.record 0∧gi p.record 0<m.next.length
section
variable {a:Ar} {m:Me} {s:Int}
theorem zAS {xs:List Int}{n:Int}(h:xS xs n=true){u:Int}(hu:u∈xs):0≤u∧u<n:=by
 obtain⟨j,hj,rfl⟩:=List.mem_iff_getElem.1 hu
 have :=vy h hj
 unfold vP at this
 have :=of_decide_eq_true this
 have e:gi xs j=xs[j]:=by
  unfold gi
  rw [List.getD_eq_getElem?_getD,List.getElem?_eq_getElem hj]
  rfl
 rw [e]at this
 exact⟨this.1,this.2.1⟩
theorem Qp (h:MmI a m s){p:Plc}(hp:OkM a m p):(usM a m p).length≤16∧(∀u∈usM a m p,0≤u∧u<a.owner.length)∧0≤ntM m p∧ntM m p<m.next.length:=by
 obtain⟨k1,k2⟩:=vb h.mem
 obtain⟨p1,p2,p3,p4,p5⟩:=hp
 obtain⟨k3,k4,k5⟩:=k2 (gi p.record 0).toNat (by omega)
 have hv:p.at_.toNat<a.owner.length:=by omega
 obtain⟨h1,h2,h3,h4,h5⟩:=QH h.ar hv
 have h6:=k5 p.at_.toNat (by omega)
 have k7:=WF k4
 refine⟨?_,?_,h6.1,h6.2⟩
 ·by_cases e:gi a.owner p.at_.toNat=0
  ·by_cases e2:chM a m p<0
   ·rw [JU e e2];simp
   ·rw [VP e e2];simp
  ·rw [XI e];exact h4
 ·intro u hu
  by_cases e:gi a.owner p.at_.toNat=0
  ·by_cases e2:chM a m p<0
   ·rw [JU e e2]at hu;cases hu
   ·rw [VP e e2]at hu
    have hu:u=chM a m p:=by simpa using hu
    subst hu
    rcases k7.2 p.at_.toNat (by omega)with h7|⟨h7,h8⟩
    ·unfold chM at e2;omega
    ·exact zAS h5 ((Xb _ _).1 h8)
  ·rw [XI e]at hu
   exact zAS h5 hu
theorem qR (h:MmI a m s): ∀i,∀p∈stM a m s i,OkM a m p:=
 VO (O:=OkM a m) ⟨h.st.1,h.st.2,rfl,(by show(0:Int)≤0;decide),(by show(0:Int)<m.next.length;have :=(vb h.mem).1;omega)⟩ fun p hp u hu=>by
  obtain⟨h1,h2,h3,h4⟩:=Qp h hp
  have :=h2 u hu
  exact⟨this.1,this.2,rfl,h3,h4⟩
theorem VM (h:MmI a m s){i k:Nat}(hi:i<(stM a m s i).length)(hk:k≤(usM a m (gq (stM a m s i) i)).length): ∀p∈(zh (rcM m (gq (stM a m s i) i)) (usM a m (gq (stM a m s i) i)) (stM a m s i) k).1,OkM a m p:=
 Xs (O:=OkM a m) (qR h i) (fun u hu=>by
  obtain⟨h1,h2,h3,h4⟩:=Qp h (qR h i _ (vk hi))
  have :=h2 u hu
  exact⟨this.1,this.2,rfl,h3,h4⟩) hk
theorem zFJ {p:Plc→Bool}{ps:List Plc}(h:ixQ p ps<0): ∀q∈ps,p q=false:=by
 unfold ixQ at h
 split at h
 ·omega
 ·rename_i h1
  intro q hq
  cases hb:p q with
  |false=>rfl
  |true=>exact absurd (List.findIdx_lt_length.2 ⟨q,hq,hb⟩) h1
theorem WH {r us:List Int}{ps:List Plc}(h:ps.Nodup): ∀{k:Nat},k≤us.length→(zh r us ps k).1.Nodup
 |0,_=>h
 |k+1,hk=>by
  have ih:=WH (r:=r) (us:=us) h (k:=k) (by omega)
  by_cases h2:ixQ (yD (gi us k) r) (zh r us ps k).1<0
  ·rw [qH (by omega) h2]
   show((zh r us ps k).1++ [_]).Nodup
   rw [List.nodup_append]
   refine⟨ih,by simp,fun x hx y hy e=> ?_⟩
   have hy2:y=⟨gi us k,r⟩:=by simpa using hy
   have h3:=zFJ h2 x hx
   rw [e,hy2,YP (p:=⟨gi us k,r⟩) (u:=gi us k) (r:=r) rfl rfl]at h3
   cases h3
  ·rw [qI (by omega) h2];exact ih
theorem KG {us rc:Plc→List Int}{p0:Plc}: ∀i,(stQ us rc p0 i).Nodup
 |0=>by show [p0].Nodup;simp
 |i+1=>by
  have ih:=KG (us:=us) (rc:=rc) (p0:=p0) i
  by_cases h:i<(stQ us rc p0 i).length
  ·rw [JP h];exact WH ih (Nat.le_refl _)
  ·rw [Zv h];exact ih
theorem few8 {ps:List Plc}(h:MmI a m s)(hn:ps.Nodup)(ho: ∀p∈ps,OkM a m p):ps.length≤6144:=by
 have hal:=yi h.ar
 have k1:=(vb h.mem).1
 have hl:(ps.map fun p=>p.at_.toNat*24+(gi p.record 0).toNat).length≤6144:=by
  refine Xl _ _ (List.pairwise_map.2 (List.Pairwise.imp_of_mem (fun{p q} hp hq hne e=> ?_) hn)) fun x hx=> ?_
  ·apply hne
   obtain⟨p1,p2,p3,p4,p5⟩:=ho p hp
   obtain⟨q1,q2,q3,q4,q5⟩:=ho q hq
   have e1:gi p.record 0=gi q.record 0:=by omega
   have e2:p.at_=q.at_:=by omega
   have e3:p.record=q.record:=by rw [p3,q3,e1]
   obtain⟨pa,pr⟩:=p
   obtain⟨qa,qr⟩:=q
   simp only at e2 e3
   rw [e2,e3]
  ·obtain⟨p,hp,rfl⟩:=List.mem_map.1 hx
   obtain⟨p1,p2,p3,p4,p5⟩:=ho p hp
   show p.at_.toNat*24+(gi p.record 0).toNat<6144
   omega
 simpa using hl
theorem Wm (h:MmI a m s)(i:Nat):(stM a m s i).length≤6144:=few8 h (KG i) (qR h i)
theorem Wn (h:MmI a m s){i k:Nat}(hi:i<(stM a m s i).length)(hk:k≤(usM a m (gq (stM a m s i) i)).length):(zh (rcM m (gq (stM a m s i) i)) (usM a m (gq (stM a m s i) i)) (stM a m s i) k).1.length≤6144:=few8 h (WH (KG i) hk) (VM h hi hk)
theorem zA0 (h:MmI a m s){i:Nat}(hi:i≤6145)(h2: ¬i<(stM a m s i).length):stM a m s 6145=stM a m s i:=zDy h2 hi
theorem JO {i:Nat}(h:i<(stM a m s i).length):stM a m s (i+1)=(zh (rcM m (gq (stM a m s i) i)) (usM a m (gq (stM a m s i) i)) (stM a m s i) (usM a m (gq (stM a m s i) i)).length).1:=JP h
end
def mdF :List Plc→Nat→MD
 | [],_=> []
 |p::ps,i=>((p.at_,gi p.record 0),(i:Int))::mdF ps (i+1)
theorem KB : ∀(ps:List Plc) (p:Plc) (i:Nat),mdF (ps++ [p]) i=mdF ps i++ [((p.at_,gi p.record 0),((i+ps.length:Nat):Int))]
 | [],p,i=>rfl
 |q::ps,p,i=>by
  simp only [List.cons_append,mdF,KB ps p (i+1),List.length_cons]
  rw [show i+1+ps.length=i+(ps.length+1) by omega]
theorem Ju (f:Plc→Bool):ixQ f []= -1:=rfl
theorem zDV (f:Plc→Bool)(p:Plc)(ps:List Plc):ixQ f (p::ps)=if f p then 0 else if ixQ f ps<0 then -1 else ixQ f ps+1:=by
 unfold ixQ
 rw [List.findIdx_cons]
 cases f p with
 |true=>simp
 |false=>
  simp only [List.length_cons,cond_false]
  by_cases e:List.findIdx f ps<ps.length
  ·rw [if_pos (by omega),if_pos e];simp;omega
  ·rw [if_neg (by omega),if_neg e];simp
theorem Jx (u t:Int): ∀(ps:List Plc) (i:Nat),(∀p∈ps,p.record= [gi p.record 0])→lkM (mdF ps i) (u,t)=if ixQ (yD u [t]) ps<0 then none else some (ixQ (yD u [t]) ps+i)
 | [],i,_=>by rw [Ju];rfl
 |p::ps,i,h=>by
  have ih:=Jx u t ps (i+1) fun q hq=>h q (List.mem_cons_of_mem _ hq)
  have hp:=h p List.mem_cons_self
  have hr:=zCA (yD u [t]) ps
  rw [zDV]
  simp only [mdF,lkM]
  by_cases e:(u,t)=(p.at_,gi p.record 0)
  ·have e1:u=p.at_:=congrArg Prod.fst e
   have e2:t=gi p.record 0:=congrArg Prod.snd e
   rw [if_pos e,YP e1.symm (by rw [e2];exact hp)]
   simp
  ·have :yD u [t] p=false:=by
    by_cases e1:p.at_=u
    ·refine jF fun e2=>e ?_
     have :gi p.record 0=t:=by rw [e2];rfl
     rw [this,e1]
    ·exact jE e1
   rw [if_neg e,ih,this]
   simp only [Bool.false_eq_true,if_false]
   by_cases e3:ixQ (yD u [t]) ps<0
   ·rw [if_pos e3,if_pos e3];rfl
   ·rw [if_neg e3,if_neg e3,if_neg (by omega)]
    congr 1
    push_cast
    omega
theorem zEP {ps:List Plc}{u t:Int}(h: ∀p∈ps,p.record= [gi p.record 0])(h2:ixQ (yD u [t]) ps<0):lkM (mdF ps 0) (u,t)=none:=by rw [Jx u t ps 0 h,if_pos h2]
theorem zCF {ps:List Plc}{u t:Int}(h: ∀p∈ps,p.record= [gi p.record 0])(h2: ¬ixQ (yD u [t]) ps<0):lkM (mdF ps 0) (u,t)=some (ixQ (yD u [t]) ps):=by rw [Jx u t ps 0 h,if_neg h2];simp
def whV (n k:Nat)(ps:List Plc):List Int:=(List.range (n*k)).map fun j=>ixQ (yD ((j%n:Nat):Int) [((j / n:Nat):Int)]) ps
theorem VQ (n k:Nat)(ps:List Plc):(whV n k ps).length=n*k:=by simp [whV]
theorem JV {n k:Nat}{ps:List Plc}{u t:Int}(hu:0≤u∧u<n)(ht:0≤t∧t<k):(t*n+u).toNat<n*k∧gi (whV n k ps) (t*n+u).toNat=ixQ (yD u [t]) ps:=by
 obtain⟨u,rfl⟩:=Int.eq_ofNat_of_zero_le hu.1
 obtain⟨t,rfl⟩:=Int.eq_ofNat_of_zero_le ht.1
 have e:((t:Int)*n+u).toNat=t*n+u:=by
  rw [show(t:Int)*n+u=((t*n+u:Nat):Int) by push_cast];exact Int.toNat_natCast _
 have h1:u<n:=by omega
 have h2:t<k:=by omega
 have h3:t*n+u<n*k:=by
  have :(t+1)*n≤k*n:=Nat.mul_le_mul_right n (by omega)
  rw [Nat.add_mul,Nat.one_mul]at this
  rw [Nat.mul_comm n k]
  omega
 rw [e]
 refine⟨h3,?_⟩
 unfold gi whV
 rw [List.getD_eq_getElem?_getD,List.getElem?_map,List.getElem?_range h3]
 show ixQ _ ps=_
 rw [show(t*n+u)%n=u by rw [Nat.mul_comm,Nat.mul_add_mod,Nat.mod_eq_of_lt h1],show(t*n+u) / n=t by rw [Nat.mul_comm,Nat.mul_add_div (by omega),Nat.div_eq_of_lt h1,Nat.add_zero]]
theorem kz (f:Plc→Bool)(p:Plc)(ps:List Plc):ixQ f (ps++ [p])=if ixQ f ps<0 then(if f p then(ps.length:Int)else -1)else ixQ f ps:=by
 unfold ixQ
 rw [List.findIdx_append,List.length_append,List.length_singleton]
 by_cases e:List.findIdx f ps<ps.length
 ·rw [if_pos e,if_pos (by omega),if_pos e,if_neg (by omega)]
 ·rw [if_neg e,if_neg e,if_pos (show(-1:Int)<0 by omega),List.findIdx_singleton]
  cases hf:f p with
  |true=>simp
  |false=>simp;omega
theorem zAZ {n k:Nat}{ps:List Plc}{u t:Int}(hu:0≤u∧u<n)(ht:0≤t∧t<k)(h:ixQ (yD u [t]) ps<0):(whV n k ps).set (t*n+u).toNat ps.length=whV n k (ps++ [⟨u,[t]⟩]):=by
 have hb:=(JV (k:=k) (ps:=ps) hu ht).1
 obtain⟨u,rfl⟩:=Int.eq_ofNat_of_zero_le hu.1
 obtain⟨t,rfl⟩:=Int.eq_ofNat_of_zero_le ht.1
 have e:((t:Int)*n+u).toNat=t*n+u:=by
  rw [show(t:Int)*n+u=((t*n+u:Nat):Int) by push_cast];exact Int.toNat_natCast _
 have h1:u<n:=by omega
 rw [e]at hb⊢
 refine List.ext_getElem? fun j=> ?_
 rw [List.getElem?_set]
 unfold whV
 rw [List.length_map,List.length_range,List.getElem?_map,List.getElem?_map]
 by_cases hj:j<n*k
 ·rw [List.getElem?_range hj]
  simp only [Option.map_some,kz]
  by_cases e2:t*n+u=j
  ·subst e2
   rw [if_pos rfl,if_pos hj,show(t*n+u)%n=u by rw [Nat.mul_comm,Nat.mul_add_mod,Nat.mod_eq_of_lt h1],show(t*n+u) / n=t by rw [Nat.mul_comm,Nat.mul_add_div (by omega),Nat.div_eq_of_lt h1,Nat.add_zero]]
   rw [if_pos h,YP (p:=⟨(u:Int),[(t:Int)]⟩) rfl rfl]
   simp
  ·rw [if_neg e2]
   have :yD ((j%n:Nat):Int) [((j / n:Nat):Int)] ⟨(u:Int),[(t:Int)]⟩=false:=by
    by_cases e3:(u:Int)=((j%n:Nat):Int)
    ·refine jF fun e4=>e2 ?_
     have e4: [(t:Int)]= [((j / n:Nat):Int)]:=e4
     have e5:(t:Int)=((j / n:Nat):Int):=by injection e4
     have :=Nat.div_add_mod j n
     rw [Nat.mul_comm]at this
     have e6:t=j / n:=by omega
     have e7:u=j%n:=by omega
     rw [e6,e7];exact this
    ·exact jE e3
   rw [this]
   simp only [Bool.false_eq_true,if_false]
   have :=zCA (yD ((j%n:Nat):Int) [((j / n:Nat):Int)]) ps
   split
   ·rw [show ixQ (yD ((j%n:Nat):Int) [((j / n:Nat):Int)]) ps= -1 by omega]
   ·rfl
 ·rw [List.getElem?_eq_none (l:=List.range (n*k)) (by simp;omega)]
  rw [if_neg (by omega)]
  rfl
theorem zBf (ps:List Plc)(x t:Int):yj ps++ [D.int .i64 x,D.lst 2 [D.int .i64 t]]=yj (ps++ [⟨x,[t]⟩]):=Ka ps x [t]
attribute [push_cast] zBf
end Go.Proofs.Ytggpbepdeilpgaa
