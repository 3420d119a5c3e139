/- memory strategies: both sides -/
import Derived.Test.YthepmdkpbjfdcaaB7zmp
import Derived.Test.YthepmdkpbjfdcaaB6zmp
import Derived.Test.YthepmdkpbjfdcaaGDzmp
namespace Go.Proofs.Ythepmdkpbjfdcaa
open Nat renaming reduceMod → zA, reduceMul → zB, reduceDiv → zC, reduceAdd → zD, reduceSub → zE, reduceEqDiff → zF, reduceBEq → zG, reduceLT → zH, reduceLeDiff → zI
open Go.RowKit
set_option linter.unusedVariables false
set_option linter.unusedSimpArgs false
def qC (a:Ar)(next choice:List Int)(k:Int):Bool:=decide (next.length=a.owner.length)&&(vE a 0 choice&&wY next.length (fun v=>decide (0≤gi next v∧gi next v<k)))
theorem JF {a:Ar}{next choice:List Int}{k:Int}(h: ¬next.length=a.owner.length):qC a next choice k=false:=by unfold qC;rw [decide_eq_false h];rfl
theorem XY {a:Ar}{next choice:List Int}{k:Int}(h:vE a 0 choice=false):qC a next choice k=false:=by unfold qC;rw [h,Bool.false_and,Bool.and_false]
theorem JG {a:Ar}{next choice:List Int}{k:Int}{v:Nat}(hv:v<next.length)(h: ¬(0≤gi next v∧gi next v<k)):qC a next choice k=false:=by unfold qC;rw [qt hv (decide_eq_false h),Bool.and_false,Bool.and_false]
theorem JH {a:Ar}{next choice:List Int}{k:Int}(h1:next.length=a.owner.length)(h2:vE a 0 choice=true)(h3: ∀v,v<next.length→0≤gi next v∧gi next v<k):qC a next choice k=true:=by unfold qC;rw [decide_eq_true h1,h2,vb fun v hv=>decide_eq_true (h3 v hv)];rfl
def vL (a:Ar)(m:Me):Bool:=decide (1≤m.next.length∧m.next.length≤24∧m.choice.length=m.next.length)&&wY m.next.length (fun s=>qC a (gl m.next s) (gl m.choice s) m.next.length)
theorem Ks {a:Ar}{m:Me}(h: ¬(1≤m.next.length∧m.next.length≤24∧m.choice.length=m.next.length)):vL a m=false:=by unfold vL;rw [decide_eq_false h];rfl
theorem Qm {a:Ar}{m:Me}{s:Nat}(hs:s<m.next.length)(h:qC a (gl m.next s) (gl m.choice s) m.next.length=false):vL a m=false:=by unfold vL;rw [qt hs h,Bool.and_false]
theorem Kt {a:Ar}{m:Me}(h1:1≤m.next.length∧m.next.length≤24∧m.choice.length=m.next.length)(h2: ∀s,s<m.next.length→qC a (gl m.next s) (gl m.choice s) m.next.length=true):vL a m=true:=by unfold vL;rw [decide_eq_true h1,vb h2];rfl
set_option maxRecDepth 20000 in
set_option maxHeartbeats 4000000 in
theorem JA (xs:List Int)(x:Int)(hl:xs.length≤1048576):Fn Try.prog tyT 74 [.c (DI xs), .c (.int .i64 x)] [.c (.bool (vJ xs x))]:=by
 refine yM (fn:=Try.f74) (ts:= [4]) Try.func74 (by kernel_rfl) rfl rfl (by rw [Try.ntmps74];exact Nat.le_of_ble_eq_true rfl) rfl (by simp only [szA,List.mem_cons,List.not_mem_nil,or_false,forall_eq_or_imp,forall_eq,VT.cells,szL];try decide) ?_
 rw [Try.ntmps74]
 simp only [push_cast,↓zK,↓zJ,↓reduceIte,zA,zB,zC,zD,zE,zF,zG,zH,zI,reduceCtorEq]
 refine zL fun K hK=> ?_
 refine zM zO zN [] rfl ?_
 simp only [push_cast,↓zK,↓zJ,↓reduceIte,zA,zB,zC,zD,zE,zF,zG,zH,zI,reduceCtorEq]
 repeat' apply And.intro
 all_goals try exact gB
 all_goals first|(refine hK _ ?_;clear hK K)|(simp only [push_cast];done)
 refine zL fun K1 hK1=> ?_
 refine zL fun K hK=> ?_
 refine zM zO zN [] rfl ?_
 simp only [push_cast,↓zK,↓zJ,↓reduceIte,zA,zB,zC,zD,zE,zF,zG,zH,zI,reduceCtorEq]
 repeat' apply And.intro
 all_goals try exact gB
 all_goals first|(refine hK _ ?_;clear hK K)|(simp only [push_cast];done)
 refine zd ?_
 refine zw [4,5,6,7,8,9,10,11,12,13,14,15,16,17] [] (fun(k:Nat)=> [(5, .int .i64 k)]) (fun k=> []) (fun k=> []) (fun k=>k≤xs.length∧∀j,j<k→¬gi xs j=x) (fun k=>xs.length - k) 0 ?_ ⟨by omega,fun j hj=>by omega⟩ ?_
 ·
  refine zg rfl ?_ ?_ ?_<;>simp only [zq,zp,push_cast,↓zK,↓zJ,↓reduceIte,zA,zB,zC,zD,zE,zF,zG,zH,zI,reduceCtorEq]
 ·rintro k ⟨hk,hall⟩ KL0 hL0
  simp only [push_cast,↓zK,↓zJ,↓reduceIte,zA,zB,zC,zD,zE,zF,zG,zH,zI,reduceCtorEq]
  refine zL fun K2 hK2=> ?_
  refine zL fun K hK=> ?_
  refine zM zO zN [] rfl ?_
  simp only [push_cast,↓zK,↓zJ,↓reduceIte,zA,zB,zC,zD,zE,zF,zG,zH,zI,reduceCtorEq]
  repeat' apply And.intro
  all_goals try exact gB
  all_goals first|(refine hK _ ?_;clear hK K)|(simp only [push_cast];done)
  refine zU rfl (fun hc=> ?_) (fun hc=> ?_)<;>(try simp only [push_cast]at hc)
  ·
   refine zY ?_
   (try simp only [zR,zS,reduceIte,zF]);refine hK2 _ ?_
   refine zL fun K3 hK3=> ?_
   refine zd ?_
   refine zL fun K hK=> ?_
   refine zM zO zN [] rfl ?_
   simp only [push_cast,↓zK,↓zJ,↓reduceIte,zA,zB,zC,zD,zE,zF,zG,zH,zI,reduceCtorEq]
   repeat' apply And.intro
   all_goals try exact gB
   all_goals first|(refine hK _ ?_;clear hK K)|(simp only [push_cast];done)
   refine zU rfl (fun hc=> ?_) (fun hc=> ?_)<;>(try simp only [push_cast]at hc)
   ·
    refine zL fun K hK=> ?_
    refine zM zO zN [] rfl ?_
    simp only [push_cast,↓zK,↓zJ,↓reduceIte,zA,zB,zC,zD,zE,zF,zG,zH,zI,reduceCtorEq]
    repeat' apply And.intro
    all_goals try exact gB
    all_goals first|(refine hK _ ?_;clear hK K)|(simp only [push_cast];done)
    refine zb ?_
    (try simp only [zR,zS])
    refine⟨Or.inl rfl,?_⟩
    simp only [zh,push_cast,↓zK,↓zJ,↓reduceIte,zA,zB,zC,zD,zE,zF,zG,zH,zI,reduceCtorEq]
    have hf:ZD xs x=k:=kM (by omega) hall (by omega)
    unfold vJ
    rw [hf]
    exact(decide_eq_true (by omega)).symm
   ·
    refine zY ?_
    (try simp only [zR,zS,reduceIte,zF]);refine hK3 _ ?_
    refine zM zO zN [] rfl ?_
    simp only [push_cast,↓zK,↓zJ,↓reduceIte,zA,zB,zC,zD,zE,zF,zG,zH,zI,reduceCtorEq]
    repeat' apply And.intro
    all_goals try exact gB
    refine hL0 _ ⟨k+1,⟨by omega,fun j hj=>(by
      by_cases hjk:j=k
      ·subst hjk;omega
      ·exact hall j (by omega))⟩,by omega,?_⟩
    refine zg rfl ?_ ?_ ?_<;>simp only [zq,zp,push_cast,↓zK,↓zJ,↓reduceIte,zA,zB,zC,zD,zE,zF,zG,zH,zI,reduceCtorEq]
  ·
   refine yA ?_
   (try simp only [zR,zS,reduceIte,zF]);refine hK1 _ ?_
   refine zL fun K hK=> ?_
   refine zM zO zN [] rfl ?_
   simp only [push_cast,↓zK,↓zJ,↓reduceIte,zA,zB,zC,zD,zE,zF,zG,zH,zI,reduceCtorEq]
   repeat' apply And.intro
   all_goals try exact gB
   all_goals first|(refine hK _ ?_;clear hK K)|(simp only [push_cast];done)
   refine zb ?_
   (try simp only [zR,zS])
   refine⟨Or.inl rfl,?_⟩
   simp only [zh,push_cast,↓zK,↓zJ,↓reduceIte,zA,zB,zC,zD,zE,zF,zG,zH,zI,reduceCtorEq]
   unfold vJ
   rw [Wq (fun j hj=>hall j (by omega))]
   exact(decide_eq_false (by omega)).symm
set_option maxRecDepth 20000 in
set_option maxHeartbeats 4000000 in
theorem UN (a:Ar)(ha:a.Ln 1048576)(hnl:a.next.length=a.owner.length)(next choice:List Int)(h1:next.length≤1048576)(h2:choice.length≤1048576)(k:Int)(hk0:1≤k∧k≤24):Fn Try.prog tyT 82 [.agg (dAr a), .c (DI next), .c (DI choice), .c (.int .i64 k)] [.c (.bool (qC a next choice k))]:=by
 have hr: ∀v,(gl a.next v).length≤1048576:=fun v=>wO ha.next v
 have hno:=ha.owner
 unfold LnI at hno
 unfold dAr
 refine yM (fn:=Try.f82) (ts:= [8]) Try.func82 (by kernel_rfl) rfl rfl (by rw [Try.ntmps82];exact Nat.le_of_ble_eq_true rfl) rfl (by simp only [szA,List.mem_cons,List.not_mem_nil,or_false,forall_eq_or_imp,forall_eq,VT.cells,szL];try decide) ?_
 rw [Try.ntmps82]
 simp only [push_cast,↓zK,↓zJ,↓reduceIte,zA,zB,zC,zD,zE,zF,zG,zH,zI,reduceCtorEq]
 refine zL fun K hK=> ?_
 refine zM zO zN [] rfl ?_
 all_goals simp only [push_cast,↓zK,↓zJ,↓reduceIte,zA,zB,zC,zD,zE,zF,zG,zH,zI,reduceCtorEq]
 all_goals repeat'(first|(apply zP<;>(intro hg;(try simp only [push_cast]at hg)))|apply And.intro|(intro hg;(try simp only [push_cast]at hg)))
 all_goals first|exact gA|(exact zV (by omega))|skip
 all_goals first|(refine hK _ ?_;clear hK K)|(simp only [push_cast];done)
 refine zL fun K1 hK1=> ?_
 refine zL fun K hK=> ?_
 refine zm false zO zN ?_ rfl ?_
 ·kernel_rfl
 all_goals simp only [push_cast,↓zK,↓zJ,↓reduceIte,zA,zB,zC,zD,zE,zF,zG,zH,zI,reduceCtorEq]
 all_goals repeat'(first|(apply zP<;>(intro hg;(try simp only [push_cast]at hg)))|apply And.intro|(intro hg;(try simp only [push_cast]at hg)))
 all_goals first|exact gA|(exact zV (by omega))|skip
 all_goals first|(refine hK _ ?_;clear hK K)|(simp only [push_cast];done)
 all_goals refine zU rfl (fun hc=> ?_) (fun hc=> ?_)
 all_goals(first|(cases hc;done)|skip)
 all_goals(try simp only [push_cast]at hc)
 all_goals try(
   refine zL fun K hK=> ?_
   refine zM zO zN [] rfl ?_
   all_goals simp only [push_cast,↓zK,↓zJ,↓reduceIte,zA,zB,zC,zD,zE,zF,zG,zH,zI,reduceCtorEq]
   all_goals repeat'(first|(apply zP<;>(intro hg;(try simp only [push_cast]at hg)))|apply And.intro|(intro hg;(try simp only [push_cast]at hg)))
   all_goals first|exact gA|(exact zV (by omega))|skip
   all_goals first|(refine hK _ ?_;clear hK K)|(simp only [push_cast];done)
   refine zb ?_
   (try simp only [zR,zS])
   refine⟨Or.inl rfl,?_⟩
   simp only [zh,push_cast,↓zK,↓zJ,↓reduceIte,zA,zB,zC,zD,zE,zF,zG,zH,zI,reduceCtorEq]
   symm
   first|exact JF (by omega)|exact XY (JK (by omega))
   done)
 refine zY ?_
 (try simp only [zR,zS,reduceIte,zF]);refine hK1 _ ?_
 refine zL fun K2 hK2=> ?_
 refine zL fun K hK=> ?_
 refine zM zO zN [] rfl ?_
 all_goals simp only [push_cast,↓zK,↓zJ,↓reduceIte,zA,zB,zC,zD,zE,zF,zG,zH,zI,reduceCtorEq]
 all_goals repeat'(first|(apply zP<;>(intro hg;(try simp only [push_cast]at hg)))|apply And.intro|(intro hg;(try simp only [push_cast]at hg)))
 all_goals first|exact gA|(exact zV (by omega))|skip
 all_goals first|(refine hK _ ?_;clear hK K)|(simp only [push_cast];done)
 refine zd ?_
 refine zw [8,9,16,24,25,26,27,28,29,30,31,32,33,34,35,36,37,38,39,40,41,42,43,44,45,46,47,48,49,50,51,52,53,54,55,56,57,58,59,60,61,62,63,64] [] (fun(v:Nat)=> [(9, .int .i64 v)]) (fun v=> []) (fun v=> []) (fun v=>v≤a.owner.length∧∀j,j<v→(0≤gi next j∧gi next j<k)∧qb a 0 choice j=true) (fun v=>a.owner.length - v) 0 ?_ ⟨by omega,fun j hj=>by omega⟩ ?_
 ·
  refine zg rfl ?_ ?_ ?_<;>simp only [zq,zp,push_cast,↓zK,↓zJ,↓reduceIte,zA,zB,zC,zD,zE,zF,zG,zH,zI,reduceCtorEq]
 ·rintro v ⟨hv,hall⟩ KL0 hL0
  have hrv:=hr v
  simp only [push_cast,↓zK,↓zJ,↓reduceIte,zA,zB,zC,zD,zE,zF,zG,zH,zI,reduceCtorEq]
  refine zL fun K3 hK3=> ?_
  refine zL fun K hK=> ?_
  refine zM zO zN [] rfl ?_
  all_goals simp only [push_cast,↓zK,↓zJ,↓reduceIte,zA,zB,zC,zD,zE,zF,zG,zH,zI,reduceCtorEq]
  all_goals repeat'(first|(apply zP<;>(intro hg;(try simp only [push_cast]at hg)))|apply And.intro|(intro hg;(try simp only [push_cast]at hg)))
  all_goals first|exact gA|(exact zV (by omega))|skip
  all_goals first|(refine hK _ ?_;clear hK K)|(simp only [push_cast];done)
  refine zU rfl (fun hc=> ?_) (fun hc=> ?_)<;>(try simp only [push_cast]at hc)
  ·
   refine zY ?_
   (try simp only [zR,zS,reduceIte,zF]);refine hK3 _ ?_
   refine zL fun K4 hK4=> ?_
   refine zd ?_
   refine zL fun K5 hK5=> ?_
   refine zL fun K hK=> ?_
   refine zM zO zN [] rfl ?_
   all_goals refine vz 7 fun K9 hK9=> ?_
   all_goals simp only [push_cast,↓zK,↓zJ,↓reduceIte,zA,zB,zC,zD,zE,zF,zG,zH,zI,reduceCtorEq]
   all_goals repeat'(first|(apply zP<;>(intro hg;(try simp only [push_cast]at hg)))|(refine⟨_,yV _ _ _,?_⟩;simp only [push_cast,↓zK,↓zJ,↓reduceIte,zA,zB,zC,zD,zE,zF,zG,zH,zI,reduceCtorEq])|apply And.intro|(intro hg;(try simp only [push_cast]at hg)))
   all_goals first|exact gA|(exact zV (by omega))|skip
   all_goals first|(refine hK9 _ ?_;clear hK9 K9)|(simp only [push_cast];done)
   all_goals simp only [push_cast,↓zK,↓zJ,↓reduceIte,zA,zB,zC,zD,zE,zF,zG,zH,zI,reduceCtorEq]
   all_goals repeat'(first|(apply zP<;>(intro hg;(try simp only [push_cast]at hg)))|(refine⟨_,yV _ _ _,?_⟩;simp only [push_cast,↓zK,↓zJ,↓reduceIte,zA,zB,zC,zD,zE,zF,zG,zH,zI,reduceCtorEq])|apply And.intro|(intro hg;(try simp only [push_cast]at hg)))
   all_goals first|exact gA|(exact zV (by omega))|skip
   all_goals first|(refine hK _ ?_;clear hK K)|(simp only [push_cast];done)
   refine zU rfl (fun hc=> ?_) (fun hc=> ?_)<;>(try simp only [push_cast]at hc)
   ·
    refine zL fun K hK=> ?_
    refine zM zO zN [] rfl ?_
    all_goals simp only [push_cast,↓zK,↓zJ,↓reduceIte,zA,zB,zC,zD,zE,zF,zG,zH,zI,reduceCtorEq]
    all_goals repeat'(first|(apply zP<;>(intro hg;(try simp only [push_cast]at hg)))|apply And.intro|(intro hg;(try simp only [push_cast]at hg)))
    all_goals first|exact gA|(exact zV (by omega))|skip
    all_goals first|(refine hK _ ?_;clear hK K)|(simp only [push_cast];done)
    refine zb ?_
    (try simp only [zR,zS])
    refine⟨Or.inl rfl,?_⟩
    simp only [zh,push_cast,↓zK,↓zJ,↓reduceIte,zA,zB,zC,zD,zE,zF,zG,zH,zI,reduceCtorEq]
    symm
    exact JG (v:=v) (by omega) (by omega)
   ·
    refine zY ?_
    (try simp only [zR,zS,reduceIte,zF]);refine hK5 _ ?_
    refine zL fun K hK=> ?_
    refine xk false zO zN qg ?_ rfl ?_
    ·kernel_rfl
    intro E hE
    all_goals refine Yi 23 (by decide) fun K9 hK9=> ?_
    all_goals simp only [push_cast,↓zK,↓zJ,↓reduceIte,zA,zB,zC,zD,zE,zF,zG,zH,zI,reduceCtorEq]
    all_goals repeat'(first|(apply zP<;>(intro hg;(try simp only [push_cast]at hg)))|(refine⟨_,JA (gl a.next v) _ (hr v),?_⟩;simp only [push_cast,↓zK,↓zJ,↓reduceIte,zA,zB,zC,zD,zE,zF,zG,zH,zI,reduceCtorEq])|apply And.intro|(intro hg;(try simp only [push_cast]at hg)))
    all_goals first|exact gA|(exact zV (by omega))|skip
    all_goals first|(refine hK9 _ _ ?_;clear hK9 K9)|(simp only [push_cast];done)
    all_goals simp only [push_cast,↓zK,↓zJ,↓reduceIte,zA,zB,zC,zD,zE,zF,zG,zH,zI,reduceCtorEq]
    all_goals repeat'(first|(apply zP<;>(intro hg;(try simp only [push_cast]at hg)))|(refine⟨_,JA (gl a.next v) _ (hr v),?_⟩;simp only [push_cast,↓zK,↓zJ,↓reduceIte,zA,zB,zC,zD,zE,zF,zG,zH,zI,reduceCtorEq])|apply And.intro|(intro hg;(try simp only [push_cast]at hg)))
    all_goals first|exact gA|(refine hE _ _ ?_ ?_;kernel_rfl)|(exact zV (by omega))|skip
    all_goals clear hE E
    all_goals first|(refine hK _ ?_;clear hK K)|(simp only [push_cast];done)
    all_goals refine zU rfl (fun hc=> ?_) (fun hc=> ?_)
    all_goals(first|(cases hc;done)|skip)
    all_goals(try simp only [push_cast]at hc)
    all_goals first
     |(
       refine zY ?_
       (try simp only [zR,zS,reduceIte,zF]);refine hK4 _ ?_
       refine zM zO zN [] rfl ?_
       all_goals simp only [push_cast,↓zK,↓zJ,↓reduceIte,zA,zB,zC,zD,zE,zF,zG,zH,zI,reduceCtorEq]
       all_goals repeat'(first|(apply zP<;>(intro hg;(try simp only [push_cast]at hg)))|apply And.intro|(intro hg;(try simp only [push_cast]at hg)))
       all_goals first|exact gA|(exact zV (by omega))|skip
       refine hL0 _ ⟨v+1,⟨by omega,fun j hj=>(by
         by_cases hjv:j=v
         ·subst hjv;exact⟨by omega,Vj (by first|exact Or.inl (by omega)|exact Or.inr ⟨by omega,by with_reducible assumption⟩)⟩
         ·exact hall j (by omega))⟩,by omega,?_⟩
       refine zg rfl ?_ ?_ ?_<;>simp only [zq,zp,push_cast,↓zK,↓zJ,↓reduceIte,zA,zB,zC,zD,zE,zF,zG,zH,zI,reduceCtorEq]
       done)
     |(
       refine zL fun K hK=> ?_
       refine zM zO zN [] rfl ?_
       all_goals simp only [push_cast,↓zK,↓zJ,↓reduceIte,zA,zB,zC,zD,zE,zF,zG,zH,zI,reduceCtorEq]
       all_goals repeat'(first|(apply zP<;>(intro hg;(try simp only [push_cast]at hg)))|apply And.intro|(intro hg;(try simp only [push_cast]at hg)))
       all_goals first|exact gA|(exact zV (by omega))|skip
       all_goals first|(refine hK _ ?_;clear hK K)|(simp only [push_cast];done)
       refine zb ?_
       (try simp only [zR,zS])
       refine⟨Or.inl rfl,?_⟩
       simp only [zh,push_cast,↓zK,↓zJ,↓reduceIte,zA,zB,zC,zD,zE,zF,zG,zH,zI,reduceCtorEq]
       symm
       exact XY (Kz (v:=v) (by omega) (Vi (by omega) (by first|exact Or.inl (by omega)|exact Or.inr (by with_reducible assumption))))
       done)
  ·
   refine yA ?_
   (try simp only [zR,zS,reduceIte,zF]);refine hK2 _ ?_
   refine zL fun K hK=> ?_
   refine zM zO zN [] rfl ?_
   all_goals simp only [push_cast,↓zK,↓zJ,↓reduceIte,zA,zB,zC,zD,zE,zF,zG,zH,zI,reduceCtorEq]
   all_goals repeat'(first|(apply zP<;>(intro hg;(try simp only [push_cast]at hg)))|apply And.intro|(intro hg;(try simp only [push_cast]at hg)))
   all_goals first|exact gA|(exact zV (by omega))|skip
   all_goals first|(refine hK _ ?_;clear hK K)|(simp only [push_cast];done)
   refine zb ?_
   (try simp only [zR,zS])
   refine⟨Or.inl rfl,?_⟩
   simp only [zh,push_cast,↓zK,↓zJ,↓reduceIte,zA,zB,zC,zD,zE,zF,zG,zH,zI,reduceCtorEq]
   symm
   exact JH (by omega) (JL (by omega) fun j hj=>(hall j (by omega)).2) fun j hj=>(hall j (by omega)).1
set_option maxRecDepth 20000 in
set_option maxHeartbeats 4000000 in
theorem jf (a:Ar)(ha:a.Ln 1048576)(hnl:a.next.length=a.owner.length)(m:Me)(hm:m.Ln 1048576):Fn Try.prog tyT 68 [.agg (dAr a), .agg (dMe m)] [.c (.bool (vL a m))]:=by
 have hmr: ∀s,(gl m.next s).length≤1048576:=fun s=>wO hm.next s
 have hmc: ∀s,(gl m.choice s).length≤1048576:=fun s=>wO hm.choice s
 have hm1:=hm.next.1
 have hm2:=hm.choice.1
 have hno:=ha.owner
 unfold LnI at hno
 have hP:=fun s=>UK a ha hnl 0 (gl m.choice s) (hmc s)
 unfold dAr at hP
 unfold dAr dMe
 refine yM (fn:=Try.f68) (ts:= [4]) Try.func68 (by kernel_rfl) rfl rfl (by rw [Try.ntmps68];exact Nat.le_of_ble_eq_true rfl) rfl (by simp only [szA,List.mem_cons,List.not_mem_nil,or_false,forall_eq_or_imp,forall_eq,VT.cells,szL];try decide) ?_
 rw [Try.ntmps68]
 simp only [push_cast,↓zK,↓zJ,↓reduceIte,zA,zB,zC,zD,zE,zF,zG,zH,zI,reduceCtorEq]
 refine zL fun K hK=> ?_
 refine zM zO zN [] rfl ?_
 all_goals simp only [push_cast,↓zK,↓zJ,↓reduceIte,zA,zB,zC,zD,zE,zF,zG,zH,zI,reduceCtorEq]
 all_goals repeat'(first|(apply zP<;>(intro hg;(try simp only [push_cast]at hg)))|apply And.intro|(intro hg;(try simp only [push_cast]at hg)))
 all_goals first|exact gA|(exact zV (by omega))|skip
 all_goals first|(refine hK _ ?_;clear hK K)|(simp only [push_cast];done)
 refine zL fun K hK=> ?_
 refine zM zO zN [] rfl ?_
 all_goals simp only [push_cast,↓zK,↓zJ,↓reduceIte,zA,zB,zC,zD,zE,zF,zG,zH,zI,reduceCtorEq]
 all_goals repeat'(first|(apply zP<;>(intro hg;(try simp only [push_cast]at hg)))|apply And.intro|(intro hg;(try simp only [push_cast]at hg)))
 all_goals first|exact gA|(exact zV (by omega))|skip
 all_goals first|(refine hK _ ?_;clear hK K)|(simp only [push_cast];done)
 refine zL fun K1 hK1=> ?_
 refine zL fun K hK=> ?_
 refine zm false zO zN ?_ rfl ?_
 ·kernel_rfl
 all_goals simp only [push_cast,↓zK,↓zJ,↓reduceIte,zA,zB,zC,zD,zE,zF,zG,zH,zI,reduceCtorEq]
 all_goals repeat'(first|(apply zP<;>(intro hg;(try simp only [push_cast]at hg)))|apply And.intro|(intro hg;(try simp only [push_cast]at hg)))
 all_goals first|exact gA|(exact zV (by omega))|skip
 all_goals first|(refine hK _ ?_;clear hK K)|(simp only [push_cast];done)
 all_goals refine zU rfl (fun hc=> ?_) (fun hc=> ?_)
 all_goals(first|(cases hc;done)|skip)
 all_goals(try simp only [push_cast]at hc)
 all_goals try(
   refine zL fun K hK=> ?_
   refine zM zO zN [] rfl ?_
   all_goals simp only [push_cast,↓zK,↓zJ,↓reduceIte,zA,zB,zC,zD,zE,zF,zG,zH,zI,reduceCtorEq]
   all_goals repeat'(first|(apply zP<;>(intro hg;(try simp only [push_cast]at hg)))|apply And.intro|(intro hg;(try simp only [push_cast]at hg)))
   all_goals first|exact gA|(exact zV (by omega))|skip
   all_goals first|(refine hK _ ?_;clear hK K)|(simp only [push_cast];done)
   refine zb ?_
   (try simp only [zR,zS])
   refine⟨Or.inl rfl,?_⟩
   simp only [zh,push_cast,↓zK,↓zJ,↓reduceIte,zA,zB,zC,zD,zE,zF,zG,zH,zI,reduceCtorEq]
   symm
   exact Ks (by omega)
   done)
 refine zY ?_
 (try simp only [zR,zS,reduceIte,zF]);refine hK1 _ ?_
 refine zL fun K2 hK2=> ?_
 refine zL fun K hK=> ?_
 refine zM zO zN [] rfl ?_
 all_goals simp only [push_cast,↓zK,↓zJ,↓reduceIte,zA,zB,zC,zD,zE,zF,zG,zH,zI,reduceCtorEq]
 all_goals repeat'(first|(apply zP<;>(intro hg;(try simp only [push_cast]at hg)))|apply And.intro|(intro hg;(try simp only [push_cast]at hg)))
 all_goals first|exact gA|(exact zV (by omega))|skip
 all_goals first|(refine hK _ ?_;clear hK K)|(simp only [push_cast];done)
 refine zd ?_
 refine zw [4,6,7,9,15,19,31,32,33,34,35,36,37,38,39,40,41,42,43,44,45,46,47,48,49,50,51,52,53,54,55,56,57,58,59,60,61,62,63,64,65,66] [] (fun(s:Nat)=> [(31, .int .i64 s)]) (fun s=> []) (fun s=> []) (fun s=>s≤m.next.length∧∀j,j<s→qC a (gl m.next j) (gl m.choice j) m.next.length=true) (fun s=>m.next.length - s) 0 ?_ ⟨by omega,fun j hj=>by omega⟩ ?_
 ·
  refine zg rfl ?_ ?_ ?_<;>simp only [zq,zp,push_cast,↓zK,↓zJ,↓reduceIte,zA,zB,zC,zD,zE,zF,zG,zH,zI,reduceCtorEq]
 ·rintro s ⟨hs,hall⟩ KL0 hL0
  have hrs:=hmr s
  have hcs:=hmc s
  simp only [push_cast,↓zK,↓zJ,↓reduceIte,zA,zB,zC,zD,zE,zF,zG,zH,zI,reduceCtorEq]
  refine zL fun K hK=> ?_
  refine zM zO zN [] rfl ?_
  all_goals simp only [push_cast,↓zK,↓zJ,↓reduceIte,zA,zB,zC,zD,zE,zF,zG,zH,zI,reduceCtorEq]
  all_goals repeat'(first|(apply zP<;>(intro hg;(try simp only [push_cast]at hg)))|apply And.intro|(intro hg;(try simp only [push_cast]at hg)))
  all_goals first|exact gA|(exact zV (by omega))|skip
  all_goals first|(refine hK _ ?_;clear hK K)|(simp only [push_cast];done)
  refine zL fun K3 hK3=> ?_
  refine zU rfl (fun hc=> ?_) (fun hc=> ?_)<;>(try simp only [push_cast]at hc)
  ·
   refine zY ?_
   (try simp only [zR,zS,reduceIte,zF]);refine hK3 _ ?_
   refine zL fun K4 hK4=> ?_
   refine zd ?_
   refine zL fun K hK=> ?_
   refine zM zO zN [] rfl ?_
   all_goals simp only [push_cast,↓zK,↓zJ,↓reduceIte,zA,zB,zC,zD,zE,zF,zG,zH,zI,reduceCtorEq]
   all_goals repeat'(first|(apply zP<;>(intro hg;(try simp only [push_cast]at hg)))|apply And.intro|(intro hg;(try simp only [push_cast]at hg)))
   all_goals first|exact gA|(exact zV (by omega))|skip
   all_goals first|(refine hK _ ?_;clear hK K)|(simp only [push_cast];done)
   refine zL fun K5 hK5=> ?_
   refine zL fun K hK=> ?_
   refine xk false zO zN qg ?_ rfl ?_
   ·kernel_rfl
   intro E hE
   all_goals refine Yi 14 (by decide) fun K9 hK9=> ?_
   all_goals simp only [push_cast,↓zK,↓zJ,↓reduceIte,zA,zB,zC,zD,zE,zF,zG,zH,zI,reduceCtorEq]
   all_goals repeat'(first|(apply zP<;>(intro hg;(try simp only [push_cast]at hg)))|(refine⟨_,hP s,?_⟩;simp only [push_cast,↓zK,↓zJ,↓reduceIte,zA,zB,zC,zD,zE,zF,zG,zH,zI,reduceCtorEq])|apply And.intro|(intro hg;(try simp only [push_cast]at hg)))
   all_goals first|exact gA|(exact zV (by omega))|skip
   all_goals first|(refine hK9 _ _ ?_;clear hK9 K9)|(simp only [push_cast];done)
   all_goals simp only [push_cast,↓zK,↓zJ,↓reduceIte,zA,zB,zC,zD,zE,zF,zG,zH,zI,reduceCtorEq]
   all_goals repeat'(first|(apply zP<;>(intro hg;(try simp only [push_cast]at hg)))|(refine⟨_,hP s,?_⟩;simp only [push_cast,↓zK,↓zJ,↓reduceIte,zA,zB,zC,zD,zE,zF,zG,zH,zI,reduceCtorEq])|apply And.intro|(intro hg;(try simp only [push_cast]at hg)))
   all_goals first|exact gA|(refine hE _ _ ?_ ?_;kernel_rfl)|(exact zV (by omega))|skip
   all_goals clear hE E
   all_goals first|(refine hK _ ?_;clear hK K)|(simp only [push_cast];done)
   all_goals refine zU rfl (fun hc=> ?_) (fun hc=> ?_)
   all_goals(first|(cases hc;done)|skip)
   all_goals(try simp only [push_cast]at hc)
   all_goals first
    |(
      refine zY ?_
      (try simp only [zR,zS,reduceIte,zF]);refine hK5 _ ?_
      refine zL fun K hK=> ?_
      refine zM zO zN [] rfl ?_
      all_goals simp only [push_cast,↓zK,↓zJ,↓reduceIte,zA,zB,zC,zD,zE,zF,zG,zH,zI,reduceCtorEq]
      all_goals repeat'(first|(apply zP<;>(intro hg;(try simp only [push_cast]at hg)))|apply And.intro|(intro hg;(try simp only [push_cast]at hg)))
      all_goals first|exact gA|(exact zV (by omega))|skip
      all_goals first|(refine hK _ ?_;clear hK K)|(simp only [push_cast];done)
      refine zd ?_
      refine zw [4,9,15,19,42,54,55,56,57,58,59,60,61,62,63,64,65] [] (fun(k:Nat)=> [(54, .int .i64 k)]) (fun k=> []) (fun k=> []) (fun k=>k≤(gl m.next s).length∧∀j,j<k→0≤gi (gl m.next s) j∧gi (gl m.next s) j<m.next.length) (fun k=>(gl m.next s).length - k) 0 ?_ ⟨by omega,fun j hj=>by omega⟩ ?_
      ·
       refine zg rfl ?_ ?_ ?_<;>simp only [zq,zp,push_cast,↓zK,↓zJ,↓reduceIte,zA,zB,zC,zD,zE,zF,zG,zH,zI,reduceCtorEq]
      ·rintro k ⟨hk,hall2⟩ KL1 hL1
       simp only [push_cast,↓zK,↓zJ,↓reduceIte,zA,zB,zC,zD,zE,zF,zG,zH,zI,reduceCtorEq]
       refine zL fun K hK=> ?_
       refine zM zO zN [] rfl ?_
       all_goals simp only [push_cast,↓zK,↓zJ,↓reduceIte,zA,zB,zC,zD,zE,zF,zG,zH,zI,reduceCtorEq]
       all_goals repeat'(first|(apply zP<;>(intro hg;(try simp only [push_cast]at hg)))|apply And.intro|(intro hg;(try simp only [push_cast]at hg)))
       all_goals first|exact gA|(exact zV (by omega))|skip
       all_goals first|(refine hK _ ?_;clear hK K)|(simp only [push_cast];done)
       refine zL fun K6 hK6=> ?_
       refine zU rfl (fun hc=> ?_) (fun hc=> ?_)<;>(try simp only [push_cast]at hc)
       ·
        refine zY ?_
        (try simp only [zR,zS,reduceIte,zF]);refine hK6 _ ?_
        refine zL fun K7 hK7=> ?_
        refine zd ?_
        refine zL fun K hK=> ?_
        refine zM zO zN [] rfl ?_
        all_goals simp only [push_cast,↓zK,↓zJ,↓reduceIte,zA,zB,zC,zD,zE,zF,zG,zH,zI,reduceCtorEq]
        all_goals repeat'(first|(apply zP<;>(intro hg;(try simp only [push_cast]at hg)))|apply And.intro|(intro hg;(try simp only [push_cast]at hg)))
        all_goals first|exact gA|(exact zV (by omega))|skip
        all_goals first|(refine hK _ ?_;clear hK K)|(simp only [push_cast];done)
        refine zL fun K hK=> ?_
        refine zm false zO zN ?_ rfl ?_
        ·kernel_rfl
        all_goals simp only [push_cast,↓zK,↓zJ,↓reduceIte,zA,zB,zC,zD,zE,zF,zG,zH,zI,reduceCtorEq]
        all_goals repeat'(first|(apply zP<;>(intro hg;(try simp only [push_cast]at hg)))|apply And.intro|(intro hg;(try simp only [push_cast]at hg)))
        all_goals first|exact gA|(exact zV (by omega))|skip
        all_goals first|(refine hK _ ?_;clear hK K)|(simp only [push_cast];done)
        all_goals refine zU rfl (fun hc=> ?_) (fun hc=> ?_)
        all_goals(first|(cases hc;done)|skip)
        all_goals(try simp only [push_cast]at hc)
        all_goals try(
          refine zL fun K hK=> ?_
          refine zM zO zN [] rfl ?_
          all_goals simp only [push_cast,↓zK,↓zJ,↓reduceIte,zA,zB,zC,zD,zE,zF,zG,zH,zI,reduceCtorEq]
          all_goals repeat'(first|(apply zP<;>(intro hg;(try simp only [push_cast]at hg)))|apply And.intro|(intro hg;(try simp only [push_cast]at hg)))
          all_goals first|exact gA|(exact zV (by omega))|skip
          all_goals first|(refine hK _ ?_;clear hK K)|(simp only [push_cast];done)
          refine zb ?_
          (try simp only [zR,zS])
          refine⟨Or.inl rfl,?_⟩
          simp only [zh,push_cast,↓zK,↓zJ,↓reduceIte,zA,zB,zC,zD,zE,zF,zG,zH,zI,reduceCtorEq]
          symm
          exact Qm (s:=s) (by omega) (JG (v:=k) (by omega) (by omega))
          done)
        refine zY ?_
        (try simp only [zR,zS,reduceIte,zF]);refine hK7 _ ?_
        refine zM zO zN [] rfl ?_
        all_goals simp only [push_cast,↓zK,↓zJ,↓reduceIte,zA,zB,zC,zD,zE,zF,zG,zH,zI,reduceCtorEq]
        all_goals repeat'(first|(apply zP<;>(intro hg;(try simp only [push_cast]at hg)))|apply And.intro|(intro hg;(try simp only [push_cast]at hg)))
        all_goals first|exact gA|(exact zV (by omega))|skip
        refine hL1 _ ⟨k+1,⟨by omega,fun j hj=>(by
          by_cases hjk:j=k
          ·subst hjk;omega
          ·exact hall2 j (by omega))⟩,by omega,?_⟩
        refine zg rfl ?_ ?_ ?_<;>simp only [zq,zp,push_cast,↓zK,↓zJ,↓reduceIte,zA,zB,zC,zD,zE,zF,zG,zH,zI,reduceCtorEq]
       ·
        refine yA ?_
        (try simp only [zR,zS,reduceIte,zF]);refine hK4 _ ?_
        refine zM zO zN [] rfl ?_
        all_goals simp only [push_cast,↓zK,↓zJ,↓reduceIte,zA,zB,zC,zD,zE,zF,zG,zH,zI,reduceCtorEq]
        all_goals repeat'(first|(apply zP<;>(intro hg;(try simp only [push_cast]at hg)))|apply And.intro|(intro hg;(try simp only [push_cast]at hg)))
        all_goals first|exact gA|(exact zV (by omega))|skip
        refine hL0 _ ⟨s+1,⟨by omega,fun j hj=>(by
          by_cases hjs:j=s
          ·subst hjs;exact JH (by omega) (by with_reducible assumption) fun v hv=>hall2 v (by omega)
          ·exact hall j (by omega))⟩,by omega,?_⟩
        refine zg rfl ?_ ?_ ?_<;>simp only [zq,zp,push_cast,↓zK,↓zJ,↓reduceIte,zA,zB,zC,zD,zE,zF,zG,zH,zI,reduceCtorEq]
      done)
    |(
      refine zL fun K hK=> ?_
      refine zM zO zN [] rfl ?_
      all_goals simp only [push_cast,↓zK,↓zJ,↓reduceIte,zA,zB,zC,zD,zE,zF,zG,zH,zI,reduceCtorEq]
      all_goals repeat'(first|(apply zP<;>(intro hg;(try simp only [push_cast]at hg)))|apply And.intro|(intro hg;(try simp only [push_cast]at hg)))
      all_goals first|exact gA|(exact zV (by omega))|skip
      all_goals first|(refine hK _ ?_;clear hK K)|(simp only [push_cast];done)
      refine zb ?_
      (try simp only [zR,zS])
      refine⟨Or.inl rfl,?_⟩
      simp only [zh,push_cast,↓zK,↓zJ,↓reduceIte,zA,zB,zC,zD,zE,zF,zG,zH,zI,reduceCtorEq]
      symm
      refine Qm (s:=s) (by omega) ?_
      first|exact JF (by omega)|exact XY (by with_reducible assumption)
      done)
  ·
   refine yA ?_
   (try simp only [zR,zS,reduceIte,zF]);refine hK2 _ ?_
   refine zL fun K hK=> ?_
   refine zM zO zN [] rfl ?_
   all_goals simp only [push_cast,↓zK,↓zJ,↓reduceIte,zA,zB,zC,zD,zE,zF,zG,zH,zI,reduceCtorEq]
   all_goals repeat'(first|(apply zP<;>(intro hg;(try simp only [push_cast]at hg)))|apply And.intro|(intro hg;(try simp only [push_cast]at hg)))
   all_goals first|exact gA|(exact zV (by omega))|skip
   all_goals first|(refine hK _ ?_;clear hK K)|(simp only [push_cast];done)
   refine zb ?_
   (try simp only [zR,zS])
   refine⟨Or.inl rfl,?_⟩
   simp only [zh,push_cast,↓zK,↓zJ,↓reduceIte,zA,zB,zC,zD,zE,zF,zG,zH,zI,reduceCtorEq]
   symm
   exact Kt (by omega) fun j hj=>hall j (by omega)
set_option maxRecDepth 20000 in
set_option maxHeartbeats 4000000 in
theorem Js (a:Ar)(ha:a.Ln 1048576)(m:Me)(hm:m.Ln 1048576):Fn Try.prog tyT 32 [.agg (dAr a), .agg (dMe m)] [.c (.bool (yh a&&vL a m))]:=by
 have hmr: ∀s,(gl m.next s).length≤1048576:=fun s=>wO hm.next s
 have hmc: ∀s,(gl m.choice s).length≤1048576:=fun s=>wO hm.choice s
 have hm1:=hm.next.1
 have hm2:=hm.choice.1
 have hno:=ha.owner
 unfold LnI at hno
 have hA:=jR a ha
 have hR:=fun h k hk s=>UN a ha h (gl m.next s) (gl m.choice s) (hmr s) (hmc s) k hk
 unfold dAr at hA hR
 unfold dAr dMe
 refine yM (fn:=Try.f32) (ts:= [4]) Try.func32 (by kernel_rfl) rfl rfl (by rw [Try.ntmps32];exact Nat.le_of_ble_eq_true rfl) rfl (by simp only [szA,List.mem_cons,List.not_mem_nil,or_false,forall_eq_or_imp,forall_eq,VT.cells,szL];try decide) ?_
 rw [Try.ntmps32]
 simp only [push_cast,↓zK,↓zJ,↓reduceIte,zA,zB,zC,zD,zE,zF,zG,zH,zI,reduceCtorEq]
 refine zL fun K hK=> ?_
 refine zM zO zN [] rfl ?_
 all_goals simp only [push_cast,↓zK,↓zJ,↓reduceIte,zA,zB,zC,zD,zE,zF,zG,zH,zI,reduceCtorEq]
 all_goals repeat'(first|(apply zP<;>(intro hg;(try simp only [push_cast]at hg)))|apply And.intro|(intro hg;(try simp only [push_cast]at hg)))
 all_goals first|exact gA|(exact zV (by omega))|skip
 all_goals first|(refine hK _ ?_;clear hK K)|(simp only [push_cast];done)
 refine zL fun K hK=> ?_
 refine zM zO zN [] rfl ?_
 all_goals simp only [push_cast,↓zK,↓zJ,↓reduceIte,zA,zB,zC,zD,zE,zF,zG,zH,zI,reduceCtorEq]
 all_goals repeat'(first|(apply zP<;>(intro hg;(try simp only [push_cast]at hg)))|apply And.intro|(intro hg;(try simp only [push_cast]at hg)))
 all_goals first|exact gA|(exact zV (by omega))|skip
 all_goals first|(refine hK _ ?_;clear hK K)|(simp only [push_cast];done)
 refine zL fun K1 hK1=> ?_
 refine zL fun K hK=> ?_
 refine zm false zO zN ?_ rfl ?_
 ·kernel_rfl
 all_goals refine xD 2 fun K9 hK9=> ?_
 all_goals simp only [push_cast,↓zK,↓zJ,↓reduceIte,zA,zB,zC,zD,zE,zF,zG,zH,zI,reduceCtorEq]
 all_goals repeat'(first|(apply zP<;>(intro hg;(try simp only [push_cast]at hg)))|(refine⟨_,hA,?_⟩;simp only [push_cast,↓zK,↓zJ,↓reduceIte,zA,zB,zC,zD,zE,zF,zG,zH,zI,reduceCtorEq])|(refine⟨_,yV _ _ _,?_⟩;simp only [push_cast,↓zK,↓zJ,↓reduceIte,zA,zB,zC,zD,zE,zF,zG,zH,zI,reduceCtorEq])|apply And.intro|(intro hg;(try simp only [push_cast]at hg)))
 all_goals first|exact gA|(exact zV (by omega))|skip
 all_goals first|(refine hK9 _ ?_;clear hK9 K9)|(simp only [push_cast];done)
 all_goals refine xD 4 fun K9 hK9=> ?_
 all_goals simp only [push_cast,↓zK,↓zJ,↓reduceIte,zA,zB,zC,zD,zE,zF,zG,zH,zI,reduceCtorEq]
 all_goals repeat'(first|(apply zP<;>(intro hg;(try simp only [push_cast]at hg)))|(refine⟨_,hA,?_⟩;simp only [push_cast,↓zK,↓zJ,↓reduceIte,zA,zB,zC,zD,zE,zF,zG,zH,zI,reduceCtorEq])|(refine⟨_,yV _ _ _,?_⟩;simp only [push_cast,↓zK,↓zJ,↓reduceIte,zA,zB,zC,zD,zE,zF,zG,zH,zI,reduceCtorEq])|apply And.intro|(intro hg;(try simp only [push_cast]at hg)))
 all_goals first|exact gA|(exact zV (by omega))|skip
 all_goals first|(refine hK9 _ ?_;clear hK9 K9)|(simp only [push_cast];done)
 all_goals simp only [push_cast,↓zK,↓zJ,↓reduceIte,zA,zB,zC,zD,zE,zF,zG,zH,zI,reduceCtorEq]
 all_goals repeat'(first|(apply zP<;>(intro hg;(try simp only [push_cast]at hg)))|(refine⟨_,hA,?_⟩;simp only [push_cast,↓zK,↓zJ,↓reduceIte,zA,zB,zC,zD,zE,zF,zG,zH,zI,reduceCtorEq])|(refine⟨_,yV _ _ _,?_⟩;simp only [push_cast,↓zK,↓zJ,↓reduceIte,zA,zB,zC,zD,zE,zF,zG,zH,zI,reduceCtorEq])|apply And.intro|(intro hg;(try simp only [push_cast]at hg)))
 all_goals first|exact gA|(exact zV (by omega))|skip
 all_goals first|(refine hK _ ?_;clear hK K)|(simp only [push_cast];done)
 all_goals refine zU rfl (fun hc=> ?_) (fun hc=> ?_)
 all_goals(first|(cases hc;done)|skip)
 all_goals(try simp only [push_cast]at hc)
 all_goals try(
   refine zL fun K hK=> ?_
   refine zM zO zN [] rfl ?_
   all_goals simp only [push_cast,↓zK,↓zJ,↓reduceIte,zA,zB,zC,zD,zE,zF,zG,zH,zI,reduceCtorEq]
   all_goals repeat'(first|(apply zP<;>(intro hg;(try simp only [push_cast]at hg)))|apply And.intro|(intro hg;(try simp only [push_cast]at hg)))
   all_goals first|exact gA|(exact zV (by omega))|skip
   all_goals first|(refine hK _ ?_;clear hK K)|(simp only [push_cast];done)
   refine zb ?_
   (try simp only [zR,zS])
   refine⟨Or.inl rfl,?_⟩
   simp only [zh,push_cast,↓zK,↓zJ,↓reduceIte,zA,zB,zC,zD,zE,zF,zG,zH,zI,reduceCtorEq]
   symm
   first|(rw [show yh a=false from by with_reducible assumption];rfl)|(rw [Ks (by omega),Bool.and_false])
   done)
 refine zY ?_
 (try simp only [zR,zS,reduceIte,zF]);refine hK1 _ ?_
 refine zL fun K2 hK2=> ?_
 have hok:yh a=true:=by with_reducible assumption
 refine zL fun K hK=> ?_
 refine zM zO zN [] rfl ?_
 all_goals simp only [push_cast,↓zK,↓zJ,↓reduceIte,zA,zB,zC,zD,zE,zF,zG,zH,zI,reduceCtorEq]
 all_goals repeat'(first|(apply zP<;>(intro hg;(try simp only [push_cast]at hg)))|apply And.intro|(intro hg;(try simp only [push_cast]at hg)))
 all_goals first|exact gA|(exact zV (by omega))|skip
 all_goals first|(refine hK _ ?_;clear hK K)|(simp only [push_cast];done)
 refine zd ?_
 refine zw [4,6,13,18,27,28,29,30,31,32,33,34,35,36,37,38,39,40,41,42,43,44,45] [] (fun(s:Nat)=> [(6, .int .i64 s)]) (fun s=> []) (fun s=> []) (fun s=>s≤m.next.length∧∀j,j<s→qC a (gl m.next j) (gl m.choice j) m.next.length=true) (fun s=>m.next.length - s) 0 ?_ ⟨by omega,fun j hj=>by omega⟩ ?_
 ·
  refine zg rfl ?_ ?_ ?_<;>simp only [zq,zp,push_cast,↓zK,↓zJ,↓reduceIte,zA,zB,zC,zD,zE,zF,zG,zH,zI,reduceCtorEq]
 ·rintro s ⟨hs,hall⟩ KL0 hL0
  have hrs:=hmr s
  have hcs:=hmc s
  simp only [push_cast,↓zK,↓zJ,↓reduceIte,zA,zB,zC,zD,zE,zF,zG,zH,zI,reduceCtorEq]
  refine zL fun K3 hK3=> ?_
  refine zL fun K hK=> ?_
  refine zM zO zN [] rfl ?_
  all_goals simp only [push_cast,↓zK,↓zJ,↓reduceIte,zA,zB,zC,zD,zE,zF,zG,zH,zI,reduceCtorEq]
  all_goals repeat'(first|(apply zP<;>(intro hg;(try simp only [push_cast]at hg)))|apply And.intro|(intro hg;(try simp only [push_cast]at hg)))
  all_goals first|exact gA|(exact zV (by omega))|skip
  all_goals first|(refine hK _ ?_;clear hK K)|(simp only [push_cast];done)
  refine zU rfl (fun hc=> ?_) (fun hc=> ?_)<;>(try simp only [push_cast]at hc)
  ·
   refine zY ?_
   (try simp only [zR,zS,reduceIte,zF]);refine hK3 _ ?_
   refine zL fun K4 hK4=> ?_
   refine zd ?_
   refine zL fun K hK=> ?_
   refine xk false zO zN qg ?_ rfl ?_
   ·kernel_rfl
   intro E hE
   all_goals refine Yi 13 (by decide) fun K9 hK9=> ?_
   all_goals simp only [push_cast,↓zK,↓zJ,↓reduceIte,zA,zB,zC,zD,zE,zF,zG,zH,zI,reduceCtorEq]
   all_goals repeat'(first|(apply zP<;>(intro hg;(try simp only [push_cast]at hg)))|(refine⟨_,hR (xE hok).2.2 _ (by omega) s,?_⟩;simp only [push_cast,↓zK,↓zJ,↓reduceIte,zA,zB,zC,zD,zE,zF,zG,zH,zI,reduceCtorEq])|apply And.intro|(intro hg;(try simp only [push_cast]at hg)))
   all_goals first|exact gA|(exact zV (by omega))|skip
   all_goals first|(refine hK9 _ _ ?_;clear hK9 K9)|(simp only [push_cast];done)
   all_goals simp only [push_cast,↓zK,↓zJ,↓reduceIte,zA,zB,zC,zD,zE,zF,zG,zH,zI,reduceCtorEq]
   all_goals repeat'(first|(apply zP<;>(intro hg;(try simp only [push_cast]at hg)))|(refine⟨_,hR (xE hok).2.2 _ (by omega) s,?_⟩;simp only [push_cast,↓zK,↓zJ,↓reduceIte,zA,zB,zC,zD,zE,zF,zG,zH,zI,reduceCtorEq])|apply And.intro|(intro hg;(try simp only [push_cast]at hg)))
   all_goals first|exact gA|(refine hE _ _ ?_ ?_;kernel_rfl)|(exact zV (by omega))|skip
   all_goals clear hE E
   all_goals first|(refine hK _ ?_;clear hK K)|(simp only [push_cast];done)
   refine zU rfl (fun hc=> ?_) (fun hc=> ?_)<;>(try simp only [push_cast]at hc)
   ·
    refine zL fun K hK=> ?_
    refine zM zO zN [] rfl ?_
    all_goals simp only [push_cast,↓zK,↓zJ,↓reduceIte,zA,zB,zC,zD,zE,zF,zG,zH,zI,reduceCtorEq]
    all_goals repeat'(first|(apply zP<;>(intro hg;(try simp only [push_cast]at hg)))|apply And.intro|(intro hg;(try simp only [push_cast]at hg)))
    all_goals first|exact gA|(exact zV (by omega))|skip
    all_goals first|(refine hK _ ?_;clear hK K)|(simp only [push_cast];done)
    refine zb ?_
    (try simp only [zR,zS])
    refine⟨Or.inl rfl,?_⟩
    simp only [zh,push_cast,↓zK,↓zJ,↓reduceIte,zA,zB,zC,zD,zE,zF,zG,zH,zI,reduceCtorEq]
    rw [Qm (s:=s) (by omega) (by with_reducible assumption),Bool.and_false]
   ·
    refine zY ?_
    (try simp only [zR,zS,reduceIte,zF]);refine hK4 _ ?_
    refine zM zO zN [] rfl ?_
    all_goals simp only [push_cast,↓zK,↓zJ,↓reduceIte,zA,zB,zC,zD,zE,zF,zG,zH,zI,reduceCtorEq]
    all_goals repeat'(first|(apply zP<;>(intro hg;(try simp only [push_cast]at hg)))|apply And.intro|(intro hg;(try simp only [push_cast]at hg)))
    all_goals first|exact gA|(exact zV (by omega))|skip
    refine hL0 _ ⟨s+1,⟨by omega,fun j hj=>(by
      by_cases hjs:j=s
      ·subst hjs;with_reducible assumption
      ·exact hall j (by omega))⟩,by omega,?_⟩
    refine zg rfl ?_ ?_ ?_<;>simp only [zq,zp,push_cast,↓zK,↓zJ,↓reduceIte,zA,zB,zC,zD,zE,zF,zG,zH,zI,reduceCtorEq]
  ·
   refine yA ?_
   (try simp only [zR,zS,reduceIte,zF]);refine hK2 _ ?_
   refine zL fun K hK=> ?_
   refine zM zO zN [] rfl ?_
   all_goals simp only [push_cast,↓zK,↓zJ,↓reduceIte,zA,zB,zC,zD,zE,zF,zG,zH,zI,reduceCtorEq]
   all_goals repeat'(first|(apply zP<;>(intro hg;(try simp only [push_cast]at hg)))|apply And.intro|(intro hg;(try simp only [push_cast]at hg)))
   all_goals first|exact gA|(exact zV (by omega))|skip
   all_goals first|(refine hK _ ?_;clear hK K)|(simp only [push_cast];done)
   refine zb ?_
   (try simp only [zR,zS])
   refine⟨Or.inl rfl,?_⟩
   simp only [zh,push_cast,↓zK,↓zJ,↓reduceIte,zA,zB,zC,zD,zE,zF,zG,zH,zI,reduceCtorEq]
   rw [hok,Kt (by omega) fun j hj=>hall j (by omega)];rfl
theorem Kx : ∀(N:Nat) (l:List Nat),l.Nodup→(∀x∈l,x<N)→l.length≤N
 |0,l,_,h=>by
  cases l with
  |nil=>simp
  |cons x l=>have :=h x List.mem_cons_self;omega
 |N+1,l,hn,h=>by
  have h1:=List.length_eq_countP_add_countP (p:=fun x=>x==N) (l:=l)
  have h2:l.countP (fun x=>x==N)≤1:=List.nodup_iff_count.1 hn N
  have h4:=Kx N (l.filter (fun x=> !(x==N))) (hn.filter _) fun x hx=>by
   have h5:=List.mem_filter.1 hx
   have h6:=h x h5.1
   have h7: ¬x=N:=by simpa using h5.2
   omega
  have h3:(l.filter (fun x=> !(x==N))).length=l.countP (fun x=> !(x==N)):=(List.countP_eq_length_filter ..).symm
  have h8:l.countP (fun x=>decide ¬(x==N)=true)=l.countP (fun x=> !(x==N)):=by
   congr 1
   funext x
   by_cases e:x=N<;>simp [e]
  omega
theorem vA {xs:List Int}{y:Int}{j:Nat}(h:j<xs.length+1):gi (xs++ [y]) j=if j=xs.length then y else gi xs j:=by
 by_cases e:j=xs.length
 ·subst e;rw [if_pos rfl,XQ]
 ·rw [if_neg e,XP (by omega)]
def goP (a:Ar)(even odd:List Int)(v:Int):Int:=if gi a.owner v.toNat=0 then gi even v.toNat else gi odd v.toNat
structure Jt (a:Ar)(even odd:List Int)(v0:Int)(met:List Int)(v:Int):Prop where
 rg: ∀j,j<met.length→0≤gi met j∧gi met j<a.owner.length
 ne: ∀j,j<met.length→∀i,i<j→¬gi met i=gi met j
 go: ∀j,j+1<met.length→gi met (j+1)=goP a even odd (gi met j)
 last:1≤met.length→v=goP a even odd (gi met (met.length - 1))
 f0:met.length=0→v=v0
 f1:1≤met.length→gi met 0=v0
 hv:0≤v∧v<a.owner.length
theorem Jt.start {a:Ar}{even odd:List Int}{v0:Int}(h:0≤v0∧v0<a.owner.length):Jt a even odd v0 [] v0:=
 ⟨fun j hj=>by simp at hj,fun j hj=>by simp at hj,fun j hj=>by simp at hj,fun h=>by simp at h,fun _=>rfl,fun h=>by simp at h,h⟩
theorem Jt.next {a:Ar}{even odd:List Int}{v0:Int}{met:List Int}{v:Int}(h:Jt a even odd v0 met v)(hn:vJ met v=false)(hg:0≤goP a even odd v∧goP a even odd v<a.owner.length):Jt a even odd v0 (met++ [v]) (goP a even odd v):=by
 have hne: ∀i,i<met.length→¬gi met i=v:=fun i hi e=>by
  have h1:v∈met:=by rw [←e];exact List.mem_of_getElem? (ZR hi)
  rw [←Kf]at h1
  rw [h1]at hn
  cases hn
 have hl:(met++ [v]).length=met.length+1:=by simp
 refine⟨fun j hj=> ?_,fun j hj i hi=> ?_,fun j hj=> ?_,fun _=> ?_,fun e=>by rw [hl]at e;omega,fun _=> ?_,hg⟩
 ·rw [hl]at hj
  rw [vA hj]
  split
  ·exact h.hv
  ·exact h.rg j (by omega)
 ·rw [hl]at hj
  rw [vA hj,vA (by omega),if_neg (by omega)]
  split
  ·exact hne i (by omega)
  ·exact h.ne j (by omega) i hi
 ·rw [hl]at hj
  rw [vA (j:=j+1) (by omega),vA (j:=j) (by omega),if_neg (show ¬j=met.length by omega)]
  split
  ·have h5:=h.last (by omega)
   rw [show met.length - 1=j from by omega]at h5
   exact h5
  ·exact h.go j (by omega)
 ·rw [hl,Nat.add_sub_cancel,vA (j:=met.length) (by omega),if_pos rfl]
 ·rw [vA (by omega)]
  split
  ·exact h.f0 (by omega)
  ·exact h.f1 (by omega)
structure PlayP (a:Ar)(even odd:List Int)(v0:Int)(l:Ls):Prop where
 ok:zCx a l=true
 first:gi (Yw l) 0=v0
 rg: ∀i,i≤l.stem.length+l.loop.length→0≤gi (Yw l) i∧gi (Yw l) i<a.owner.length
 go: ∀i,i<l.stem.length+l.loop.length→gi (Yw l) (i+1)=goP a even odd (gi (Yw l) i)
 last:gi (Yw l) (l.stem.length+l.loop.length)=gi (Yw l) l.stem.length
 pos:1≤l.loop.length
 len:l.stem.length+l.loop.length≤a.owner.length
structure kd (a:Ar)(m:Me)(path st:List Int)(v s:Int):Prop where
 len:st.length=path.length
 rg: ∀j,j<path.length→(0≤gi path j∧gi path j<a.owner.length)∧0≤gi st j∧gi st j<m.next.length
 ne: ∀j,j<path.length→∀i,i<j→¬(gi path i=gi path j∧gi st i=gi st j)
 hv:0≤v∧v<a.owner.length
 hs:0≤s∧s<m.next.length
theorem kd.next {a:Ar}{m:Me}{path st:List Int}{v s:Int}(h:kd a m path st v s)(hno: ∀j,j<path.length→¬(gi path j=v∧gi st j=s)){v' s':Int}(hv:0≤v'∧v'<a.owner.length)(hs:0≤s'∧s'<m.next.length):kd a m (path++ [v]) (st++ [s]) v' s':=by
 have hl:=h.len
 refine⟨by simp [hl],fun j hj=> ?_,fun j hj i hi=> ?_,hv,hs⟩
 ·rw [List.length_append]at hj
  have hj:j<path.length+1:=hj
  rw [vA hj,vA (by omega),hl]
  split
  ·exact⟨h.hv,h.hs⟩
  ·exact h.rg j (by omega)
 ·rw [List.length_append]at hj
  have hj:j<path.length+1:=hj
  have e1:gi (path++ [v]) i=gi path i:=XP (by omega)
  have e2:gi (st++ [s]) i=gi st i:=XP (by omega)
  rw [e1,e2]
  by_cases e:j=path.length
  ·subst e
   rw [XQ]
   have e3:gi (st++ [s]) path.length=s:=by rw [←hl];exact XQ
   rw [e3]
   exact hno i (by omega)
  ·have e3:gi (path++ [v]) j=gi path j:=XP (by omega)
   have e4:gi (st++ [s]) j=gi st j:=XP (by omega)
   rw [e3,e4]
   exact h.ne j (by omega) i hi
theorem vD {a:Ar}{m:Me}(h:vL a m=true):(1≤m.next.length∧m.next.length≤24∧m.choice.length=m.next.length)∧∀s,s<m.next.length→(gl m.next s).length=a.owner.length∧vE a 0 (gl m.choice s)=true∧∀v,v<(gl m.next s).length→0≤gi (gl m.next s) v∧gi (gl m.next s) v<m.next.length:=by
 unfold vL at h
 rw [Bool.and_eq_true,decide_eq_true_eq]at h
 refine⟨h.1,fun s hs=> ?_⟩
 have h2:=va (p:=fun s=>qC a (gl m.next s) (gl m.choice s) m.next.length) h.2 hs
 unfold qC at h2
 rw [Bool.and_eq_true,Bool.and_eq_true,decide_eq_true_eq]at h2
 exact⟨h2.1,h2.2.1,fun v hv=>of_decide_eq_true (va (p:=fun v=>decide (0≤gi (gl m.next s) v∧gi (gl m.next s) v<(m.next.length:Int))) h2.2.2 hv)⟩
structure Plc where
 at_:Int
 record:List Int
 deriving DecidableEq
def KU (x:Plc):List D:= [.int .i64 x.at_,DI x.record]
def Plc.tot (x:Plc):Nat:=x.record.length
structure Plc.Ln (B:Nat)(x:Plc):Prop where
 record:LnI B x.record
theorem Plc.ln_of {B:Nat}{x:Plc}(h:x.tot≤B):x.Ln B:=by
 unfold Plc.tot at h
 exact⟨wy (by omega)⟩
set_option maxHeartbeats 1000000 in
theorem zAT (x:Plc)(ha:x.Ln 1048576):Fn Try.prog tyT 70 [.agg (KU x), .agg (KU x)] [.c (.bool true)]:=by
 unfold KU
 refine yM (fn:=Try.f70) (ts:= [4]) Try.func70 (by kernel_rfl) rfl rfl (by rw [Try.ntmps70];exact Nat.le_of_ble_eq_true rfl) rfl (by simp only [szA,List.mem_cons,List.not_mem_nil,or_false,forall_eq_or_imp,forall_eq,VT.cells,szL];try decide) ?_
 rw [Try.ntmps70]
 simp only [push_cast,↓zK,↓zJ,↓reduceIte,zA,zB,zC,zD,zE,zF,zG,zH,zI,reduceCtorEq]
 refine zL fun K hK=> ?_
 refine zM zO zN [] rfl ?_
 simp only [push_cast,↓zK,↓zJ,↓reduceIte,zA,zB,zC,zD,zE,zF,zG,zH,zI,reduceCtorEq]
 repeat' apply And.intro
 all_goals try exact gB
 all_goals first|(refine hK _ ?_;clear hK K)|(simp only [push_cast];done)
 refine zL fun K0 hK0=> ?_
 refine zL fun K hK=> ?_
 refine zM zO zN [] rfl ?_
 simp only [push_cast,↓zK,↓zJ,↓reduceIte,zA,zB,zC,zD,zE,zF,zG,zH,zI,reduceCtorEq]
 repeat' apply And.intro
 all_goals try exact gB
 all_goals first|(refine hK _ ?_;clear hK K)|(simp only [push_cast];done)
 refine zU rfl (fun hc=>by simp at hc) (fun _=> ?_)
 refine zY ?_
 (try simp only [zR,zS,reduceIte,zF]);refine hK0 _ ?_
 refine zL fun K1 hK1=> ?_
 have hA:=kL x.record ha.record
 refine zL fun K hK=> ?_
 refine zM zO zN [] rfl ?_
 simp only [push_cast,↓zK,↓zJ,↓reduceIte,zA,zB,zC,zD,zE,zF,zG,zH,zI,reduceCtorEq]
 refine⟨_,hA,?_⟩
 simp only [push_cast,↓zK,↓zJ,↓reduceIte,zA,zB,zC,zD,zE,zF,zG,zH,zI,reduceCtorEq]
 repeat' apply And.intro
 all_goals try exact gB
 refine hK _ ?_
 clear hK K hA
 refine zU rfl (fun hc=>by cases hc) (fun _=> ?_)
 refine zY ?_
 (try simp only [zR,zS,reduceIte,zF]);refine hK1 _ ?_
 refine zL fun K hK=> ?_
 refine zM zO zN [] rfl ?_
 simp only [push_cast,↓zK,↓zJ,↓reduceIte,zA,zB,zC,zD,zE,zF,zG,zH,zI,reduceCtorEq]
 repeat' apply And.intro
 all_goals try exact gB
 all_goals first|(refine hK _ ?_;clear hK K)|(simp only [push_cast];done)
 refine zb ?_
 (try simp only [zR,zS])
 refine⟨Or.inl rfl,?_⟩
 simp only [zh,push_cast,↓zK,↓zJ,↓reduceIte,zA,zB,zC,zD,zE,zF,zG,zH,zI,reduceCtorEq]
end Go.Proofs.Ythepmdkpbjfdcaa
