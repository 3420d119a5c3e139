/- parity games and scores: both sides -/
import Derived.Test.YtdbecmmeifdafaaGWzbr
import Derived.Test.YtdbecmmeifdafaaB7zbr
import Derived.Test.YtdbecmmeifdafaaB4zbr
import Derived.Test.YtdbecmmeifdafaaB8zbr
import Derived.Test.YtdbecmmeifdafaaGKzbr
import Derived.Test.YtdbecmmeifdafaaGEzbr
namespace Go.Proofs.Ytdbecmmeifdafaa
open Nat renaming reduceMod → zA, reduceMul → zB, reduceDiv → zC, reduceAdd → zD, reduceSub → zE, reduceEqDiff → zF, reduceBEq → zG, reduceLT → zH, reduceLeDiff → zI
open Go.RowKit
set_option linter.unusedVariables false
set_option linter.unusedSimpArgs false
def yD (g:Pa):Bool:=yA g.a&&(decide (g.prio.length=g.a.owner.length)&&ZB g.prio.length (fun k=>decide (0≤gi g.prio k∧gi g.prio k≤40)))
theorem JT {g:Pa}(h:yA g.a=false):yD g=false:=by unfold yD;rw [h];rfl
theorem JR {g:Pa}(h: ¬g.prio.length=g.a.owner.length):yD g=false:=by unfold yD;rw [decide_eq_false h,Bool.false_and,Bool.and_false]
theorem Jd {g:Pa}{k:Nat}(hk:k<g.prio.length)(h: ¬(0≤gi g.prio k∧gi g.prio k≤40)):yD g=false:=by unfold yD;rw [vd hk (decide_eq_false h),Bool.and_false,Bool.and_false]
theorem JQ {g:Pa}(h1:yA g.a=true)(h2:g.prio.length=g.a.owner.length)(h3: ∀k,k<g.prio.length→0≤gi g.prio k∧gi g.prio k≤40):yD g=true:=by
 unfold yD;rw [h1,decide_eq_true h2,xO fun k hk=>decide_eq_true (h3 k hk)];rfl
theorem XV {g:Pa}(h:yD g=true):yA g.a=true∧g.prio.length=g.a.owner.length∧1≤g.a.owner.length∧g.a.owner.length≤256∧g.a.next.length=g.a.owner.length∧∀k,k<g.prio.length→0≤gi g.prio k∧gi g.prio k≤40:=by
 unfold yD at h
 rw [Bool.and_eq_true,Bool.and_eq_true,decide_eq_true_eq]at h
 have hl:=zw h.1
 exact⟨h.1,h.2.1,hl.1,hl.2.1,hl.2.2,fun k hk=>of_decide_eq_true (xR h.2.2 hk)⟩
def pw (n:Int):Nat→Int
 |0=>1
 |k+1=>pw n k*n
def sg (n:Int)(k:Nat):Int:=if k%2=1 then -pw n k else pw n k
theorem ZO {n:Int}(h:1≤n): ∀k,1≤pw n k
 |0=>Int.le_refl _
 |k+1=>by
  have h1:=ZO h k
  have :1*n≤pw n k*n:=Int.mul_le_mul_of_nonneg_right h1 (by omega)
  rw [pw];omega
theorem pw_s {n:Int}(h:1≤n)(k:Nat):pw n k≤pw n (k+1):=by
 have h1:=ZO h k
 have :pw n k*1≤pw n k*n:=Int.mul_le_mul_of_nonneg_left h (by omega)
 rw [pw];omega
theorem zCB {n:Int}(h:1≤n){j k:Nat}(hj:j≤k):pw n j≤pw n k:=by
 induction k with
 |zero=>
      have :j=0:=by omega
      subst this;exact Int.le_refl _
 |succ k ih=>
  by_cases e:j=k+1
  ·subst e;exact Int.le_refl _
  ·exact Int.le_trans (ih (by omega)) (pw_s h k)
theorem sg_s (n:Int)(k:Nat):sg n (k+1)=sg n k* -n:=by
 unfold sg
 rw [pw]
 by_cases h:k%2=1
 ·rw [if_pos h,if_neg (by omega),Int.neg_mul_neg]
 ·rw [if_neg h,if_pos (by omega),Int.mul_neg]
theorem jN {n:Int}(h:1≤n)(k:Nat):sg n k=pw n k∨sg n k= -pw n k:=by unfold sg;split<;>simp
theorem pw_le {n:Int}(h:1≤n∧n≤256){k:Nat}(hk:pw n k≤1000):1≤pw n (k+1)∧pw n (k+1)≤256000:=by
 refine⟨ZO h.1 _,?_⟩
 have h1:=ZO h.1 k
 have :pw n k*n≤pw n k*256:=Int.mul_le_mul_of_nonneg_left h.2 (by omega)
 rw [pw];omega
def vL (n:Int)(p:Nat):Bool:=decide (pw n p≤1000)
def vU (n:Int)(p:Nat):Int:=if pw n p≤1000 then sg n p else 0
theorem zEj {n:Int}(h:1≤n){k p:Nat}(hk:k≤p)(h2: ¬pw n k≤1000):vL n p=false∧vU n p=0:=by
 have :=zCB h hk
 unfold vL vU
 exact⟨decide_eq_false (by omega),if_neg (by omega)⟩
theorem VE {n:Int}{p:Nat}(h2:pw n p≤1000):vL n p=true∧vU n p=sg n p:=⟨decide_eq_true h2,if_pos h2⟩
theorem zHF {p:Int}(h:0≤p):p.tmod 2=((p.toNat%2:Nat):Int):=by
 rw [Int.tmod_eq_emod_of_nonneg h]
 omega
set_option maxRecDepth 20000 in
set_option maxHeartbeats 4000000 in
theorem We (g:Pa)(hg:g.Ln 1048576):Fn Try.prog tyT 104 [.agg (dPa g)] [.c (.bool (yD g))]:=by
 have hpl:=hg.prio
 have hno:=hg.a.owner
 unfold LnI at hpl hno
 have hA:=Jg g.a hg.a
 unfold dAr at hA
 unfold dPa
 refine zt (fn:=Try.f104) (ts:= [2]) Try.func104 (by kernel_rfl) rfl rfl (by rw [Try.ntmps104];exact Nat.le_of_ble_eq_true rfl) rfl (by simp only [szA,List.mem_cons,List.not_mem_nil,or_false,forall_eq_or_imp,forall_eq,VT.cells,szL];try decide) ?_
 rw [Try.ntmps104]
 simp only [push_cast,↓zK,↓zJ,↓reduceIte,zA,zB,zC,zD,zE,zF,zG,zH,zI,reduceCtorEq]
 refine zL fun K hK=> ?_
 refine zM zP zN [] rfl ?_
 simp only [push_cast,↓zK,↓zJ,↓reduceIte,zA,zB,zC,zD,zE,zF,zG,zH,zI,reduceCtorEq]
 repeat' apply And.intro
 all_goals try exact gB
 all_goals first|(refine hK _ ?_;clear hK K)|(simp only [push_cast];done)
 refine zL fun K1 hK1=> ?_
 refine zL fun K hK=> ?_
 refine zf false zP zN ?_ rfl ?_
 ·kernel_rfl
 all_goals refine zp 3 fun K9 hK9=> ?_
 all_goals simp only [push_cast,↓zK,↓zJ,↓reduceIte,zA,zB,zC,zD,zE,zF,zG,zH,zI,reduceCtorEq]
 all_goals repeat'(first|(apply zO<;>(intro hg;(try simp only [push_cast]at hg)))|(refine⟨_,hA,?_⟩;simp only [push_cast,↓zK,↓zJ,↓reduceIte,zA,zB,zC,zD,zE,zF,zG,zH,zI,reduceCtorEq])|apply And.intro|(intro hg;(try simp only [push_cast]at hg)))
 all_goals try exact gA
 all_goals first|(refine hK9 _ ?_;clear hK9 K9)|(simp only [push_cast];done)
 all_goals simp only [push_cast,↓zK,↓zJ,↓reduceIte,zA,zB,zC,zD,zE,zF,zG,zH,zI,reduceCtorEq]
 all_goals repeat'(first|(apply zO<;>(intro hg;(try simp only [push_cast]at hg)))|(refine⟨_,hA,?_⟩;simp only [push_cast,↓zK,↓zJ,↓reduceIte,zA,zB,zC,zD,zE,zF,zG,zH,zI,reduceCtorEq])|apply And.intro|(intro hg;(try simp only [push_cast]at hg)))
 all_goals try exact gA
 all_goals first|(refine hK _ ?_;clear hK K)|(simp only [push_cast];done)
 all_goals refine zU rfl (fun hc=> ?_) (fun hc=> ?_)
 all_goals(first|(cases hc;done)|skip)
 all_goals(try simp only [push_cast]at hc)
 all_goals try(
   refine zL fun K hK=> ?_
   refine zM zP zN [] rfl ?_
   simp only [push_cast,↓zK,↓zJ,↓reduceIte,zA,zB,zC,zD,zE,zF,zG,zH,zI,reduceCtorEq]
   repeat' apply And.intro
   all_goals try exact gB
   all_goals first|(refine hK _ ?_;clear hK K)|(simp only [push_cast];done)
   refine zX ?_
   (try simp only [zR,zS])
   refine⟨Or.inl rfl,?_⟩
   simp only [zg,push_cast,↓zK,↓zJ,↓reduceIte,zA,zB,zC,zD,zE,zF,zG,zH,zI,reduceCtorEq]
   symm
   first|exact JT (by with_reducible assumption)|exact JR (by omega)
   done)
 refine zV ?_
 (try simp only [zR,zS,reduceIte,zF]);refine hK1 _ ?_
 refine zL fun K2 hK2=> ?_
 refine zL fun K hK=> ?_
 refine zM zP zN [] rfl ?_
 simp only [push_cast,↓zK,↓zJ,↓reduceIte,zA,zB,zC,zD,zE,zF,zG,zH,zI,reduceCtorEq]
 repeat' apply And.intro
 all_goals try exact gB
 all_goals first|(refine hK _ ?_;clear hK K)|(simp only [push_cast];done)
 refine zT ?_
 refine zd [2,4,9,22,23,24,25,26,27,28,29,30,31,32] [] (fun(k:Nat)=> [(22, .int .i64 k)]) (fun k=> []) (fun k=> []) (fun k=>k≤g.prio.length∧∀j,j<k→0≤gi g.prio j∧gi g.prio j≤40) (fun k=>g.prio.length - k) 0 ?_ ⟨by omega,fun j hj=>by omega⟩ ?_
 ·
  refine zW rfl ?_ ?_ ?_<;>simp only [zc,zb,push_cast,↓zK,↓zJ,↓reduceIte,zA,zB,zC,zD,zE,zF,zG,zH,zI,reduceCtorEq]
 ·rintro k ⟨hk,hall⟩ KL0 hL0
  simp only [push_cast,↓zK,↓zJ,↓reduceIte,zA,zB,zC,zD,zE,zF,zG,zH,zI,reduceCtorEq]
  refine zL fun K hK=> ?_
  refine zM zP zN [] rfl ?_
  simp only [push_cast,↓zK,↓zJ,↓reduceIte,zA,zB,zC,zD,zE,zF,zG,zH,zI,reduceCtorEq]
  repeat' apply And.intro
  all_goals try exact gB
  all_goals first|(refine hK _ ?_;clear hK K)|(simp only [push_cast];done)
  refine zL fun K3 hK3=> ?_
  refine zU rfl (fun hc=> ?_) (fun hc=> ?_)<;>(try simp only [push_cast]at hc)
  ·
   refine zV ?_
   (try simp only [zR,zS,reduceIte,zF]);refine hK3 _ ?_
   refine zL fun K4 hK4=> ?_
   refine zT ?_
   refine zL fun K hK=> ?_
   refine zM zP zN [] rfl ?_
   simp only [push_cast,↓zK,↓zJ,↓reduceIte,zA,zB,zC,zD,zE,zF,zG,zH,zI,reduceCtorEq]
   repeat' apply And.intro
   all_goals try exact gB
   all_goals first|(refine hK _ ?_;clear hK K)|(simp only [push_cast];done)
   refine zL fun K hK=> ?_
   refine zf false zP zN ?_ rfl ?_
   ·kernel_rfl
   all_goals simp only [push_cast,↓zK,↓zJ,↓reduceIte,zA,zB,zC,zD,zE,zF,zG,zH,zI,reduceCtorEq]
   all_goals repeat'(first|(apply zO<;>(intro hg;(try simp only [push_cast]at hg)))|(refine⟨_,hA,?_⟩;simp only [push_cast,↓zK,↓zJ,↓reduceIte,zA,zB,zC,zD,zE,zF,zG,zH,zI,reduceCtorEq])|apply And.intro|(intro hg;(try simp only [push_cast]at hg)))
   all_goals try exact gA
   all_goals first|(refine hK _ ?_;clear hK K)|(simp only [push_cast];done)
   all_goals refine zU rfl (fun hc=> ?_) (fun hc=> ?_)
   all_goals(first|(cases hc;done)|skip)
   all_goals(try simp only [push_cast]at hc)
   all_goals try(
     refine zL fun K hK=> ?_
     refine zM zP zN [] rfl ?_
     simp only [push_cast,↓zK,↓zJ,↓reduceIte,zA,zB,zC,zD,zE,zF,zG,zH,zI,reduceCtorEq]
     repeat' apply And.intro
     all_goals try exact gB
     all_goals first|(refine hK _ ?_;clear hK K)|(simp only [push_cast];done)
     refine zX ?_
     (try simp only [zR,zS])
     refine⟨Or.inl rfl,?_⟩
     simp only [zg,push_cast,↓zK,↓zJ,↓reduceIte,zA,zB,zC,zD,zE,zF,zG,zH,zI,reduceCtorEq]
     symm
     exact Jd (k:=k) (by omega) (by omega)
     done)
   refine zV ?_
   (try simp only [zR,zS,reduceIte,zF]);refine hK4 _ ?_
   refine zM zP zN [] rfl ?_
   simp only [push_cast,↓zK,↓zJ,↓reduceIte,zA,zB,zC,zD,zE,zF,zG,zH,zI,reduceCtorEq]
   repeat' apply And.intro
   all_goals try exact gB
   refine hL0 _ ⟨k+1,⟨by omega,fun j hj=>(by
     by_cases hjk:j=k
     ·subst hjk;omega
     ·exact hall j (by omega))⟩,by omega,?_⟩
   refine zW rfl ?_ ?_ ?_<;>simp only [zc,zb,push_cast,↓zK,↓zJ,↓reduceIte,zA,zB,zC,zD,zE,zF,zG,zH,zI,reduceCtorEq]
  ·
   refine ze ?_
   (try simp only [zR,zS,reduceIte,zF]);refine hK2 _ ?_
   refine zL fun K hK=> ?_
   refine zM zP zN [] rfl ?_
   simp only [push_cast,↓zK,↓zJ,↓reduceIte,zA,zB,zC,zD,zE,zF,zG,zH,zI,reduceCtorEq]
   repeat' apply And.intro
   all_goals try exact gB
   all_goals first|(refine hK _ ?_;clear hK K)|(simp only [push_cast];done)
   refine zX ?_
   (try simp only [zR,zS])
   refine⟨Or.inl rfl,?_⟩
   simp only [zg,push_cast,↓zK,↓zJ,↓reduceIte,zA,zB,zC,zD,zE,zF,zG,zH,zI,reduceCtorEq]
   symm
   exact JQ (by with_reducible assumption) (by omega) fun j hj=>hall j (by omega)
set_option maxRecDepth 20000 in
set_option maxHeartbeats 4000000 in
theorem XS (g:Pa)(hg:g.Ln 1048576):Fn Try.prog tyT 98 [.agg (dPa g)] [.c (.bool (yD g))]:=by
 have hpl:=hg.prio
 have hno:=hg.a.owner
 unfold LnI at hpl hno
 have hA:=Jh g.a hg.a
 unfold dAr at hA
 unfold dPa
 refine zt (fn:=Try.f98) (ts:= [2]) Try.func98 (by kernel_rfl) rfl rfl (by rw [Try.ntmps98];exact Nat.le_of_ble_eq_true rfl) rfl (by simp only [szA,List.mem_cons,List.not_mem_nil,or_false,forall_eq_or_imp,forall_eq,VT.cells,szL];try decide) ?_
 rw [Try.ntmps98]
 simp only [push_cast,↓zK,↓zJ,↓reduceIte,zA,zB,zC,zD,zE,zF,zG,zH,zI,reduceCtorEq]
 refine zL fun K hK=> ?_
 refine zM zP zN [] rfl ?_
 simp only [push_cast,↓zK,↓zJ,↓reduceIte,zA,zB,zC,zD,zE,zF,zG,zH,zI,reduceCtorEq]
 repeat' apply And.intro
 all_goals try exact gB
 all_goals first|(refine hK _ ?_;clear hK K)|(simp only [push_cast];done)
 refine zL fun K1 hK1=> ?_
 refine zL fun K hK=> ?_
 refine zf false zP zN ?_ rfl ?_
 ·kernel_rfl
 all_goals refine zp 3 fun K9 hK9=> ?_
 all_goals simp only [push_cast,↓zK,↓zJ,↓reduceIte,zA,zB,zC,zD,zE,zF,zG,zH,zI,reduceCtorEq]
 all_goals repeat'(first|(apply zO<;>(intro hg;(try simp only [push_cast]at hg)))|(refine⟨_,hA,?_⟩;simp only [push_cast,↓zK,↓zJ,↓reduceIte,zA,zB,zC,zD,zE,zF,zG,zH,zI,reduceCtorEq])|apply And.intro|(intro hg;(try simp only [push_cast]at hg)))
 all_goals try exact gA
 all_goals first|(refine hK9 _ ?_;clear hK9 K9)|(simp only [push_cast];done)
 all_goals simp only [push_cast,↓zK,↓zJ,↓reduceIte,zA,zB,zC,zD,zE,zF,zG,zH,zI,reduceCtorEq]
 all_goals repeat'(first|(apply zO<;>(intro hg;(try simp only [push_cast]at hg)))|(refine⟨_,hA,?_⟩;simp only [push_cast,↓zK,↓zJ,↓reduceIte,zA,zB,zC,zD,zE,zF,zG,zH,zI,reduceCtorEq])|apply And.intro|(intro hg;(try simp only [push_cast]at hg)))
 all_goals try exact gA
 all_goals first|(refine hK _ ?_;clear hK K)|(simp only [push_cast];done)
 all_goals refine zU rfl (fun hc=> ?_) (fun hc=> ?_)
 all_goals(first|(cases hc;done)|skip)
 all_goals(try simp only [push_cast]at hc)
 all_goals try(
   refine zL fun K hK=> ?_
   refine zM zP zN [] rfl ?_
   simp only [push_cast,↓zK,↓zJ,↓reduceIte,zA,zB,zC,zD,zE,zF,zG,zH,zI,reduceCtorEq]
   repeat' apply And.intro
   all_goals try exact gB
   all_goals first|(refine hK _ ?_;clear hK K)|(simp only [push_cast];done)
   refine zX ?_
   (try simp only [zR,zS])
   refine⟨Or.inl rfl,?_⟩
   simp only [zg,push_cast,↓zK,↓zJ,↓reduceIte,zA,zB,zC,zD,zE,zF,zG,zH,zI,reduceCtorEq]
   symm
   first|exact JT (by with_reducible assumption)|exact JR (by omega)
   done)
 refine zV ?_
 (try simp only [zR,zS,reduceIte,zF]);refine hK1 _ ?_
 refine zL fun K2 hK2=> ?_
 refine zL fun K hK=> ?_
 refine zM zP zN [] rfl ?_
 simp only [push_cast,↓zK,↓zJ,↓reduceIte,zA,zB,zC,zD,zE,zF,zG,zH,zI,reduceCtorEq]
 repeat' apply And.intro
 all_goals try exact gB
 all_goals first|(refine hK _ ?_;clear hK K)|(simp only [push_cast];done)
 refine zT ?_
 refine zd [2,3,8,18,19,20,21,22,23,24,25,26,27,28,29,30,31] [] (fun(k:Nat)=> [(3, .int .i64 k)]) (fun k=> []) (fun k=> []) (fun k=>k≤g.prio.length∧∀j,j<k→0≤gi g.prio j∧gi g.prio j≤40) (fun k=>g.prio.length - k) 0 ?_ ⟨by omega,fun j hj=>by omega⟩ ?_
 ·
  refine zW rfl ?_ ?_ ?_<;>simp only [zc,zb,push_cast,↓zK,↓zJ,↓reduceIte,zA,zB,zC,zD,zE,zF,zG,zH,zI,reduceCtorEq]
 ·rintro k ⟨hk,hall⟩ KL0 hL0
  simp only [push_cast,↓zK,↓zJ,↓reduceIte,zA,zB,zC,zD,zE,zF,zG,zH,zI,reduceCtorEq]
  refine zL fun K3 hK3=> ?_
  refine zL fun K hK=> ?_
  refine zM zP zN [] rfl ?_
  simp only [push_cast,↓zK,↓zJ,↓reduceIte,zA,zB,zC,zD,zE,zF,zG,zH,zI,reduceCtorEq]
  repeat' apply And.intro
  all_goals try exact gB
  all_goals first|(refine hK _ ?_;clear hK K)|(simp only [push_cast];done)
  refine zU rfl (fun hc=> ?_) (fun hc=> ?_)<;>(try simp only [push_cast]at hc)
  ·
   refine zV ?_
   (try simp only [zR,zS,reduceIte,zF]);refine hK3 _ ?_
   refine zL fun K4 hK4=> ?_
   refine zT ?_
   refine zL fun K hK=> ?_
   refine zM zP zN [] rfl ?_
   all_goals refine zm 6 fun K9 hK9=> ?_
   all_goals simp only [push_cast,↓zK,↓zJ,↓reduceIte,zA,zB,zC,zD,zE,zF,zG,zH,zI,reduceCtorEq]
   all_goals repeat'(first|(apply zO<;>(intro hg;(try simp only [push_cast]at hg)))|(refine⟨_,xG _ _ _,?_⟩;simp only [push_cast,↓zK,↓zJ,↓reduceIte,zA,zB,zC,zD,zE,zF,zG,zH,zI,reduceCtorEq])|apply And.intro|(intro hg;(try simp only [push_cast]at hg)))
   all_goals try exact gA
   all_goals first|(refine hK9 _ ?_;clear hK9 K9)|(simp only [push_cast];done)
   all_goals simp only [push_cast,↓zK,↓zJ,↓reduceIte,zA,zB,zC,zD,zE,zF,zG,zH,zI,reduceCtorEq]
   all_goals repeat'(first|(apply zO<;>(intro hg;(try simp only [push_cast]at hg)))|(refine⟨_,xG _ _ _,?_⟩;simp only [push_cast,↓zK,↓zJ,↓reduceIte,zA,zB,zC,zD,zE,zF,zG,zH,zI,reduceCtorEq])|apply And.intro|(intro hg;(try simp only [push_cast]at hg)))
   all_goals try exact gA
   all_goals first|(refine hK _ ?_;clear hK K)|(simp only [push_cast];done)
   refine zU rfl (fun hc=> ?_) (fun hc=> ?_)<;>(try simp only [push_cast]at hc)
   ·
    refine zL fun K hK=> ?_
    refine zM zP zN [] rfl ?_
    simp only [push_cast,↓zK,↓zJ,↓reduceIte,zA,zB,zC,zD,zE,zF,zG,zH,zI,reduceCtorEq]
    repeat' apply And.intro
    all_goals try exact gB
    all_goals first|(refine hK _ ?_;clear hK K)|(simp only [push_cast];done)
    refine zX ?_
    (try simp only [zR,zS])
    refine⟨Or.inl rfl,?_⟩
    simp only [zg,push_cast,↓zK,↓zJ,↓reduceIte,zA,zB,zC,zD,zE,zF,zG,zH,zI,reduceCtorEq]
    symm
    exact Jd (k:=k) (by omega) (by omega)
   ·
    refine zV ?_
    (try simp only [zR,zS,reduceIte,zF]);refine hK4 _ ?_
    refine zM zP zN [] rfl ?_
    simp only [push_cast,↓zK,↓zJ,↓reduceIte,zA,zB,zC,zD,zE,zF,zG,zH,zI,reduceCtorEq]
    repeat' apply And.intro
    all_goals try exact gB
    refine hL0 _ ⟨k+1,⟨by omega,fun j hj=>(by
      by_cases hjk:j=k
      ·subst hjk;omega
      ·exact hall j (by omega))⟩,by omega,?_⟩
    refine zW rfl ?_ ?_ ?_<;>simp only [zc,zb,push_cast,↓zK,↓zJ,↓reduceIte,zA,zB,zC,zD,zE,zF,zG,zH,zI,reduceCtorEq]
  ·
   refine ze ?_
   (try simp only [zR,zS,reduceIte,zF]);refine hK2 _ ?_
   refine zL fun K hK=> ?_
   refine zM zP zN [] rfl ?_
   simp only [push_cast,↓zK,↓zJ,↓reduceIte,zA,zB,zC,zD,zE,zF,zG,zH,zI,reduceCtorEq]
   repeat' apply And.intro
   all_goals try exact gB
   all_goals first|(refine hK _ ?_;clear hK K)|(simp only [push_cast];done)
   refine zX ?_
   (try simp only [zR,zS])
   refine⟨Or.inl rfl,?_⟩
   simp only [zg,push_cast,↓zK,↓zJ,↓reduceIte,zA,zB,zC,zD,zE,zF,zG,zH,zI,reduceCtorEq]
   symm
   exact JQ (by with_reducible assumption) (by omega) fun j hj=>hall j (by omega)
set_option maxRecDepth 20000 in
set_option maxHeartbeats 4000000 in
theorem zDD (g:Pa)(hg:g.Ln 1048576)(hok:yD g=true)(v:Nat)(hv:v<g.a.owner.length):Fn Try.prog tyT 128 [.agg (dPa g), .c (.int .i64 v)] [.c (.int .i64 (vU g.a.owner.length (gi g.prio v).toNat)), .c (.bool (vL g.a.owner.length (gi g.prio v).toNat))]:=by
 have hpl:=hg.prio
 have hno:=hg.a.owner
 unfold LnI at hpl hno
 obtain⟨h1,h2,h3,h4,h5,h6⟩:=XV hok
 have hpv:=h6 v (by omega)
 have hS:=kF g.a
 have hn1:(1:Int)≤(g.a.owner.length:Int):=by omega
 have hnn:(1:Int)≤(g.a.owner.length:Int)∧(g.a.owner.length:Int)≤256:=by omega
 unfold dAr at hS
 unfold dPa
 refine zt (fn:=Try.f128) (ts:= [4,5]) Try.func128 (by kernel_rfl) rfl rfl (by rw [Try.ntmps128];exact Nat.le_of_ble_eq_true rfl) rfl (by simp only [szA,List.mem_cons,List.not_mem_nil,or_false,forall_eq_or_imp,forall_eq,VT.cells,szL];try decide) ?_
 rw [Try.ntmps128]
 simp only [push_cast,↓zK,↓zJ,↓reduceIte,zA,zB,zC,zD,zE,zF,zG,zH,zI,reduceCtorEq]
 refine zL fun K hK=> ?_
 refine zM zP zN [] rfl ?_
 all_goals simp only [push_cast,↓zK,↓zJ,↓reduceIte,zA,zB,zC,zD,zE,zF,zG,zH,zI,reduceCtorEq]
 all_goals repeat'(first|(apply zO<;>(intro hg;(try simp only [push_cast]at hg)))|apply And.intro|(intro hg;(try simp only [push_cast]at hg)))
 all_goals first|exact gA|(rw [←hs1];omega)|skip
 all_goals first|(refine hK _ ?_;clear hK K)|(simp only [push_cast];done)
 refine zL fun K hK=> ?_
 refine zM zP zN [] rfl ?_
 all_goals simp only [push_cast,↓zK,↓zJ,↓reduceIte,zA,zB,zC,zD,zE,zF,zG,zH,zI,reduceCtorEq]
 all_goals repeat'(first|(apply zO<;>(intro hg;(try simp only [push_cast]at hg)))|apply And.intro|(intro hg;(try simp only [push_cast]at hg)))
 all_goals first|exact gA|(rw [←hs1];omega)|skip
 all_goals first|(refine hK _ ?_;clear hK K)|(simp only [push_cast];done)
 refine zL fun K1 hK1=> ?_
 refine zL fun K hK=> ?_
 refine zM zP zN [] rfl ?_
 all_goals simp only [push_cast,↓zK,↓zJ,↓reduceIte,zA,zB,zC,zD,zE,zF,zG,zH,zI,reduceCtorEq]
 all_goals repeat'(first|(apply zO<;>(intro hg;(try simp only [push_cast]at hg)))|apply And.intro|(intro hg;(try simp only [push_cast]at hg)))
 all_goals first|exact gA|(rw [←hs1];omega)|skip
 all_goals first|(refine hK _ ?_;clear hK K)|(simp only [push_cast];done)
 refine zT ?_
 refine zd [4,5,6,12,13,14,15,16,17,18,19,20,21,22,23,24,25,26] [] (fun(k:Nat)=> [(12, .int .i64 k),(6, .int .i64 (sg g.a.owner.length k))]) (fun k=> []) (fun k=> []) (fun k=>k≤(gi g.prio v).toNat∧pw g.a.owner.length k≤1000) (fun k=>(gi g.prio v).toNat - k) 0 ?_ ⟨by omega,by simp [pw]⟩ ?_
 ·
  rw [show sg (g.a.owner.length:Int) 0=1 from rfl]
  refine zW rfl ?_ ?_ ?_<;>simp only [zc,zb,push_cast,↓zK,↓zJ,↓reduceIte,zA,zB,zC,zD,zE,zF,zG,zH,zI,reduceCtorEq]
 ·rintro k ⟨hk,hk2⟩ KL0 hL0
  have ha0:=jN hn1 k
  have hp0:=ZO hn1 k
  have ha1:=jN hn1 (k+1)
  have hp1:=pw_le hnn hk2
  have hs1:=sg_s (g.a.owner.length:Int) k
  simp only [push_cast,↓zK,↓zJ,↓reduceIte,zA,zB,zC,zD,zE,zF,zG,zH,zI,reduceCtorEq]
  refine zL fun K hK=> ?_
  refine zM zP zN [] rfl ?_
  all_goals simp only [push_cast,↓zK,↓zJ,↓reduceIte,zA,zB,zC,zD,zE,zF,zG,zH,zI,reduceCtorEq]
  all_goals repeat'(first|(apply zO<;>(intro hg;(try simp only [push_cast]at hg)))|apply And.intro|(intro hg;(try simp only [push_cast]at hg)))
  all_goals first|exact gA|(rw [←hs1];omega)|skip
  all_goals first|(refine hK _ ?_;clear hK K)|(simp only [push_cast];done)
  refine zL fun K2 hK2=> ?_
  refine zU rfl (fun hc=> ?_) (fun hc=> ?_)<;>(try simp only [push_cast]at hc)
  ·
   refine zV ?_
   (try simp only [zR,zS,reduceIte,zF]);refine hK2 _ ?_
   refine zL fun K3 hK3=> ?_
   refine zT ?_
   refine zL fun K hK=> ?_
   refine zM zP zN [] rfl ?_
   all_goals refine zm 4 fun K9 hK9=> ?_
   all_goals simp only [push_cast,↓zK,↓zJ,↓reduceIte,zA,zB,zC,zD,zE,zF,zG,zH,zI,reduceCtorEq]
   all_goals repeat'(first|(apply zO<;>(intro hg;(try simp only [push_cast]at hg)))|(refine⟨_,hS,?_⟩;simp only [push_cast,↓zK,↓zJ,↓reduceIte,zA,zB,zC,zD,zE,zF,zG,zH,zI,reduceCtorEq])|apply And.intro|(intro hg;(try simp only [push_cast]at hg)))
   all_goals first|exact gA|(rw [←hs1];omega)|skip
   all_goals first|(refine hK9 _ ?_;clear hK9 K9)|(simp only [push_cast];done)
   all_goals simp only [push_cast,↓zK,↓zJ,↓reduceIte,zA,zB,zC,zD,zE,zF,zG,zH,zI,reduceCtorEq]
   all_goals repeat'(first|(apply zO<;>(intro hg;(try simp only [push_cast]at hg)))|(refine⟨_,hS,?_⟩;simp only [push_cast,↓zK,↓zJ,↓reduceIte,zA,zB,zC,zD,zE,zF,zG,zH,zI,reduceCtorEq])|apply And.intro|(intro hg;(try simp only [push_cast]at hg)))
   all_goals first|exact gA|(rw [←hs1];omega)|skip
   all_goals first|(refine hK _ ?_;clear hK K)|(simp only [push_cast];done)
   refine zL fun K hK=> ?_
   refine zf false zP zN ?_ rfl ?_
   ·kernel_rfl
   all_goals simp only [push_cast,↓zK,↓zJ,↓reduceIte,zA,zB,zC,zD,zE,zF,zG,zH,zI,reduceCtorEq]
   all_goals repeat'(first|(apply zO<;>(intro hg;(try simp only [push_cast]at hg)))|apply And.intro|(intro hg;(try simp only [push_cast]at hg)))
   all_goals first|exact gA|(rw [←hs1];omega)|skip
   all_goals first|(refine hK _ ?_;clear hK K)|(simp only [push_cast];done)
   all_goals refine zU rfl (fun hc=> ?_) (fun hc=> ?_)
   all_goals(first|(cases hc;done)|skip)
   all_goals(try simp only [push_cast]at hc)
   all_goals try(
     refine zL fun K hK=> ?_
     refine zM zP zN [] rfl ?_
     all_goals simp only [push_cast,↓zK,↓zJ,↓reduceIte,zA,zB,zC,zD,zE,zF,zG,zH,zI,reduceCtorEq]
     all_goals repeat'(first|(apply zO<;>(intro hg;(try simp only [push_cast]at hg)))|apply And.intro|(intro hg;(try simp only [push_cast]at hg)))
     all_goals first|exact gA|(rw [←hs1];omega)|skip
     all_goals first|(refine hK _ ?_;clear hK K)|(simp only [push_cast];done)
     refine zX ?_
     (try simp only [zR,zS])
     refine⟨Or.inl rfl,?_⟩
     simp only [zg,push_cast,↓zK,↓zJ,↓reduceIte,zA,zB,zC,zD,zE,zF,zG,zH,zI,reduceCtorEq]
     have h9:=zEj hn1 (k:=k+1) (p:=(gi g.prio v).toNat) (by omega) (by omega)
     rw [h9.1,h9.2]
     all_goals first|rfl|exact⟨rfl,rfl⟩
     done)
   refine zV ?_
   (try simp only [zR,zS,reduceIte,zF]);refine hK3 _ ?_
   refine zM zP zN [] rfl ?_
   all_goals simp only [push_cast,↓zK,↓zJ,↓reduceIte,zA,zB,zC,zD,zE,zF,zG,zH,zI,reduceCtorEq]
   all_goals repeat'(first|(apply zO<;>(intro hg;(try simp only [push_cast]at hg)))|apply And.intro|(intro hg;(try simp only [push_cast]at hg)))
   all_goals first|exact gA|(rw [←hs1];omega)|skip
   refine hL0 _ ⟨k+1,⟨by omega,by omega⟩,by omega,?_⟩
   rw [hs1]
   refine zW rfl ?_ ?_ ?_<;>simp only [zc,zb,push_cast,↓zK,↓zJ,↓reduceIte,zA,zB,zC,zD,zE,zF,zG,zH,zI,reduceCtorEq]
  ·
   refine ze ?_
   (try simp only [zR,zS,reduceIte,zF]);refine hK1 _ ?_
   refine zL fun K hK=> ?_
   refine zM zP zN [] rfl ?_
   all_goals simp only [push_cast,↓zK,↓zJ,↓reduceIte,zA,zB,zC,zD,zE,zF,zG,zH,zI,reduceCtorEq]
   all_goals repeat'(first|(apply zO<;>(intro hg;(try simp only [push_cast]at hg)))|apply And.intro|(intro hg;(try simp only [push_cast]at hg)))
   all_goals first|exact gA|(rw [←hs1];omega)|skip
   all_goals first|(refine hK _ ?_;clear hK K)|(simp only [push_cast];done)
   refine zX ?_
   (try simp only [zR,zS])
   refine⟨Or.inl rfl,?_⟩
   simp only [zg,push_cast,↓zK,↓zJ,↓reduceIte,zA,zB,zC,zD,zE,zF,zG,zH,zI,reduceCtorEq]
   have hkk:k=(gi g.prio v).toNat:=by omega
   have h9:=VE (n:=(g.a.owner.length:Int)) (p:=k) hk2
   rw [←hkk,h9.1,h9.2]
   all_goals first|rfl|exact⟨rfl,rfl⟩
def QJ (g:Int→Int)(r:List Int)(k:Nat):List Int:=(r.take k).map g++r.drop k
theorem zGT {c:List Int}{k:Nat}(h:k<c.length):c.drop k=gi c k::c.drop (k+1):=by
 rw [List.drop_eq_getElem_cons h]
 congr 1
 unfold gi
 rw [List.getD_eq_getElem?_getD,List.getElem?_eq_getElem h]
 rfl
theorem zJk (g:Int→Int)(r:List Int):QJ g r 0=r:=by simp [QJ]
theorem zFu (g:Int→Int)(r:List Int):QJ g r r.length=r.map g:=by simp [QJ]
theorem zF4 {g:Int→Int}{r:List Int}{k:Nat}(h:k≤r.length):(QJ g r k).length=r.length:=by simp [QJ];omega
theorem zFt {g:Int→Int}{r:List Int}{k:Nat}(h:k<r.length):(QJ g r k).set k (g (gi r k))=QJ g r (k+1):=by
 have hl:((r.take k).map g).length=k:=by simp;omega
 unfold QJ
 rw [List.set_append_right _ _ (by omega),hl,Nat.sub_self,zGT h,List.set_cons_zero,List.take_add_one,vb h]
 simp
set_option maxRecDepth 20000 in
set_option maxHeartbeats 4000000 in
theorem Ui (xs:List (List Int))(hx:QH 1048576 xs):Fn Try.prog tyT 58 [.c (DII xs)] [.c (DII xs)]:=by
 have h1:=hx.1
 have hr: ∀v,(gl xs v).length≤1048576:=fun v=>vH hx v
 refine zt (fn:=Try.f58) (ts:= [2]) Try.func58 (by kernel_rfl) rfl rfl (by rw [Try.ntmps58];exact Nat.le_of_ble_eq_true rfl) rfl (by simp only [szA,List.mem_cons,List.not_mem_nil,or_false,forall_eq_or_imp,forall_eq,VT.cells,szL];try decide) ?_
 rw [Try.ntmps58]
 simp only [push_cast,↓zK,↓zJ,↓reduceIte,zA,zB,zC,zD,zE,zF,zG,zH,zI,reduceCtorEq]
 refine zL fun K hK=> ?_
 refine zM zP zN [] rfl ?_
 all_goals simp only [push_cast,↓zK,↓zJ,↓reduceIte,zA,zB,zC,zD,zE,zF,zG,zH,zI,reduceCtorEq]
 all_goals repeat'(first|(apply zO<;>(intro hg;(try simp only [push_cast]at hg)))|apply And.intro|(intro hg;(try simp only [push_cast]at hg)))
 all_goals first|exact gA|(exact zQ (by omega))|skip
 all_goals first|(refine hK _ ?_;clear hK K)|(simp only [push_cast];done)
 refine zL fun K hK=> ?_
 refine zf false zP zN ?_ rfl ?_
 ·kernel_rfl
 simp only [push_cast,↓zK,↓zJ,↓reduceIte,zA,zB,zC,zD,zE,zF,zG,zH,zI,reduceCtorEq]
 all_goals repeat'(first|(apply zO<;>(intro hg;(try simp only [push_cast]at hg)))|apply And.intro|(intro hg;(try simp only [push_cast]at hg)))
 all_goals first|exact gA|(exact zQ (by omega))|skip
 all_goals first|(refine hK _ ?_;clear hK K)|(simp only [push_cast];done)
 refine jL 27 3 (Nat.le_of_ble_eq_true rfl) ?_
 simp only [push_cast,↓zK,↓zJ,↓reduceIte,zA,zB,zC,zD,zE,zF,zG,zH,zI,reduceCtorEq]
 refine zL fun K1 hK1=> ?_
 refine zL fun K hK=> ?_
 refine zM zP zN [] rfl ?_
 all_goals simp only [push_cast,↓zK,↓zJ,↓reduceIte,zA,zB,zC,zD,zE,zF,zG,zH,zI,reduceCtorEq]
 all_goals repeat'(first|(apply zO<;>(intro hg;(try simp only [push_cast]at hg)))|apply And.intro|(intro hg;(try simp only [push_cast]at hg)))
 all_goals first|exact gA|(exact zQ (by omega))|skip
 all_goals first|(refine hK _ ?_;clear hK K)|(simp only [push_cast];done)
 refine zT ?_
 rw [show([]:List D)=dII (xs.take 0)from by simp [dII]]
 refine zd [3,5,9,10,11,12,13,14,15,16,17,18,19] [48] (fun(k:Nat)=> [(9, .int .i64 k),(3, .sl 48 [] 0 k 27)]) (fun k=> []) (fun k=> [(48,⟨.ex,27,dII (xs.take k),none⟩)]) (fun k=>k≤xs.length) (fun k=>xs.length - k) 0 ?_ (by omega) ?_
 ·
  refine zW rfl ?_ ?_ ?_<;>simp only [zc,zb,push_cast,↓zK,↓zJ,↓reduceIte,zA,zB,zC,zD,zE,zF,zG,zH,zI,reduceCtorEq]
 ·rintro k hk KL0 hL0
  have htk:(xs.take k).length=k:=by rw [List.length_take];omega
  have hrk:=hr k
  simp only [push_cast,↓zK,↓zJ,↓reduceIte,zA,zB,zC,zD,zE,zF,zG,zH,zI,reduceCtorEq]
  refine zL fun K hK=> ?_
  refine zM zP zN [] rfl ?_
  all_goals simp only [push_cast,↓zK,↓zJ,↓reduceIte,zA,zB,zC,zD,zE,zF,zG,zH,zI,reduceCtorEq]
  all_goals repeat'(first|(apply zO<;>(intro hg;(try simp only [push_cast]at hg)))|apply And.intro|(intro hg;(try simp only [push_cast]at hg)))
  all_goals first|exact gA|(exact zQ (by omega))|skip
  all_goals first|(refine hK _ ?_;clear hK K)|(simp only [push_cast];done)
  refine zL fun K2 hK2=> ?_
  refine zU rfl (fun hc=> ?_) (fun hc=> ?_)<;>(try simp only [push_cast]at hc)
  ·
   refine zV ?_
   (try simp only [zR,zS,reduceIte,zF]);refine hK2 _ ?_
   refine zL fun K3 hK3=> ?_
   refine zT ?_
   refine zL fun K hK=> ?_
   refine zM zP zN [] rfl ?_
   all_goals simp only [push_cast,↓zK,↓zJ,↓reduceIte,zA,zB,zC,zD,zE,zF,zG,zH,zI,reduceCtorEq]
   all_goals repeat'(first|(apply zO<;>(intro hg;(try simp only [push_cast]at hg)))|apply And.intro|(intro hg;(try simp only [push_cast]at hg)))
   all_goals first|exact gA|(exact zQ (by omega))|skip
   all_goals first|(refine hK _ ?_;clear hK K)|(simp only [push_cast];done)
   refine zf false zP zN ?_ rfl ?_
   ·kernel_rfl
   simp only [push_cast,↓zK,↓zJ,↓reduceIte,zA,zB,zC,zD,zE,zF,zG,zH,zI,reduceCtorEq]
   all_goals repeat'(first|(apply zO<;>(intro hg;(try simp only [push_cast]at hg)))|apply And.intro|(intro hg;(try simp only [push_cast]at hg)))
   all_goals first|exact gA|(exact zQ (by omega))|skip
   (try simp only [zR,zS,reduceIte,zF]);refine hK3 _ ?_
   refine jL 27 3 (Nat.le_of_ble_eq_true rfl) ?_
   simp only [push_cast,↓zK,↓zJ,↓reduceIte,zA,zB,zC,zD,zE,zF,zG,zH,zI,reduceCtorEq]
   refine zM zP zN [] rfl ?_
   all_goals simp only [push_cast,↓zK,↓zJ,↓reduceIte,zA,zB,zC,zD,zE,zF,zG,zH,zI,reduceCtorEq]
   all_goals repeat'(first|(apply zO<;>(intro hg;(try simp only [push_cast]at hg)))|apply And.intro|(intro hg;(try simp only [push_cast]at hg)))
   all_goals first|exact gA|(exact zQ (by omega))|skip
   refine hL0 _ ⟨k+1,by omega,by omega,?_⟩
   (try rw [List.take_take,Nat.min_self])
   rw [jG (by omega)]
   refine zW rfl ?_ ?_ ?_<;>simp only [zc,zb,push_cast,↓zK,↓zJ,↓reduceIte,zA,zB,zC,zD,zE,zF,zG,zH,zI,reduceCtorEq]
  ·
   refine ze ?_
   have hkk:k=xs.length:=by omega
   subst hkk
   rw [List.take_length]
   (try simp only [zR,zS,reduceIte,zF]);refine hK1 _ ?_
   refine zL fun K hK=> ?_
   refine zM zP zN [] rfl ?_
   all_goals simp only [push_cast,↓zK,↓zJ,↓reduceIte,zA,zB,zC,zD,zE,zF,zG,zH,zI,reduceCtorEq]
   all_goals repeat'(first|(apply zO<;>(intro hg;(try simp only [push_cast]at hg)))|apply And.intro|(intro hg;(try simp only [push_cast]at hg)))
   all_goals first|exact gA|(exact zQ (by omega))|skip
   all_goals first|(refine hK _ ?_;clear hK K)|(simp only [push_cast];done)
   refine zX ?_
   (try simp only [zR,zS])
   refine⟨Or.inl rfl,?_⟩
   simp only [zg,push_cast,↓zK,↓zJ,↓reduceIte,zA,zB,zC,zD,zE,zF,zG,zH,zI,reduceCtorEq]
set_option maxRecDepth 20000 in
set_option maxHeartbeats 4000000 in
theorem zBI (a:Ar)(ha:a.Ln 1048576):Fn Try.prog tyT 109 [.agg (dAr a)] [.agg (dAr a)]:=by
 have h0:=ha.owner
 have h1:=ha.next.1
 have hC:=Ui a.next ha.next
 unfold LnI at h0
 unfold dAr
 refine Qb (fn:=Try.f109) (rs:= [.cell 2 30]) zP zN Try.func109 (by kernel_rfl) rfl rfl (by rw [Try.ntmps109];exact Nat.le_of_ble_eq_true rfl) rfl (by simp only [szA,List.mem_cons,List.not_mem_nil,or_false,forall_eq_or_imp,forall_eq,VT.cells,szL];try decide) ?_
 rw [Try.ntmps109]
 simp only [push_cast,↓zK,↓zJ,↓reduceIte,zA,zB,zC,zD,zE,zF,zG,zH,zI,reduceCtorEq]
 refine zL fun K hK=> ?_
 refine zM zP zN [] rfl ?_
 simp only [push_cast,↓zK,↓zJ,↓reduceIte,zA,zB,zC,zD,zE,zF,zG,zH,zI,reduceCtorEq]
 repeat' apply And.intro
 all_goals try exact gB
 all_goals first|(refine hK _ ?_;clear hK K)|(simp only [push_cast];done)
 refine zL fun K hK=> ?_
 refine zv false zP zN yj ?_ rfl ?_
 ·kernel_rfl
 intro E hE
 all_goals refine yT 7 (by decide) fun K9 hK9=> ?_
 all_goals simp only [push_cast,↓zK,↓zJ,↓reduceIte,zA,zB,zC,zD,zE,zF,zG,zH,zI,reduceCtorEq]
 all_goals repeat'(first|(apply zO<;>(intro hg;(try simp only [push_cast]at hg)))|(refine⟨_,hC,?_⟩;simp only [push_cast,↓zK,↓zJ,↓reduceIte,zA,zB,zC,zD,zE,zF,zG,zH,zI,reduceCtorEq])|apply And.intro|(intro hg;(try simp only [push_cast]at hg)))
 all_goals try exact gA
 all_goals first|(refine hK9 _ _ ?_;clear hK9 K9)|(simp only [push_cast];done)
 all_goals simp only [push_cast,↓zK,↓zJ,↓reduceIte,zA,zB,zC,zD,zE,zF,zG,zH,zI,reduceCtorEq]
 all_goals repeat'(first|(apply zO<;>(intro hg;(try simp only [push_cast]at hg)))|(refine⟨_,hC,?_⟩;simp only [push_cast,↓zK,↓zJ,↓reduceIte,zA,zB,zC,zD,zE,zF,zG,zH,zI,reduceCtorEq])|apply And.intro|(intro hg;(try simp only [push_cast]at hg)))
 all_goals first|exact gA|(refine hE _ _ ?_ ?_;kernel_rfl)|skip
 all_goals clear hE E
 all_goals first|(refine hK _ ?_;clear hK K)|(simp only [push_cast];done)
 refine zX ?_
 (try simp only [zR,zS])
 refine⟨Or.inl rfl,?_⟩
 simp only [zg,ya,xf,push_cast,↓zK,↓zJ,↓reduceIte,zA,zB,zC,zD,zE,zF,zG,zH,zI,reduceCtorEq]
def Vb (g:Pa)(j:Nat):List Int:=List.replicate (gl g.a.next j).length (vU g.a.owner.length (gi g.prio j).toNat)
def yk (g:Pa)(v:Nat):List (List Int):=(List.range v).map (Vb g)
theorem vr (g:Pa)(v:Nat):(yk g v).length=v:=by simp [yk]
theorem zEF (g:Pa)(v:Nat):yk g (v+1)=yk g v++ [Vb g v]:=by simp [yk,List.range_succ]
theorem wT {g:Pa}{n v:Nat}(h:v<n):gl (yk g n) v=Vb g v:=by
 unfold gl yk
 rw [List.getD_eq_getElem?_getD,List.getElem?_map,List.getElem?_range h]
 rfl
def zu (g:Pa):Bool:=yD g&&decide (g.prio.length≤24)&&ZB g.a.owner.length (fun j=>vL g.a.owner.length (gi g.prio j).toNat)
def za (g:Pa):Wt:=if zu g then⟨g.a,yk g g.a.owner.length⟩else⟨⟨[],[]⟩,[]⟩
theorem zC1 {g:Pa}(h:yD g=false):zu g=false:=by unfold zu;rw [h];rfl
theorem zD9 {g:Pa}(h: ¬g.prio.length≤24):zu g=false:=by unfold zu;rw [decide_eq_false h,Bool.and_false];rfl
theorem zDJ {g:Pa}{v:Nat}(hv:v<g.a.owner.length)(h:vL g.a.owner.length (gi g.prio v).toNat=false):zu g=false:=by unfold zu;rw [vd hv h,Bool.and_false]
theorem Kb {g:Pa}(h1:yD g=true)(h2:g.prio.length≤24)(h3: ∀j,j<g.a.owner.length→vL g.a.owner.length (gi g.prio j).toNat=true):zu g=true:=by unfold zu;rw [h1,decide_eq_true h2,xO h3];rfl
theorem jO {g:Pa}(h:zu g=false):za g=⟨⟨[],[]⟩,[]⟩:=by unfold za;rw [h];rfl
theorem xZ {g:Pa}(h:zu g=true):za g=⟨g.a,yk g g.a.owner.length⟩:=by unfold za;rw [h];rfl
theorem vP {g:Pa}(h:zu g=true):yD g=true∧g.prio.length≤24∧∀j,j<g.a.owner.length→vL g.a.owner.length (gi g.prio j).toNat=true:=by
 unfold zu at h
 rw [Bool.and_eq_true,Bool.and_eq_true,decide_eq_true_eq]at h
 exact⟨h.1.1,h.1.2,fun j hj=>xR (p:=fun j=>vL g.a.owner.length (gi g.prio j).toNat) h.2 hj⟩
theorem zFb {n:Int}(hn:1≤n)(p:Nat): -1000≤vU n p∧vU n p≤1000:=by
 have h1:=jN hn p
 have h2:=ZO hn p
 unfold vU
 split<;>omega
theorem Kn {n k:Nat}{x:Int}(h:k<n):gi (List.replicate n x) k=x:=by
 unfold gi
 rw [List.getD_eq_getElem?_getD,List.getElem?_replicate,if_pos h]
 rfl
theorem yI {g:Pa}(h:zu g=true):yP (za g)=true:=by
 obtain⟨h1,h2,h3⟩:=vP h
 obtain⟨k1,k2,k3,k4,k5,k6⟩:=XV h1
 rw [xZ h]
 have hl:=vr g g.a.owner.length
 refine qs.2 ⟨k1,by show g.a.owner.length≤24;omega,by show(yk g g.a.owner.length).length=_;omega,fun v hv=> ?_⟩
 have hv:v<g.a.owner.length:=by have hv:v<(yk g g.a.owner.length).length:=hv;omega
 refine Zc.2 ⟨?_,fun j hj=> ?_⟩
 ·show(gl (yk g g.a.owner.length) v).length=(gl g.a.next v).length
  rw [wT hv];exact List.length_replicate ..
 ·have hj:j<(gl (yk g g.a.owner.length) v).length:=hj
  rw [wT hv]at hj
  have hj:j<(gl g.a.next v).length:=by rw [Vb,List.length_replicate]at hj;exact hj
  refine Yh.2 ?_
  show -1000≤gi (gl (yk g g.a.owner.length) v) j∧gi (gl (yk g g.a.owner.length) v) j≤1000
  rw [wT hv,Vb,Kn hj]
  exact zFb (by omega) _
theorem zF6 {B:Nat}{xs:List (List Int)}(h: ∀v,v<xs.length→(gl xs v).length≤B)(hl:xs.length≤B):QH B xs:=by
 refine⟨hl,fun r hr=> ?_⟩
 obtain⟨k,hk,rfl⟩:=List.getElem_of_mem hr
 have :=h k hk
 unfold gl at this
 rw [List.getD_eq_getElem?_getD,List.getElem?_eq_getElem hk]at this
 exact this
theorem Xw {g:Pa}(h:g.Ln 1048576):(za g).Ln 1048576:=by
 have hno:=h.a.owner
 unfold LnI at hno
 unfold za
 split
 ·refine⟨h.a,zF6 (fun v hv=> ?_) ?_⟩
  ·have hv:v<g.a.owner.length:=by have hv:v<(yk g g.a.owner.length).length:=hv;rwa [vr]at hv
   show(gl (yk g g.a.owner.length) v).length≤_
   rw [wT hv,Vb,List.length_replicate]
   exact vH h.a.next v
  ·show(yk g g.a.owner.length).length≤_
   rw [vr];exact hno
 ·exact⟨⟨by unfold LnI;simp,⟨by simp,by simp⟩⟩,⟨by simp,by simp⟩⟩
set_option maxRecDepth 20000 in
set_option maxHeartbeats 4000000 in
theorem XI (g:Pa)(hg:g.Ln 1048576):Fn Try.prog tyT 97 [.agg (dPa g)] [.agg (dWt (za g)), .c (.bool (zu g))]:=by
 have hpl:=hg.prio
 have hno:=hg.a.owner
 unfold LnI at hpl hno
 have hr: ∀v,(gl g.a.next v).length≤1048576:=fun v=>vH hg.a.next v
 have hnn:=hg.a.next.1
 have hP:=We g hg
 have hC:=zBI g.a hg.a
 have hSc:=fun hok v hv=>zDD g hg hok v hv
 unfold dAr at hC
 unfold dPa at hP hSc⊢
 unfold dWt
 refine Qb (fn:=Try.f97) (rs:= [.cell 2 32, .tmp 3]) zP zN Try.func97 (by kernel_rfl) rfl rfl (by rw [Try.ntmps97];exact Nat.le_of_ble_eq_true rfl) rfl (by simp only [szA,List.mem_cons,List.not_mem_nil,or_false,forall_eq_or_imp,forall_eq,VT.cells,szL];try decide) ?_
 rw [Try.ntmps97]
 simp only [push_cast,↓zK,↓zJ,↓reduceIte,zA,zB,zC,zD,zE,zF,zG,zH,zI,reduceCtorEq]
 refine zL fun K hK=> ?_
 refine zM zP zN [] rfl ?_
 all_goals simp only [push_cast,↓zK,↓zJ,↓reduceIte,zA,zB,zC,zD,zE,zF,zG,zH,zI,reduceCtorEq]
 all_goals repeat'(first|(apply zO<;>(intro hg;(try simp only [push_cast]at hg)))|apply And.intro|(intro hg;(try simp only [push_cast]at hg)))
 all_goals first|exact gA|(exact zQ (by omega))|skip
 all_goals first|(refine hK _ ?_;clear hK K)|(simp only [push_cast];done)
 refine zL fun K1 hK1=> ?_
 refine zL fun K hK=> ?_
 refine zf false zP zN ?_ rfl ?_
 ·kernel_rfl
 all_goals refine zp 2 fun K9 hK9=> ?_
 all_goals simp only [push_cast,↓zK,↓zJ,↓reduceIte,zA,zB,zC,zD,zE,zF,zG,zH,zI,reduceCtorEq]
 all_goals repeat'(first|(apply zO<;>(intro hg;(try simp only [push_cast]at hg)))|(refine⟨_,hP,?_⟩;simp only [push_cast,↓zK,↓zJ,↓reduceIte,zA,zB,zC,zD,zE,zF,zG,zH,zI,reduceCtorEq])|apply And.intro|(intro hg;(try simp only [push_cast]at hg)))
 all_goals first|exact gA|(exact zQ (by omega))|skip
 all_goals first|(refine hK9 _ ?_;clear hK9 K9)|(simp only [push_cast];done)
 all_goals simp only [push_cast,↓zK,↓zJ,↓reduceIte,zA,zB,zC,zD,zE,zF,zG,zH,zI,reduceCtorEq]
 all_goals repeat'(first|(apply zO<;>(intro hg;(try simp only [push_cast]at hg)))|(refine⟨_,hP,?_⟩;simp only [push_cast,↓zK,↓zJ,↓reduceIte,zA,zB,zC,zD,zE,zF,zG,zH,zI,reduceCtorEq])|apply And.intro|(intro hg;(try simp only [push_cast]at hg)))
 all_goals first|exact gA|(exact zQ (by omega))|skip
 all_goals first|(refine hK _ ?_;clear hK K)|(simp only [push_cast];done)
 all_goals refine zU rfl (fun hc=> ?_) (fun hc=> ?_)
 all_goals(first|(cases hc;done)|skip)
 all_goals(try simp only [push_cast]at hc)
 all_goals try(
   refine zL fun K hK=> ?_
   refine zM zP zN [] rfl ?_
   all_goals simp only [push_cast,↓zK,↓zJ,↓reduceIte,zA,zB,zC,zD,zE,zF,zG,zH,zI,reduceCtorEq]
   all_goals repeat'(first|(apply zO<;>(intro hg;(try simp only [push_cast]at hg)))|apply And.intro|(intro hg;(try simp only [push_cast]at hg)))
   all_goals first|exact gA|(exact zQ (by omega))|skip
   all_goals first|(refine hK _ ?_;clear hK K)|(simp only [push_cast];done)
   refine zX ?_
   (try simp only [zR,zS])
   refine⟨Or.inl rfl,?_⟩
   simp only [zg,ya,xf,push_cast,↓zK,↓zJ,↓reduceIte,zA,zB,zC,zD,zE,zF,zG,zH,zI,reduceCtorEq]
   have h9:zu g=false:=by first|exact zC1 (by with_reducible assumption)|exact zD9 (by omega)
   rw [jO h9,h9]
   all_goals first|rfl|(simp [dI,dII];done)
   done)
 refine zV ?_
 (try simp only [zR,zS,reduceIte,zF]);refine hK1 _ ?_
 have hok:yD g=true:=by with_reducible assumption
 have hp24:g.prio.length≤24:=by omega
 obtain⟨h1,h2,h3,h4,h5,h6⟩:=XV hok
 refine zL fun K hK=> ?_
 refine zM zP zN [] rfl ?_
 all_goals refine zm 3 fun K9 hK9=> ?_
 all_goals simp only [push_cast,↓zK,↓zJ,↓reduceIte,zA,zB,zC,zD,zE,zF,zG,zH,zI,reduceCtorEq]
 all_goals repeat'(first|(apply zO<;>(intro hg;(try simp only [push_cast]at hg)))|(refine⟨_,hC,?_⟩;simp only [push_cast,↓zK,↓zJ,↓reduceIte,zA,zB,zC,zD,zE,zF,zG,zH,zI,reduceCtorEq])|apply And.intro|(intro hg;(try simp only [push_cast]at hg)))
 all_goals first|exact gA|(exact zQ (by omega))|skip
 all_goals first|(refine hK9 _ ?_;clear hK9 K9)|(simp only [push_cast];done)
 all_goals simp only [push_cast,↓zK,↓zJ,↓reduceIte,zA,zB,zC,zD,zE,zF,zG,zH,zI,reduceCtorEq]
 all_goals repeat'(first|(apply zO<;>(intro hg;(try simp only [push_cast]at hg)))|(refine⟨_,hC,?_⟩;simp only [push_cast,↓zK,↓zJ,↓reduceIte,zA,zB,zC,zD,zE,zF,zG,zH,zI,reduceCtorEq])|apply And.intro|(intro hg;(try simp only [push_cast]at hg)))
 all_goals first|exact gA|(exact zQ (by omega))|skip
 all_goals first|(refine hK _ ?_;clear hK K)|(simp only [push_cast];done)
 refine zL fun K2 hK2=> ?_
 refine zL fun K hK=> ?_
 refine zM zP zN [] rfl ?_
 all_goals simp only [push_cast,↓zK,↓zJ,↓reduceIte,zA,zB,zC,zD,zE,zF,zG,zH,zI,reduceCtorEq]
 all_goals repeat'(first|(apply zO<;>(intro hg;(try simp only [push_cast]at hg)))|apply And.intro|(intro hg;(try simp only [push_cast]at hg)))
 all_goals first|exact gA|(exact zQ (by omega))|skip
 all_goals first|(refine hK _ ?_;clear hK K)|(simp only [push_cast];done)
 refine zT ?_
 refine zd [3,4,5,6,7,8,9,13,28,29,30,31,32,33,34,35,36,37,38,39,40,41,42,43,44,45,46,47,48,49,50,51,52,53,54,55,56,57,58] [] (fun(v:Nat)=> [(28, .int .i64 v),(4, .bp 4 0)]) (fun v=> [(4,[.sl 64 [] 0 g.a.owner.length 2, .sl 65 [] 0 g.a.next.length 27, .sl 66 [] 0 v 27])]) (fun v=> [(64,⟨.ex,2,dI g.a.owner,none⟩),(65,⟨.ex,27,dII g.a.next,none⟩),(66,⟨.ex,27,dII (yk g v),none⟩)]) (fun v=>v≤g.a.owner.length∧∀j,j<v→vL g.a.owner.length (gi g.prio j).toNat=true) (fun v=>g.a.owner.length - v) 0 ?_ ⟨by omega,fun j hj=>by omega⟩ ?_
 ·
  rw [show dII (yk g 0)= []from rfl]
  refine zW rfl ?_ ?_ ?_<;>simp only [zc,zb,push_cast,↓zK,↓zJ,↓reduceIte,zA,zB,zC,zD,zE,zF,zG,zH,zI,reduceCtorEq]
 ·rintro v ⟨hv,hall⟩ KL0 hL0
  have hbl:=vr g v
  have hrv:=hr v
  simp only [push_cast,↓zK,↓zJ,↓reduceIte,zA,zB,zC,zD,zE,zF,zG,zH,zI,reduceCtorEq]
  refine zL fun K hK=> ?_
  refine zM zP zN [] rfl ?_
  all_goals simp only [push_cast,↓zK,↓zJ,↓reduceIte,zA,zB,zC,zD,zE,zF,zG,zH,zI,reduceCtorEq]
  all_goals repeat'(first|(apply zO<;>(intro hg;(try simp only [push_cast]at hg)))|apply And.intro|(intro hg;(try simp only [push_cast]at hg)))
  all_goals first|exact gA|(exact zQ (by omega))|skip
  all_goals first|(refine hK _ ?_;clear hK K)|(simp only [push_cast];done)
  refine zL fun K3 hK3=> ?_
  refine zU rfl (fun hc=> ?_) (fun hc=> ?_)<;>(try simp only [push_cast]at hc)
  ·
   refine zV ?_
   (try simp only [zR,zS,reduceIte,zF]);refine hK3 _ ?_
   refine zL fun K4 hK4=> ?_
   refine zT ?_
   refine zL fun K hK=> ?_
   refine zM zP zN [] rfl ?_
   all_goals simp only [push_cast,↓zK,↓zJ,↓reduceIte,zA,zB,zC,zD,zE,zF,zG,zH,zI,reduceCtorEq]
   all_goals repeat'(first|(apply zO<;>(intro hg;(try simp only [push_cast]at hg)))|apply And.intro|(intro hg;(try simp only [push_cast]at hg)))
   all_goals first|exact gA|(exact zQ (by omega))|skip
   all_goals first|(refine hK _ ?_;clear hK K)|(simp only [push_cast];done)
   refine zL fun K hK=> ?_
   refine zM zP zN [] rfl ?_
   all_goals refine zm 3 fun K9 hK9=> ?_
   all_goals simp only [push_cast,↓zK,↓zJ,↓reduceIte,zA,zB,zC,zD,zE,zF,zG,zH,zI,reduceCtorEq]
   all_goals repeat'(first|(apply zO<;>(intro hg;(try simp only [push_cast]at hg)))|(refine⟨_,hSc hok v (by omega),?_⟩;simp only [push_cast,↓zK,↓zJ,↓reduceIte,zA,zB,zC,zD,zE,zF,zG,zH,zI,reduceCtorEq])|apply And.intro|(intro hg;(try simp only [push_cast]at hg)))
   all_goals first|exact gA|(exact zQ (by omega))|skip
   all_goals first|(refine hK9 _ ?_;clear hK9 K9)|(simp only [push_cast];done)
   all_goals simp only [push_cast,↓zK,↓zJ,↓reduceIte,zA,zB,zC,zD,zE,zF,zG,zH,zI,reduceCtorEq]
   all_goals repeat'(first|(apply zO<;>(intro hg;(try simp only [push_cast]at hg)))|(refine⟨_,hSc hok v (by omega),?_⟩;simp only [push_cast,↓zK,↓zJ,↓reduceIte,zA,zB,zC,zD,zE,zF,zG,zH,zI,reduceCtorEq])|apply And.intro|(intro hg;(try simp only [push_cast]at hg)))
   all_goals first|exact gA|(exact zQ (by omega))|skip
   all_goals first|(refine hK _ ?_;clear hK K)|(simp only [push_cast];done)
   refine zL fun K5 hK5=> ?_
   refine zL fun K hK=> ?_
   refine zM zP zN [] rfl ?_
   all_goals simp only [push_cast,↓zK,↓zJ,↓reduceIte,zA,zB,zC,zD,zE,zF,zG,zH,zI,reduceCtorEq]
   all_goals repeat'(first|(apply zO<;>(intro hg;(try simp only [push_cast]at hg)))|apply And.intro|(intro hg;(try simp only [push_cast]at hg)))
   all_goals first|exact gA|(exact zQ (by omega))|skip
   all_goals first|(refine hK _ ?_;clear hK K)|(simp only [push_cast];done)
   refine zU rfl (fun hc=> ?_) (fun hc=> ?_)<;>(try simp only [push_cast]at hc)
   ·
    refine zL fun K hK=> ?_
    refine zM zP zN [] rfl ?_
    all_goals simp only [push_cast,↓zK,↓zJ,↓reduceIte,zA,zB,zC,zD,zE,zF,zG,zH,zI,reduceCtorEq]
    all_goals repeat'(first|(apply zO<;>(intro hg;(try simp only [push_cast]at hg)))|apply And.intro|(intro hg;(try simp only [push_cast]at hg)))
    all_goals first|exact gA|(exact zQ (by omega))|skip
    all_goals first|(refine hK _ ?_;clear hK K)|(simp only [push_cast];done)
    refine zX ?_
    (try simp only [zR,zS])
    refine⟨Or.inl rfl,?_⟩
    simp only [zg,ya,xf,push_cast,↓zK,↓zJ,↓reduceIte,zA,zB,zC,zD,zE,zF,zG,zH,zI,reduceCtorEq]
    have h9:zu g=false:=zDJ (v:=v) (by omega) (by with_reducible assumption)
    rw [jO h9,h9]
    all_goals first|rfl|(simp [dI,dII];done)
   ·
    refine zV ?_
    (try simp only [zR,zS,reduceIte,zF]);refine hK5 _ ?_
    refine zL fun K hK=> ?_
    refine zM zP zN [] rfl ?_
    all_goals simp only [push_cast,↓zK,↓zJ,↓reduceIte,zA,zB,zC,zD,zE,zF,zG,zH,zI,reduceCtorEq]
    all_goals repeat'(first|(apply zO<;>(intro hg;(try simp only [push_cast]at hg)))|apply And.intro|(intro hg;(try simp only [push_cast]at hg)))
    all_goals first|exact gA|(exact zQ (by omega))|skip
    all_goals first|(refine hK _ ?_;clear hK K)|(simp only [push_cast];done)
    refine zL fun K6 hK6=> ?_
    refine zL fun K hK=> ?_
    refine zM zP zN [] rfl ?_
    all_goals simp only [push_cast,↓zK,↓zJ,↓reduceIte,zA,zB,zC,zD,zE,zF,zG,zH,zI,reduceCtorEq]
    all_goals repeat'(first|(apply zO<;>(intro hg;(try simp only [push_cast]at hg)))|apply And.intro|(intro hg;(try simp only [push_cast]at hg)))
    all_goals first|exact gA|(exact zQ (by omega))|skip
    all_goals first|(refine hK _ ?_;clear hK K)|(simp only [push_cast];done)
    refine zT ?_
    refine zd [9,13,45,46,47,48,49,50,51] [144] (fun(k:Nat)=> [(45, .int .i64 k),(9, .sl 144 [] 0 k 2)]) (fun k=> []) (fun k=> [(144,⟨.ex,2,dI (List.replicate k (vU g.a.owner.length (gi g.prio v).toNat)),none⟩)]) (fun k=>k≤(gl g.a.next v).length) (fun k=>(gl g.a.next v).length - k) 0 ?_ (by omega) ?_
    ·
     rw [show dI (List.replicate 0 (vU g.a.owner.length (gi g.prio v).toNat))= []from rfl]
     refine zW rfl ?_ ?_ ?_<;>simp only [zc,zb,push_cast,↓zK,↓zJ,↓reduceIte,zA,zB,zC,zD,zE,zF,zG,zH,zI,reduceCtorEq]
    ·rintro k hk KL1 hL1
     have hkl:(List.replicate k (vU g.a.owner.length (gi g.prio v).toNat)).length=k:=List.length_replicate ..
     simp only [push_cast,↓zK,↓zJ,↓reduceIte,zA,zB,zC,zD,zE,zF,zG,zH,zI,reduceCtorEq]
     refine zL fun K hK=> ?_
     refine zM zP zN [] rfl ?_
     all_goals simp only [push_cast,↓zK,↓zJ,↓reduceIte,zA,zB,zC,zD,zE,zF,zG,zH,zI,reduceCtorEq]
     all_goals repeat'(first|(apply zO<;>(intro hg;(try simp only [push_cast]at hg)))|apply And.intro|(intro hg;(try simp only [push_cast]at hg)))
     all_goals first|exact gA|(exact zQ (by omega))|skip
     all_goals first|(refine hK _ ?_;clear hK K)|(simp only [push_cast];done)
     refine zL fun K7 hK7=> ?_
     refine zU rfl (fun hc=> ?_) (fun hc=> ?_)<;>(try simp only [push_cast]at hc)
     ·
      refine zV ?_
      (try simp only [zR,zS,reduceIte,zF]);refine hK7 _ ?_
      refine zL fun K8 hK8=> ?_
      refine zT ?_
      refine zM zP zN [] rfl ?_
      all_goals simp only [push_cast,↓zK,↓zJ,↓reduceIte,zA,zB,zC,zD,zE,zF,zG,zH,zI,reduceCtorEq]
      all_goals repeat'(first|(apply zO<;>(intro hg;(try simp only [push_cast]at hg)))|apply And.intro|(intro hg;(try simp only [push_cast]at hg)))
      all_goals first|exact gA|(exact zQ (by omega))|skip
      (try simp only [zR,zS,reduceIte,zF]);refine hK8 _ ?_
      refine zM zP zN [] rfl ?_
      all_goals simp only [push_cast,↓zK,↓zJ,↓reduceIte,zA,zB,zC,zD,zE,zF,zG,zH,zI,reduceCtorEq]
      all_goals repeat'(first|(apply zO<;>(intro hg;(try simp only [push_cast]at hg)))|apply And.intro|(intro hg;(try simp only [push_cast]at hg)))
      all_goals first|exact gA|(exact zQ (by omega))|skip
      refine hL1 _ ⟨k+1,by omega,by omega,?_⟩
      (try rw [List.take_of_length_le (l:=List.replicate k (vU g.a.owner.length (gi g.prio v).toNat)) (by omega)])
      rw [List.replicate_succ']
      refine zW rfl ?_ ?_ ?_<;>simp only [zc,zb,push_cast,↓zK,↓zJ,↓reduceIte,zA,zB,zC,zD,zE,zF,zG,zH,zI,reduceCtorEq]
     ·
      refine ze ?_
      have hkk:k=(gl g.a.next v).length:=by omega
      subst hkk
      (try simp only [zR,zS,reduceIte,zF]);refine hK6 _ ?_
      refine zf false zP zN ?_ rfl ?_
      ·kernel_rfl
      simp only [push_cast,↓zK,↓zJ,↓reduceIte,zA,zB,zC,zD,zE,zF,zG,zH,zI,reduceCtorEq]
      all_goals repeat'(first|(apply zO<;>(intro hg;(try simp only [push_cast]at hg)))|apply And.intro|(intro hg;(try simp only [push_cast]at hg)))
      all_goals first|exact gA|(exact zQ (by omega))|skip
      (try simp only [zR,zS,reduceIte,zF]);refine hK4 _ ?_
      refine wi [.sl 2, .sl 27, .sl 27] 4 ?_
      simp only [push_cast,↓zK,↓zJ,↓reduceIte,zA,zB,zC,zD,zE,zF,zG,zH,zI,reduceCtorEq]
      refine zM zP zN [] rfl ?_
      all_goals simp only [push_cast,↓zK,↓zJ,↓reduceIte,zA,zB,zC,zD,zE,zF,zG,zH,zI,reduceCtorEq]
      all_goals repeat'(first|(apply zO<;>(intro hg;(try simp only [push_cast]at hg)))|apply And.intro|(intro hg;(try simp only [push_cast]at hg)))
      all_goals first|exact gA|(exact zQ (by omega))|skip
      refine hL0 _ ⟨v+1,⟨by omega,fun j hj=>(by
        by_cases hjv:j=v
        ·subst hjv;with_reducible assumption
        ·exact hall j (by omega))⟩,by omega,?_⟩
      (try rw [List.take_of_length_le (l:=yk g v) (by omega)])
      (try rw [List.take_of_length_le (l:=List.replicate (gl g.a.next v).length (vU g.a.owner.length (gi g.prio v).toNat)) (by omega)])
      rw [zEF]
      unfold Vb
      refine zW rfl ?_ ?_ ?_<;>simp only [zc,zb,push_cast,↓zK,↓zJ,↓reduceIte,zA,zB,zC,zD,zE,zF,zG,zH,zI,reduceCtorEq]
  ·
   refine ze ?_
   (try simp only [zR,zS,reduceIte,zF]);refine hK2 _ ?_
   refine zL fun K hK=> ?_
   refine zM zP zN [] rfl ?_
   all_goals simp only [push_cast,↓zK,↓zJ,↓reduceIte,zA,zB,zC,zD,zE,zF,zG,zH,zI,reduceCtorEq]
   all_goals repeat'(first|(apply zO<;>(intro hg;(try simp only [push_cast]at hg)))|apply And.intro|(intro hg;(try simp only [push_cast]at hg)))
   all_goals first|exact gA|(exact zQ (by omega))|skip
   all_goals first|(refine hK _ ?_;clear hK K)|(simp only [push_cast];done)
   refine zX ?_
   (try simp only [zR,zS])
   refine⟨Or.inl rfl,?_⟩
   simp only [zg,ya,xf,push_cast,↓zK,↓zJ,↓reduceIte,zA,zB,zC,zD,zE,zF,zG,zH,zI,reduceCtorEq]
   have hkv:v=g.a.owner.length:=by omega
   subst hkv
   have h9:=Kb hok hp24 hall
   rw [xZ h9,h9]
   all_goals first|rfl|(simp [vr];done)
def prv (a:Ar)(u v:Nat):List Int:=((List.range v).filter fun(w:Nat)=>yE (gl a.next w) (u:Int)).map fun(w:Nat)=>(w:Int)
def YY (a:Ar)(v i u:Nat):List Int:=prv a u v++if yE ((gl a.next v).take i) (u:Int)then [(v:Int)]else []
def xy (a:Ar)(n v i:Nat):List (List Int):=(List.range n).map (YY a v i)
theorem Zn (a:Ar)(n v i:Nat):(xy a n v i).length=n:=by simp [xy]
theorem kc {a:Ar}{n v i u:Nat}(h:u<n):gl (xy a n v i) u=YY a v i u:=by
 unfold gl xy
 rw [List.getD_eq_getElem?_getD,List.getElem?_map,List.getElem?_range h]
 rfl
theorem zFz (a:Ar)(u:Nat):prv a u 0= []:=rfl
theorem zE5 (a:Ar)(n:Nat):xy a n 0 0=List.replicate n []:=by
 refine List.ext_getElem (by simp [xy]) fun j h1 h2=> ?_
 simp [xy,YY,zFz,yE,ym]
theorem zCT (a:Ar)(u v:Nat):(prv a u v).length≤v:=by
 unfold prv
 rw [List.length_map]
 exact Nat.le_trans (List.length_filter_le _ _) (by simp)
theorem zGw (a:Ar)(v i u:Nat):(YY a v i u).length≤v+1:=by
 unfold YY
 rw [List.length_append]
 have :=zCT a u v
 split<;>simp<;>omega
theorem zFG {a:Ar}{n v:Nat}:xy a n v (gl a.next v).length=xy a n (v+1) 0:=by
 unfold xy
 refine List.map_congr_left fun u _=> ?_
 unfold YY
 rw [List.take_length,show(gl a.next (v+1)).take 0= []from rfl,show yE [] (u:Int)=false from rfl]
 unfold prv
 rw [List.range_succ,List.filter_append,List.map_append]
 by_cases h:yE (gl a.next v) (u:Int)=true<;>simp [h]
theorem zFd {a:Ar}(hok:yA a=true){n v i:Nat}(hv:v<a.owner.length)(hn:n=a.owner.length)(hi:i<(gl a.next v).length):
  (xy a n v i).set (gi (gl a.next v) i).toNat (gl (xy a n v i) (gi (gl a.next v) i).toNat++ [(v:Int)])=xy a n v (i+1):=by
 have hs:=(yG hok hv).2.2.2.2
 have hb:=vK hs hi
 have hu:(gi (gl a.next v) i).toNat<n:=by omega
 have hrise: ∀k j,j<k→k<(gl a.next v).length→gi (gl a.next v) j<gi (gl a.next v) k:=by
  intro k
  induction k with
  |zero=>intro j h;omega
  |succ k ih=>
   intro j hj hk
   have :=xR hs hk
   unfold qS at this
   have :=of_decide_eq_true this
   have h1:gi (gl a.next v) k<gi (gl a.next v) (k+1):=by have :=this.2.2.resolve_left (by omega);simpa using this
   rcases Nat.lt_or_ge j k with h|h
   ·have :=ih j h (by omega);omega
   ·rw [show j=k by omega];exact h1
 refine List.ext_getElem (by simp [xy]) fun j h1 h2=> ?_
 rw [List.getElem_set]
 have hj:j<n:=by rw [Zn]at h2;exact h2
 have e1:(xy a n v i)[j]'(by rw [Zn];exact hj)=YY a v i j:=by simp [xy]
 have e2:(xy a n v (i+1))[j]=YY a v (i+1) j:=by simp [xy]
 rw [e2]
 have hno:yE ((gl a.next v).take i) (gi (gl a.next v) i)=false:=by
  refine Bool.eq_false_iff.2 fun h=> ?_
  obtain⟨k,hk,e⟩:=xv.1 h
  rw [List.length_take]at hk
  rw [wQ (by omega)]at e
  have :=hrise i k (by omega) hi
  omega
 split
 ·rename_i e
  subst e
  rw [kc hu]
  unfold YY
  rw [Xp hi,Int.toNat_of_nonneg hb.1,hno]
  simp
 ·rename_i e
  rw [e1]
  unfold YY
  rw [Xp hi]
  have :decide ((j:Int)=gi (gl a.next v) i)=false:=decide_eq_false (by omega)
  rw [this,Bool.or_false]
theorem zGR (a:Ar)(n u:Nat)(h:n=a.next.length):YY a n 0 u=prv a u n:=by
 unfold YY
 rw [show(gl a.next n).take 0= []from rfl,show yE [] (u:Int)=false from rfl]
 simp
theorem zB9 {a:Ar}{u v:Nat}{w:Int}:w∈prv a u v↔0≤w∧w<v∧yE (gl a.next w.toNat) (u:Int)=true:=by
 unfold prv
 rw [List.mem_map]
 constructor
 ·rintro⟨k,hk,rfl⟩
  obtain⟨h1,h2⟩:=List.mem_filter.1 hk
  have :=List.mem_range.1 h1
  exact⟨by omega,by omega,by simpa using h2⟩
 ·rintro⟨h1,h2,h3⟩
  exact⟨w.toNat,List.mem_filter.2 ⟨List.mem_range.2 (by omega),h3⟩,by omega⟩
theorem zJL (a:Ar)(u v:Nat):(prv a u v).Pairwise (· < ·):=by
 unfold prv
 rw [List.pairwise_map]
 refine List.Pairwise.imp (fun h=> ?_) (List.Pairwise.filter _ List.pairwise_lt_range)
 omega
theorem zAI {xs:List Int}{i:Nat}(h:i<xs.length):gi xs i∈xs:=List.mem_of_getElem? (vb h)
def l7G (g:Pa)(pick:List Int):L7:=⟨g.a.owner,g.prio,g.a.next,xy g.a g.a.owner.length g.a.owner.length 0,pick⟩
theorem zGf {g:Pa}(hl:g.a.next.length=g.a.owner.length){pick:List Int}{u:Nat}(hu:u<g.a.owner.length):gl (l7G g pick).prev u=prv g.a u g.a.owner.length:=by
 show gl (xy g.a _ _ 0) u=_
 rw [kc hu,zGR _ _ _ hl.symm]
theorem yS {g:Pa}(h:yD g=true):yA g.a=true∧g.prio.length=g.a.owner.length∧∀v,v<g.a.owner.length→0≤gi g.prio v∧gi g.prio v≤40:=by
 unfold yD at h
 rw [Bool.and_eq_true,Bool.and_eq_true]at h
 have h2:=of_decide_eq_true h.2.1
 exact⟨h.1,h2,fun v hv=>by have :=xR h.2.2 (k:=v) (by omega);exact of_decide_eq_true this⟩
theorem Uv {g:Pa}(h:yD g=true){pick:List Int}(hp:pick.length=g.a.owner.length):(l7G g pick).Ok g.a.owner.length:=by
 obtain⟨ha,hpl,hpr⟩:=yS h
 have hal:=zw ha
 have hpv:=fun u (hu:u<g.a.owner.length)=>zGf (g:=g) hal.2.2 (pick:=pick) hu
 refine⟨hal.2.1,rfl,hpl,hal.2.2,Zn _ _ _ _,hp,fun v hv=> ?_,fun v hv j hj=> ?_,hpr,fun v hv=> ?_,fun v hv i j hij hj=> ?_,fun u hu=> ?_,fun u hu m hm=> ?_,fun v hv j hj=> ?_,fun u hu i j hij hj=> ?_⟩
 ·have :=(yG ha hv).2.2.2.1
  show(gl g.a.next v).length≤256
  omega
 ·exact vK (yG ha hv).2.2.2.2 hj
 ·have :=yG ha hv
  show gi g.a.owner v=0∨gi g.a.owner v=1
  omega
 ·have hs:=(yG ha hv).2.2.2.2
  have key: ∀k j,j<k→k<(gl g.a.next v).length→gi (gl g.a.next v) j<gi (gl g.a.next v) k:=by
   intro k
   induction k with
   |zero=>intro j h;omega
   |succ k ih=>
    intro j hj hk
    have :=xR hs hk
    unfold qS at this
    have :=of_decide_eq_true this
    have h1:gi (gl g.a.next v) k<gi (gl g.a.next v) (k+1):=by have :=this.2.2.resolve_left (by omega);simpa using this
    rcases Nat.lt_or_ge j k with h|h
    ·have :=ih j h (by omega);omega
    ·rw [show j=k by omega];exact h1
  have :=key j i hij hj
  show gi (gl g.a.next v) i≠gi (gl g.a.next v) j
  omega
 ·rw [hpv u hu]
  have :=zCT g.a u g.a.owner.length
  omega
 ·rw [hpv u hu]at hm⊢
  obtain⟨h1,h2,h3⟩:=zB9.1 (zAI hm)
  refine⟨⟨h1,h2⟩,?_⟩
  obtain⟨i,hi,e⟩:=xv.1 h3
  exact⟨i,hi,e⟩
 ·have hb:=vK (yG ha hv).2.2.2.2 hj
  have hu:(gi (gl g.a.next v) j).toNat<g.a.owner.length:=by omega
  show∃m,m<(gl (l7G g pick).prev (gi (gl g.a.next v) j).toNat).length∧gi (gl (l7G g pick).prev (gi (gl g.a.next v) j).toNat) m=v
  rw [hpv _ hu]
  have hm:(v:Int)∈prv g.a (gi (gl g.a.next v) j).toNat g.a.owner.length:=zB9.2 ⟨by omega,by omega,by
   rw [Int.toNat_natCast,Int.toNat_of_nonneg hb.1]
   exact xv.2 ⟨j,hj,rfl⟩⟩
  obtain⟨m,hm1,hm2⟩:=xv.1 ((Zp _ _).2 hm)
  exact⟨m,hm1,hm2⟩
 ·rw [hpv u hu]at hj⊢
  have :=List.pairwise_iff_getElem.1 (zJL g.a u g.a.owner.length) i j (by omega) hj hij
  unfold gi
  rw [List.getD_eq_getElem?_getD,List.getD_eq_getElem?_getD,List.getElem?_eq_getElem (by omega),List.getElem?_eq_getElem hj]
  simp only [Option.getD_some]
  omega
def noP (n:Nat):List Int:=List.replicate n (-1)
theorem qw (n:Nat):(noP n).length=n:=List.length_replicate ..
theorem Wi (n v:Nat)(h:v<n):gi (noP n) v= -1:=Kn h
def ZY (n:Nat):List Bool:=List.replicate n true
theorem VG (n:Nat):(ZY n).length=n:=List.length_replicate ..
theorem kJ {n v:Nat}(h:v<n):gb (ZY n) v=true:=by
 unfold gb ZY
 rw [List.getD_eq_getElem?_getD,List.getElem?_replicate,if_pos h]
 rfl
noncomputable def Vz (g:Pa):List Bool:=qK (l7G g (noP g.a.owner.length)) g.a.owner.length (g.a.owner.length+1) (ZY g.a.owner.length)
def wZ (b:Bool):Int:=if b then 0 else 1
noncomputable def yn (g:Pa):List Int:=(Vz g).map wZ
theorem Js (g:Pa):(Vz g).length=g.a.owner.length:=VY _ _ _ _
theorem YF (g:Pa):(yn g).length=g.a.owner.length:=by unfold yn;rw [List.length_map,Js]
theorem zB8 {g:Pa}{v:Nat}(hv:v<g.a.owner.length):gi (yn g) v=wZ (gb (Vz g) v):=by
 unfold gi yn gb
 rw [List.getD_eq_getElem?_getD,List.getElem?_map,List.getD_eq_getElem?_getD,List.getElem?_eq_getElem (by rw [Js];exact hv)]
 rfl
theorem zIR {B:Nat}{xs:List (List Int)}{v:Nat}(h:QH B xs)(hv:v<xs.length):(gl xs v).length≤B:=h.2 _ (by unfold gl;rw [List.getD_eq_getElem?_getD,List.getElem?_eq_getElem hv];exact List.getElem_mem hv)
section
variable {P:Program} {np:Bool} {τ:Ty} {lo:Nat} {w0:Fz} {ow:Nat→Option Pl} {hd:Nat→Value} {bk:Nat→Nat} {st:St} {a:Act} {w:World}
def Qw (τ:Ty)(st:St):List Nat→List AV→Prop
 | [],us=>us= []
 |_::_,[]=>False
 |i::pm,u::us=>(match u with
  | .sl d [] 0 len e=>d=zZ 0 i∧(match lk st.r d with|some R=>R.pin=some d∧R.e=e∧len*sz τ e=R.xs.length|none=>False)∧0<sz τ e
  |_=>False)∧Qw τ st pm us
theorem JZ (h:zj τ lo w0 ow hd bk st a w){pin:Nat→Value}(hpin: ∀id,w0.pin id=some (pin id)): ∀{pm:List Nat} {us:List AV} {cs:List Value},Qw τ st pm us→zY τ w st.r st.b hd bk us cs→cs.length=pm.length∧∀(i j:Nat) (c:Value),pm[i]? =some j→cs[i]? =some c→c=pin (zZ 0 j)
 | [],us,cs,ho,hv=>by
  simp only [Qw]at ho
  subst ho
  simp only [zY]at hv
  subst hv
  exact⟨rfl,fun i j c h=>by simp at h⟩
 |j0::pm,[],cs,ho,hv=>by simp only [Qw]at ho
 |j0::pm,u::us,cs,ho,hv=>by
  simp only [zY]at hv
  obtain⟨c0,cs',rfl,h1,h2⟩:=hv
  simp only [Qw]at ho
  obtain⟨k1,k2⟩:=JZ h hpin ho.2 h2
  refine⟨by simp [k1],fun i j c hj hc=> ?_⟩
  cases i with
  |succ i=>exact k2 i j c (by simpa using hj) (by simpa using hc)
  |zero=>
   simp at hc hj
   subst hc;subst hj
   have ho1:=ho.1
   split at ho1
   ·rename_i d len e
    obtain⟨rfl,q1,q2⟩:=ho1
    split at q1
    ·rename_i R hR
     obtain⟨p1,p2,p3⟩:=q1
     simp only [AvR]at h1
     obtain⟨-,hx⟩:=h1
     obtain⟨hv2,hin,A,n,c,A',c',e1,e2,hle,hlc,hmx,hf0,hA⟩:=hx R hR (by simp [zl])
     simp only [yF,Option.some.injEq]at hin
     obtain⟨rfl,rfl⟩:=hf0 rfl
     have hp:=h.pin _ R _ hR p1
     rw [hpin]at hp
     have hp':pin (zZ 0 j0)=hd (zZ 0 j0):=Option.some.inj hp
     have hroot:=h.root _ R hR
     rw [hin,e1]at hroot
     obtain⟨A2,n2,c2,hf,hlen,-⟩:=xD hroot
     cases hf
     rw [p2]at hlen
     have :len=n:=Nat.eq_of_mul_eq_mul_right q2 (by omega)
     subst this
     rw [hp',hin,e1,e2]
    ·exact q1.elim
   ·exact ho1.elim
def RetT (τ:Ty)(rs:List ResultVar)(pm:List Nat)(ress:List D)(e:Exit)(st:St):Prop:=(e= .ret∨e= .normal)∧
 match ya τ st rs with
 |some ([.agg us],ob)=>ob∧pm.length≤us.length∧Qw τ st pm (us.take pm.length)∧(match qj τ st ress (us.drop pm.length)with|some (is,ob2)=>YN is=true∧ob2|none=>False)
 |_=>False
theorem zJt (hτ:yB P τ)(hpos:yd τ){f:FuncId}{fn:Func}{c:Code}{rs:List ResultVar}{ds0:List D}{args:List VT}{pm:List Nat}{ress:List D}(hfn:P.funcs[f]? =some fn)(hname:(fn.name== "runtime.NumGoroutine")=false)(hb:fn.body=some c)(hres:fn.results=rs.toArray)(hn:(.agg ds0::args:List VT).length≤fn.ntmps)(hfew:few (.agg ds0::args)=true)(hs:szA τ (.agg ds0::args))(hm:(pm.all fun i=>decide (i<ds0.length))=true)
  (h:awp P τ c (RetT τ rs pm ress) (vp τ fn.ntmps (.agg ds0::args))):FnT P τ f (.agg ds0::args) pm ress:=by
 refine⟨⟨fn,hfn,hname,by rw [hb];rfl⟩,fun w cargs hargs=> ?_⟩
 have hstart:Rel τ w.heap.size _ (vp τ fn.ntmps (.agg ds0::args)) {tmps:=cargs.toArray++Array.replicate (fn.ntmps - cargs.toArray.size) undef,defers:= []} w:=⟨_,_,_,WY hs hfew hn hargs⟩
 obtain⟨v0,vs0,hc0,⟨cs0,rfl,hr0⟩,-⟩:=id hargs
 refine calls_of_wp hfn hb (Go.wp_mono (h w.heap.size _ _ w hstart) fun e a' w' ⟨st',⟨ow,hd,bk,hr⟩,he,hret0⟩=> ?_)
 have hpost:a'.defers= []∧∃v,(results fn a'.tmps).run P w'= .ok v w'∧zDr τ w pm ress cargs (.returned v) w':=by
  split at hret0
  ·rename_i us ob0 hrv
   obtain⟨hob0,hml,hsh,hret⟩:=hret0
   obtain⟨xs,hrun,hv⟩:=wI hτ hpos hr hres hrv hob0
   simp only [zY,AvR]at hv
   obtain⟨x,xs',rfl,⟨cs,rfl,hcs⟩,rfl⟩:=hv
   refine⟨hr.defers,_,hrun,?_⟩
   obtain⟨s1,s2⟩:=Kw pm.length hcs
   obtain⟨p1,p2⟩:=JZ hr (fun id=>rfl) hsh s1
   split at hret
   ·rename_i is ob hcells
    obtain⟨m1,m2⟩:=vO hr hcells hret.2 hret.1 s2
    have hlen0:cs0.length=ds0.length:=by
     have key: ∀(ds:List D) (cs:List Value),RpS (sz τ) w.heap.size w (fun _=>none) ds cs→cs.length=ds.length:=by
      intro ds
      induction ds with
      |nil=>intro cs h;simp only [RpS]at h;subst h;rfl
      |cons d ds ih=>intro cs h;simp only [RpS]at h;obtain⟨c,cs',rfl,-,h2⟩:=h;simp [ih cs' h2]
     exact key _ _ hr0
    have htake:cs.take pm.length=wa pm undef cs0:=by
     refine List.ext_getElem? fun i=> ?_
     rcases Nat.lt_or_ge i pm.length with hi|hi
     ·have hu:(cs.take pm.length)[i]? =some ((cs.take pm.length)[i]'(by omega)):=List.getElem?_eq_getElem _
      have hpi:pm[i]? =some pm[i]:=List.getElem?_eq_getElem hi
      have :=p2 i _ _ hpi hu
      have hlt:pm[i]<ds0.length:=by simpa using List.all_eq_true.1 hm pm[i] (List.getElem_mem hi)
      have hsel:(wa pm undef cs0)[i]? =some (cs0.getD pm[i] undef):=by unfold wa;rw [List.getElem?_map,hpi];rfl
      rw [hu,this,hsel]
      have h16:ds0.length≤16:=by exact of_decide_eq_true (List.all_eq_true.1 hfew (.agg ds0) (by simp))
      have e1:zZ 0 pm[i] / 16=0:=by unfold zZ;omega
      have e2:zZ 0 pm[i]%16=pm[i]:=by unfold zZ;omega
      simp only [yC,e1,e2,hc0,List.getElem?_cons_zero]
      have hic:pm[i]<cs0.length:=by omega
      rw [List.getD_eq_getElem?_getD,List.getElem?_eq_getElem hic]
      simp [hic]
     ·rw [List.getElem?_eq_none (by omega),List.getElem?_eq_none (by unfold wa;rw [List.length_map];exact hi)]
    refine⟨cs0,cs.drop pm.length,xU ow is,by rw [hc0];rfl,by rw [←htake,List.take_append_drop];rfl,⟨hr.below.os,hr.below.tape,hr.below.output,hr.below.size,fun b hb=>hr.below.block b hb trivial⟩,fun b hlt=> ?_,fun b p hp=> ?_,zEs m1 fun i d c hd hc=>by rw [Nat.zero_add];exact m2 i d c hd hc⟩
    ·unfold xU
     split
     ·rename_i d q ho
      have :=(hr.ge b _ (by have :=hr.below.size;simp only at this;omega) ho (by simp)).1
      omega
     ·rfl
    ·unfold xU at hp
     split at hp
     ·rename_i d q ho
      split at hp
      ·cases hp
       refine⟨?_,by simp⟩
       rcases Nat.lt_or_ge b w'.heap.size with h'|h'
       ·exact h'
       ·rw [hr.new b h']at ho;cases ho
      ·cases hp
     ·cases hp
   ·exact hret.elim
  ·exact hret0.elim
 rcases he with rfl|rfl<;>exact hpost
def jn (P:Program)(τ:Ty)(o:Oper)(st:St)(K:Dl→Prop):Prop:=
 match zz o with
 |some (f,args,ts)=>
  match ye τ st ts.toList (args.toList.map (ev st)),args.toList.map (ev st)with
  |some (as9,ob), .agg us::_=>ob∧∃pm ress,FnT P τ f as9 pm ress∧(pm.all fun i=>decide (i<us.length))=true∧szL τ ress∧ress.length≤16∧K ⟨.agg (wa pm .dead us++yO τ (zo o) 0 ress),qQ (zo o) 0 ress,[],[]⟩
  |_,_=>False
 |none=>False
theorem uk {o:Oper}{K:Dl→Prop}(h:jn P τ o st K): ∃δ,qL P np τ o st δ∧K δ:=by
 unfold jn at h
 cases hc:zz o with
 |none=>rw [hc]at h;exact h.elim
 |some x=>
  obtain⟨f,args,ts⟩:=x
  rw [hc]at h
  simp only at h
  split at h
  ·rename_i as9 ob us vs hargs hevs
   obtain⟨hob,pm,ress,h1,h2,h3,h4,h5⟩:=h
   refine⟨_, .inr (.inl ?_),h5⟩
   unfold Jq
   rw [hc]
   simp only
   rw [hargs,hevs]
   exact⟨hob,pm,ress,h1,fun i hi=>by simpa using List.all_eq_true.1 h2 i hi,h3,h4,rfl⟩
  ·exact h.elim
theorem Ux (hτ:yB P τ)(hpos:yd τ)(hmix:P.follows .mixedOrders=true){A:List (List Nat)}{Q:Exit→St→Prop}{id:Nat}{ops:List Oper}(hs:XN np ops A=true)(hd:qW st.n ops=true)(hlex':KE P np τ ops A (fun st'=> ∃s,Eqv st' s∧Q .normal s) ops 0 [] (st.start np ops)):awp P τ (.region id ops.toArray true) Q st:=fun lo w0 a w hr=>by
 simp only [XN,Bool.and_eq_true]at hs
 obtain⟨h1,h2,h3⟩:=hs
 have hn:a.tmps.size=st.n:=by obtain⟨ow,hd,bk,h⟩:=hr;exact h.size
 have hrc:Rel τ lo w0 (st.clean np ops) a {w with drawn:=w.drawn+1}:=by
  obtain⟨ow,hd,bk,h⟩:=KX hr (fun d=>((ops.filter (yv np)).map zo).contains (d / 16)) (fun t=>((ops.filter (yv np)).map zo).contains t)
  exact⟨ow,hd,bk,UF h⟩
 have hr':Rel τ lo w0 (st.start np ops) a {w with drawn:=w.drawn+1}:=by
  unfold St.start
  split
  ·exact kW hrc
  ·exact hrc
 have hpf:np=true→PF (st.start np ops):=fun e=>by unfold St.start;rw [if_pos e];exact Ka _
 refine wp_region_any hmix ?_
 have hany:=KK (fun st st' he ⟨s,h1,h2⟩=>⟨s,he.symm.trans h1,h2⟩) h1 ops 0 [] (Array.replicate ops.length false) _ (by simp) (fun j o _ hj=>by
  rw [Array.getD_eq_getD_getElem?,Array.getElem?_replicate]at hj
  split at hj<;>simp at hj) h3 hlex'
 have :=VF (Q':=fun e a' w'=> ∃st',Rel τ lo w0 st' a' w'∧Q e st') hτ hpos h2 (fun st' a w ⟨s,he,hq⟩ hr=>⟨s,qg hr he.cov,hq⟩) ops.length [] (Array.replicate ops.length false) (st.start np ops) a {w with drawn:=w.drawn+1} (by rw [hn];exact hd) (fun j o ho _ hm=>by
  have hfc:yR (own (zo o)) (st.clean np ops):=by
   refine Yd (fun d hdt=> ?_) (ZM ho hm)
   rw [hdt];exact ZM ho hm
  unfold St.start
  split
  ·exact Jw hfc
  ·exact hfc) hpf hr' hany
 simpa using this
end
end Go.Proofs.Ytdbecmmeifdafaa
