/- memory strategies: both sides -/
import Derived.Test.YtggpbepdeilpgaaB7zmt
import Derived.Test.YtggpbepdeilpgaaB13zmt
import Derived.Test.YtggpbepdeilpgaaB4zmt
import Derived.Test.YtggpbepdeilpgaaB9zmt
import Derived.ArgAppend
import Derived.MapKept
import Derived.Test.YtggpbepdeilpgaaB11zmt
import Derived.Test.YtggpbepdeilpgaaGWzmt
import Derived.Test.YtggpbepdeilpgaaB8zmt
namespace Go.Proofs.Ytggpbepdeilpgaa
open Nat renaming reduceMod → zA, reduceMul → zB, reduceDiv → zC, reduceAdd → zD, reduceSub → zE, reduceEqDiff → zF, reduceBEq → zG, reduceLT → zH, reduceLeDiff → zI
open Go.RowKit
set_option linter.unusedVariables false
set_option linter.unusedSimpArgs false
def KN (a:Ar)(plan:List Int):Me:=if yh a 0 plan then⟨[List.replicate plan.length 0],[plan]⟩else⟨[],[]⟩
theorem zJH {a:Ar}{plan:List Int}(h:yh a 0 plan=false):KN a plan=⟨[],[]⟩:=by unfold KN;rw [h];rfl
theorem KO {a:Ar}{plan:List Int}(h:yh a 0 plan=true):KN a plan=⟨[List.replicate plan.length 0],[plan]⟩:=by unfold KN;rw [h];rfl
theorem zHD {a:Ar}{plan:List Int}(h:LnI 1048576 plan):(KN a plan).Ln 1048576:=by
 unfold LnI at h
 unfold KN
 split
 ·exact⟨⟨by simp,fun r hr=>by simp at hr;subst hr;simp;exact h⟩,⟨by simp,fun r hr=>by simp at hr;subst hr;exact h⟩⟩
 ·exact⟨⟨by simp,by simp⟩,⟨by simp,by simp⟩⟩
def vq (a:Ar)(next choice:List Int)(k:Int):Bool:=decide (next.length=a.owner.length)&&(yU a 0 choice&&wd next.length (fun v=>decide (0≤gi next v∧gi next v<k)))
theorem zFh {a:Ar}{next choice:List Int}{k:Int}(h: ¬next.length=a.owner.length):vq a next choice k=false:=by unfold vq;rw [decide_eq_false h];rfl
theorem zFi {a:Ar}{next choice:List Int}{k:Int}(h:yU a 0 choice=false):vq a next choice k=false:=by unfold vq;rw [h,Bool.false_and,Bool.and_false]
theorem zFj {a:Ar}{next choice:List Int}{k:Int}{v:Nat}(hv:v<next.length)(h: ¬(0≤gi next v∧gi next v<k)):vq a next choice k=false:=by unfold vq;rw [qp hv (decide_eq_false h),Bool.and_false,Bool.and_false]
theorem uj {a:Ar}{next choice:List Int}{k:Int}(h1:next.length=a.owner.length)(h2:yU a 0 choice=true)(h3: ∀v,v<next.length→0≤gi next v∧gi next v<k):vq a next choice k=true:=by unfold vq;rw [decide_eq_true h1,h2,xq fun v hv=>decide_eq_true (h3 v hv)];rfl
def va (a:Ar)(m:Me):Bool:=decide (1≤m.next.length∧m.next.length≤24∧m.choice.length=m.next.length)&&wd m.next.length (fun s=>vq a (gl m.next s) (gl m.choice s) m.next.length)
theorem zHC {a:Ar}{m:Me}(h: ¬(1≤m.next.length∧m.next.length≤24∧m.choice.length=m.next.length)):va a m=false:=by unfold va;rw [decide_eq_false h];rfl
theorem zA3 {a:Ar}{m:Me}{s:Nat}(hs:s<m.next.length)(h:vq a (gl m.next s) (gl m.choice s) m.next.length=false):va a m=false:=by unfold va;rw [qp hs h,Bool.and_false]
theorem zA4 {a:Ar}{m:Me}(h1:1≤m.next.length∧m.next.length≤24∧m.choice.length=m.next.length)(h2: ∀s,s<m.next.length→vq a (gl m.next s) (gl m.choice s) m.next.length=true):va a m=true:=by unfold va;rw [decide_eq_true h1,xq h2];rfl
set_option maxRecDepth 20000 in
set_option maxHeartbeats 4000000 in
theorem jq (a:Ar)(ha:a.Ln 1048576)(plan:List Int)(hp:LnI 1048576 plan):Fn Try.prog tyT 21 [.agg (dAr a), .c (DI plan)] [.agg (dMe (KN a plan)), .c (.bool (yh a 0 plan))]:=by
 unfold LnI at hp
 have hP:=zDU a ha 0 plan hp
 unfold dAr at hP
 unfold dAr dMe
 refine Vs (fn:=Try.f21) (rs:= [.cell 4 37, .tmp 5]) zQ zO Try.func21 (by kernel_rfl) rfl rfl (by rw [Try.ntmps21];exact Nat.le_of_ble_eq_true rfl) rfl (by simp only [szA,List.mem_cons,List.not_mem_nil,or_false,forall_eq_or_imp,forall_eq,VT.cells,szL];try decide) ?_
 rw [Try.ntmps21]
 simp only [push_cast,↓zK,↓zJ,↓reduceIte,zA,zB,zC,zD,zE,zF,zG,zH,zI,reduceCtorEq]
 refine zL fun K hK=> ?_
 refine zM zQ zO [] rfl ?_
 simp only [push_cast,↓zK,↓zJ,↓reduceIte,zA,zB,zC,zD,zE,zF,zG,zH,zI,reduceCtorEq]
 repeat' apply And.intro
 all_goals try exact gB
 all_goals first|(refine hK _ ?_;clear hK K)|(simp only [push_cast];done)
 refine zL fun K1 hK1=> ?_
 refine zL fun K hK=> ?_
 refine zM zQ zO [] rfl ?_
 all_goals refine yz 3 fun K9 hK9=> ?_
 all_goals simp only [push_cast,↓zK,↓zJ,↓reduceIte,zA,zB,zC,zD,zE,zF,zG,zH,zI,reduceCtorEq]
 all_goals repeat'(first|(apply zP<;>(intro hg;(try simp only [push_cast]at hg)))|(refine⟨_,hP,?_⟩;simp only [push_cast,↓zK,↓zJ,↓reduceIte,zA,zB,zC,zD,zE,zF,zG,zH,zI,reduceCtorEq])|apply And.intro|(intro hg;(try simp only [push_cast]at hg)))
 all_goals try exact gA
 all_goals first|(refine hK9 _ ?_;clear hK9 K9)|(simp only [push_cast];done)
 all_goals simp only [push_cast,↓zK,↓zJ,↓reduceIte,zA,zB,zC,zD,zE,zF,zG,zH,zI,reduceCtorEq]
 all_goals repeat'(first|(apply zP<;>(intro hg;(try simp only [push_cast]at hg)))|(refine⟨_,hP,?_⟩;simp only [push_cast,↓zK,↓zJ,↓reduceIte,zA,zB,zC,zD,zE,zF,zG,zH,zI,reduceCtorEq])|apply And.intro|(intro hg;(try simp only [push_cast]at hg)))
 all_goals try exact gA
 all_goals first|(refine hK _ ?_;clear hK K)|(simp only [push_cast];done)
 refine zU rfl (fun hc=> ?_) (fun hc=> ?_)<;>(try simp only [push_cast]at hc)
 ·
  refine zL fun K hK=> ?_
  refine zM zQ zO [] rfl ?_
  simp only [push_cast,↓zK,↓zJ,↓reduceIte,zA,zB,zC,zD,zE,zF,zG,zH,zI,reduceCtorEq]
  repeat' apply And.intro
  all_goals try exact gB
  all_goals first|(refine hK _ ?_;clear hK K)|(simp only [push_cast];done)
  refine zc ?_
  (try simp only [zR,zS])
  refine⟨Or.inl rfl,?_⟩
  simp only [zi,yS,xU,push_cast,↓zK,↓zJ,↓reduceIte,zA,zB,zC,zD,zE,zF,zG,zH,zI,reduceCtorEq]
  have h9:yh a 0 plan=false:=by with_reducible assumption
  rw [zJH h9,h9]
  all_goals first|rfl|(simp [dI,dII];done)
 ·
  refine zV ?_
  (try simp only [zR,zS,reduceIte,zF]);refine hK1 _ ?_
  refine zL fun K hK=> ?_
  refine vL false zQ zO xW ?_ rfl ?_
  ·kernel_rfl
  intro C hC
  simp only [push_cast,↓zK,↓zJ,↓reduceIte,zA,zB,zC,zD,zE,zF,zG,zH,zI,reduceCtorEq]
  repeat' apply And.intro
  all_goals first|omega|with_reducible assumption|(refine hC _ ?_;kernel_rfl)|(simp only [List.length_set,List.length_append,List.length_replicate,List.length_cons,List.length_nil];omega)|skip
  all_goals first|(refine hK _ ?_;clear hC C hK K)|(simp only [push_cast];done)
  refine zc ?_
  (try simp only [zR,zS])
  refine⟨Or.inl rfl,?_⟩
  simp only [zi,yS,xU,push_cast,↓zK,↓zJ,↓reduceIte,zA,zB,zC,zD,zE,zF,zG,zH,zI,reduceCtorEq]
  have h9:yh a 0 plan=true:=by with_reducible assumption
  rw [KO h9,h9]
  all_goals first|rfl|(simp [dI,dII];done)
set_option maxRecDepth 20000 in
set_option maxHeartbeats 4000000 in
theorem Jk (a:Ar)(ha:a.Ln 1048576)(hnl:a.next.length=a.owner.length)(m:Me)(hm:m.Ln 1048576):Fn Try.prog tyT 42 [.agg (dAr a), .agg (dMe m)] [.c (.bool (va a m))]:=by
 have hmr: ∀s,(gl m.next s).length≤1048576:=fun s=>wu hm.next s
 have hmc: ∀s,(gl m.choice s).length≤1048576:=fun s=>wu hm.choice s
 have hm1:=hm.next.1
 have hm2:=hm.choice.1
 have hno:=ha.owner
 unfold LnI at hno
 have hP:=fun s=>WR a ha hnl 0 (gl m.choice s) (hmc s)
 unfold dAr at hP
 unfold dAr dMe
 refine yK (fn:=Try.f42) (ts:= [4]) Try.func42 (by kernel_rfl) rfl rfl (by rw [Try.ntmps42];exact Nat.le_of_ble_eq_true rfl) rfl (by simp only [szA,List.mem_cons,List.not_mem_nil,or_false,forall_eq_or_imp,forall_eq,VT.cells,szL];try decide) ?_
 rw [Try.ntmps42]
 simp only [push_cast,↓zK,↓zJ,↓reduceIte,zA,zB,zC,zD,zE,zF,zG,zH,zI,reduceCtorEq]
 refine zL fun K hK=> ?_
 refine zM zQ zO [] rfl ?_
 all_goals simp only [push_cast,↓zK,↓zJ,↓reduceIte,zA,zB,zC,zD,zE,zF,zG,zH,zI,reduceCtorEq]
 all_goals repeat'(first|(apply zP<;>(intro hg;(try simp only [push_cast]at hg)))|apply And.intro|(intro hg;(try simp only [push_cast]at hg)))
 all_goals first|exact gA|(exact zN (by omega))|skip
 all_goals first|(refine hK _ ?_;clear hK K)|(simp only [push_cast];done)
 refine zL fun K hK=> ?_
 refine zM zQ zO [] rfl ?_
 all_goals simp only [push_cast,↓zK,↓zJ,↓reduceIte,zA,zB,zC,zD,zE,zF,zG,zH,zI,reduceCtorEq]
 all_goals repeat'(first|(apply zP<;>(intro hg;(try simp only [push_cast]at hg)))|apply And.intro|(intro hg;(try simp only [push_cast]at hg)))
 all_goals first|exact gA|(exact zN (by omega))|skip
 all_goals first|(refine hK _ ?_;clear hK K)|(simp only [push_cast];done)
 refine zL fun K1 hK1=> ?_
 refine zL fun K hK=> ?_
 refine za false zQ zO ?_ rfl ?_
 ·kernel_rfl
 all_goals simp only [push_cast,↓zK,↓zJ,↓reduceIte,zA,zB,zC,zD,zE,zF,zG,zH,zI,reduceCtorEq]
 all_goals repeat'(first|(apply zP<;>(intro hg;(try simp only [push_cast]at hg)))|apply And.intro|(intro hg;(try simp only [push_cast]at hg)))
 all_goals first|exact gA|(exact zN (by omega))|skip
 all_goals first|(refine hK _ ?_;clear hK K)|(simp only [push_cast];done)
 all_goals refine zU rfl (fun hc=> ?_) (fun hc=> ?_)
 all_goals(first|(cases hc;done)|skip)
 all_goals(try simp only [push_cast]at hc)
 all_goals try(
   refine zL fun K hK=> ?_
   refine zM zQ zO [] rfl ?_
   all_goals simp only [push_cast,↓zK,↓zJ,↓reduceIte,zA,zB,zC,zD,zE,zF,zG,zH,zI,reduceCtorEq]
   all_goals repeat'(first|(apply zP<;>(intro hg;(try simp only [push_cast]at hg)))|apply And.intro|(intro hg;(try simp only [push_cast]at hg)))
   all_goals first|exact gA|(exact zN (by omega))|skip
   all_goals first|(refine hK _ ?_;clear hK K)|(simp only [push_cast];done)
   refine zc ?_
   (try simp only [zR,zS])
   refine⟨Or.inl rfl,?_⟩
   simp only [zi,push_cast,↓zK,↓zJ,↓reduceIte,zA,zB,zC,zD,zE,zF,zG,zH,zI,reduceCtorEq]
   symm
   exact zHC (by omega)
   done)
 refine zV ?_
 (try simp only [zR,zS,reduceIte,zF]);refine hK1 _ ?_
 refine zL fun K2 hK2=> ?_
 refine zL fun K hK=> ?_
 refine zM zQ zO [] rfl ?_
 all_goals simp only [push_cast,↓zK,↓zJ,↓reduceIte,zA,zB,zC,zD,zE,zF,zG,zH,zI,reduceCtorEq]
 all_goals repeat'(first|(apply zP<;>(intro hg;(try simp only [push_cast]at hg)))|apply And.intro|(intro hg;(try simp only [push_cast]at hg)))
 all_goals first|exact gA|(exact zN (by omega))|skip
 all_goals first|(refine hK _ ?_;clear hK K)|(simp only [push_cast];done)
 refine zT ?_
 refine zh [4,6,7,9,15,19,31,32,33,34,35,36,37,38,39,40,41,42,43,44,45,46,47,48,49,50,51,52,53,54,55,56,57,58,59,60,61,62,63,64,65,66] [] (fun(s:Nat)=> [(31, .int .i64 s)]) (fun s=> []) (fun s=> []) (fun s=>s≤m.next.length∧∀j,j<s→vq a (gl m.next j) (gl m.choice j) m.next.length=true) (fun s=>m.next.length - s) 0 ?_ ⟨by omega,fun j hj=>by omega⟩ ?_
 ·
  refine zX rfl ?_ ?_ ?_<;>simp only [zg,zf,push_cast,↓zK,↓zJ,↓reduceIte,zA,zB,zC,zD,zE,zF,zG,zH,zI,reduceCtorEq]
 ·rintro s ⟨hs,hall⟩ KL0 hL0
  have hrs:=hmr s
  have hcs:=hmc s
  simp only [push_cast,↓zK,↓zJ,↓reduceIte,zA,zB,zC,zD,zE,zF,zG,zH,zI,reduceCtorEq]
  refine zL fun K hK=> ?_
  refine zM zQ zO [] rfl ?_
  all_goals simp only [push_cast,↓zK,↓zJ,↓reduceIte,zA,zB,zC,zD,zE,zF,zG,zH,zI,reduceCtorEq]
  all_goals repeat'(first|(apply zP<;>(intro hg;(try simp only [push_cast]at hg)))|apply And.intro|(intro hg;(try simp only [push_cast]at hg)))
  all_goals first|exact gA|(exact zN (by omega))|skip
  all_goals first|(refine hK _ ?_;clear hK K)|(simp only [push_cast];done)
  refine zL fun K3 hK3=> ?_
  refine zU rfl (fun hc=> ?_) (fun hc=> ?_)<;>(try simp only [push_cast]at hc)
  ·
   refine zV ?_
   (try simp only [zR,zS,reduceIte,zF]);refine hK3 _ ?_
   refine zL fun K4 hK4=> ?_
   refine zT ?_
   refine zL fun K hK=> ?_
   refine zM zQ zO [] rfl ?_
   all_goals simp only [push_cast,↓zK,↓zJ,↓reduceIte,zA,zB,zC,zD,zE,zF,zG,zH,zI,reduceCtorEq]
   all_goals repeat'(first|(apply zP<;>(intro hg;(try simp only [push_cast]at hg)))|apply And.intro|(intro hg;(try simp only [push_cast]at hg)))
   all_goals first|exact gA|(exact zN (by omega))|skip
   all_goals first|(refine hK _ ?_;clear hK K)|(simp only [push_cast];done)
   refine zL fun K5 hK5=> ?_
   refine zL fun K hK=> ?_
   refine yB false zQ zO xW ?_ rfl ?_
   ·kernel_rfl
   intro E hE
   all_goals refine yP 14 (by decide) fun K9 hK9=> ?_
   all_goals simp only [push_cast,↓zK,↓zJ,↓reduceIte,zA,zB,zC,zD,zE,zF,zG,zH,zI,reduceCtorEq]
   all_goals repeat'(first|(apply zP<;>(intro hg;(try simp only [push_cast]at hg)))|(refine⟨_,hP s,?_⟩;simp only [push_cast,↓zK,↓zJ,↓reduceIte,zA,zB,zC,zD,zE,zF,zG,zH,zI,reduceCtorEq])|apply And.intro|(intro hg;(try simp only [push_cast]at hg)))
   all_goals first|exact gA|(exact zN (by omega))|skip
   all_goals first|(refine hK9 _ _ ?_;clear hK9 K9)|(simp only [push_cast];done)
   all_goals simp only [push_cast,↓zK,↓zJ,↓reduceIte,zA,zB,zC,zD,zE,zF,zG,zH,zI,reduceCtorEq]
   all_goals repeat'(first|(apply zP<;>(intro hg;(try simp only [push_cast]at hg)))|(refine⟨_,hP s,?_⟩;simp only [push_cast,↓zK,↓zJ,↓reduceIte,zA,zB,zC,zD,zE,zF,zG,zH,zI,reduceCtorEq])|apply And.intro|(intro hg;(try simp only [push_cast]at hg)))
   all_goals first|exact gA|(refine hE _ _ ?_ ?_;kernel_rfl)|(exact zN (by omega))|skip
   all_goals clear hE E
   all_goals first|(refine hK _ ?_;clear hK K)|(simp only [push_cast];done)
   all_goals refine zU rfl (fun hc=> ?_) (fun hc=> ?_)
   all_goals(first|(cases hc;done)|skip)
   all_goals(try simp only [push_cast]at hc)
   all_goals first
    |(
      refine zV ?_
      (try simp only [zR,zS,reduceIte,zF]);refine hK5 _ ?_
      refine zL fun K hK=> ?_
      refine zM zQ zO [] rfl ?_
      all_goals simp only [push_cast,↓zK,↓zJ,↓reduceIte,zA,zB,zC,zD,zE,zF,zG,zH,zI,reduceCtorEq]
      all_goals repeat'(first|(apply zP<;>(intro hg;(try simp only [push_cast]at hg)))|apply And.intro|(intro hg;(try simp only [push_cast]at hg)))
      all_goals first|exact gA|(exact zN (by omega))|skip
      all_goals first|(refine hK _ ?_;clear hK K)|(simp only [push_cast];done)
      refine zT ?_
      refine zh [4,9,15,19,42,54,55,56,57,58,59,60,61,62,63,64,65] [] (fun(k:Nat)=> [(54, .int .i64 k)]) (fun k=> []) (fun k=> []) (fun k=>k≤(gl m.next s).length∧∀j,j<k→0≤gi (gl m.next s) j∧gi (gl m.next s) j<m.next.length) (fun k=>(gl m.next s).length - k) 0 ?_ ⟨by omega,fun j hj=>by omega⟩ ?_
      ·
       refine zX rfl ?_ ?_ ?_<;>simp only [zg,zf,push_cast,↓zK,↓zJ,↓reduceIte,zA,zB,zC,zD,zE,zF,zG,zH,zI,reduceCtorEq]
      ·rintro k ⟨hk,hall2⟩ KL1 hL1
       simp only [push_cast,↓zK,↓zJ,↓reduceIte,zA,zB,zC,zD,zE,zF,zG,zH,zI,reduceCtorEq]
       refine zL fun K hK=> ?_
       refine zM zQ zO [] rfl ?_
       all_goals simp only [push_cast,↓zK,↓zJ,↓reduceIte,zA,zB,zC,zD,zE,zF,zG,zH,zI,reduceCtorEq]
       all_goals repeat'(first|(apply zP<;>(intro hg;(try simp only [push_cast]at hg)))|apply And.intro|(intro hg;(try simp only [push_cast]at hg)))
       all_goals first|exact gA|(exact zN (by omega))|skip
       all_goals first|(refine hK _ ?_;clear hK K)|(simp only [push_cast];done)
       refine zL fun K6 hK6=> ?_
       refine zU rfl (fun hc=> ?_) (fun hc=> ?_)<;>(try simp only [push_cast]at hc)
       ·
        refine zV ?_
        (try simp only [zR,zS,reduceIte,zF]);refine hK6 _ ?_
        refine zL fun K7 hK7=> ?_
        refine zT ?_
        refine zL fun K hK=> ?_
        refine zM zQ zO [] rfl ?_
        all_goals simp only [push_cast,↓zK,↓zJ,↓reduceIte,zA,zB,zC,zD,zE,zF,zG,zH,zI,reduceCtorEq]
        all_goals repeat'(first|(apply zP<;>(intro hg;(try simp only [push_cast]at hg)))|apply And.intro|(intro hg;(try simp only [push_cast]at hg)))
        all_goals first|exact gA|(exact zN (by omega))|skip
        all_goals first|(refine hK _ ?_;clear hK K)|(simp only [push_cast];done)
        refine zL fun K hK=> ?_
        refine za false zQ zO ?_ rfl ?_
        ·kernel_rfl
        all_goals simp only [push_cast,↓zK,↓zJ,↓reduceIte,zA,zB,zC,zD,zE,zF,zG,zH,zI,reduceCtorEq]
        all_goals repeat'(first|(apply zP<;>(intro hg;(try simp only [push_cast]at hg)))|apply And.intro|(intro hg;(try simp only [push_cast]at hg)))
        all_goals first|exact gA|(exact zN (by omega))|skip
        all_goals first|(refine hK _ ?_;clear hK K)|(simp only [push_cast];done)
        all_goals refine zU rfl (fun hc=> ?_) (fun hc=> ?_)
        all_goals(first|(cases hc;done)|skip)
        all_goals(try simp only [push_cast]at hc)
        all_goals try(
          refine zL fun K hK=> ?_
          refine zM zQ zO [] rfl ?_
          all_goals simp only [push_cast,↓zK,↓zJ,↓reduceIte,zA,zB,zC,zD,zE,zF,zG,zH,zI,reduceCtorEq]
          all_goals repeat'(first|(apply zP<;>(intro hg;(try simp only [push_cast]at hg)))|apply And.intro|(intro hg;(try simp only [push_cast]at hg)))
          all_goals first|exact gA|(exact zN (by omega))|skip
          all_goals first|(refine hK _ ?_;clear hK K)|(simp only [push_cast];done)
          refine zc ?_
          (try simp only [zR,zS])
          refine⟨Or.inl rfl,?_⟩
          simp only [zi,push_cast,↓zK,↓zJ,↓reduceIte,zA,zB,zC,zD,zE,zF,zG,zH,zI,reduceCtorEq]
          symm
          exact zA3 (s:=s) (by omega) (zFj (v:=k) (by omega) (by omega))
          done)
        refine zV ?_
        (try simp only [zR,zS,reduceIte,zF]);refine hK7 _ ?_
        refine zM zQ zO [] rfl ?_
        all_goals simp only [push_cast,↓zK,↓zJ,↓reduceIte,zA,zB,zC,zD,zE,zF,zG,zH,zI,reduceCtorEq]
        all_goals repeat'(first|(apply zP<;>(intro hg;(try simp only [push_cast]at hg)))|apply And.intro|(intro hg;(try simp only [push_cast]at hg)))
        all_goals first|exact gA|(exact zN (by omega))|skip
        refine hL1 _ ⟨k+1,⟨by omega,fun j hj=>(by
          by_cases hjk:j=k
          ·subst hjk;omega
          ·exact hall2 j (by omega))⟩,by omega,?_⟩
        refine zX rfl ?_ ?_ ?_<;>simp only [zg,zf,push_cast,↓zK,↓zJ,↓reduceIte,zA,zB,zC,zD,zE,zF,zG,zH,zI,reduceCtorEq]
       ·
        refine zm ?_
        (try simp only [zR,zS,reduceIte,zF]);refine hK4 _ ?_
        refine zM zQ zO [] rfl ?_
        all_goals simp only [push_cast,↓zK,↓zJ,↓reduceIte,zA,zB,zC,zD,zE,zF,zG,zH,zI,reduceCtorEq]
        all_goals repeat'(first|(apply zP<;>(intro hg;(try simp only [push_cast]at hg)))|apply And.intro|(intro hg;(try simp only [push_cast]at hg)))
        all_goals first|exact gA|(exact zN (by omega))|skip
        refine hL0 _ ⟨s+1,⟨by omega,fun j hj=>(by
          by_cases hjs:j=s
          ·subst hjs;exact uj (by omega) (by with_reducible assumption) fun v hv=>hall2 v (by omega)
          ·exact hall j (by omega))⟩,by omega,?_⟩
        refine zX rfl ?_ ?_ ?_<;>simp only [zg,zf,push_cast,↓zK,↓zJ,↓reduceIte,zA,zB,zC,zD,zE,zF,zG,zH,zI,reduceCtorEq]
      done)
    |(
      refine zL fun K hK=> ?_
      refine zM zQ zO [] rfl ?_
      all_goals simp only [push_cast,↓zK,↓zJ,↓reduceIte,zA,zB,zC,zD,zE,zF,zG,zH,zI,reduceCtorEq]
      all_goals repeat'(first|(apply zP<;>(intro hg;(try simp only [push_cast]at hg)))|apply And.intro|(intro hg;(try simp only [push_cast]at hg)))
      all_goals first|exact gA|(exact zN (by omega))|skip
      all_goals first|(refine hK _ ?_;clear hK K)|(simp only [push_cast];done)
      refine zc ?_
      (try simp only [zR,zS])
      refine⟨Or.inl rfl,?_⟩
      simp only [zi,push_cast,↓zK,↓zJ,↓reduceIte,zA,zB,zC,zD,zE,zF,zG,zH,zI,reduceCtorEq]
      symm
      refine zA3 (s:=s) (by omega) ?_
      first|exact zFh (by omega)|exact zFi (by with_reducible assumption)
      done)
  ·
   refine zm ?_
   (try simp only [zR,zS,reduceIte,zF]);refine hK2 _ ?_
   refine zL fun K hK=> ?_
   refine zM zQ zO [] rfl ?_
   all_goals simp only [push_cast,↓zK,↓zJ,↓reduceIte,zA,zB,zC,zD,zE,zF,zG,zH,zI,reduceCtorEq]
   all_goals repeat'(first|(apply zP<;>(intro hg;(try simp only [push_cast]at hg)))|apply And.intro|(intro hg;(try simp only [push_cast]at hg)))
   all_goals first|exact gA|(exact zN (by omega))|skip
   all_goals first|(refine hK _ ?_;clear hK K)|(simp only [push_cast];done)
   refine zc ?_
   (try simp only [zR,zS])
   refine⟨Or.inl rfl,?_⟩
   simp only [zi,push_cast,↓zK,↓zJ,↓reduceIte,zA,zB,zC,zD,zE,zF,zG,zH,zI,reduceCtorEq]
   symm
   exact zA4 (by omega) fun j hj=>hall j (by omega)
theorem zHN {path st:List Int}{n S:Nat}(hn:n≤256)(hS:S≤24)(h1: ∀j,j<path.length→(0≤gi path j∧gi path j<n)∧0≤gi st j∧gi st j<S)(h2: ∀j,j<path.length→∀i,i<j→¬(gi path i=gi path j∧gi st i=gi st j)):path.length≤6144:=by
 have hl:((List.range path.length).map fun j=>(gi path j).toNat+256*(gi st j).toNat).length=path.length:=by simp
 rw [←hl]
 refine XJ 6144 _ ?_ fun x hx=> ?_
 ·refine List.pairwise_iff_getElem.2 fun i j hi hj hij=> ?_
  rw [hl]at hi hj
  simp only [List.getElem_map,List.getElem_range]
  have a1:=h1 i hi
  have a2:=h1 j hj
  have a3:=h2 j hj i hij
  intro e
  exact a3 (by omega)
 ·obtain⟨j,hj,rfl⟩:=List.mem_map.1 hx
  have a1:=h1 j (List.mem_range.1 hj)
  omega
def fvN (path st:List Int)(v s:Int):Nat→Nat→Nat
 |i,0=>i
 |i,m+1=>if gi path i=v∧gi st i=s then i else fvN path st v s (i+1) m
theorem zAf {path st:List Int}{v s:Int}{i d:Nat}(h:i<d):fvN path st v s i (d - i)=if gi path i=v∧gi st i=s then i else fvN path st v s (i+1) (d - (i+1)):=by
 rw [show d - i=(d - (i+1))+1 from by omega]
 rfl
def goU (a:Ar)(m:Me)(odd:List Int)(v s:Int):Int:=if gi a.owner v.toNat=0 then gi (gl m.choice s.toNat) v.toNat else gi odd v.toNat
def goS (m:Me)(v s:Int):Int:=gi (gl m.next s.toNat) v.toNat
def vd (a:Ar)(m:Me)(odd:List Int):Nat→List Int→List Int→Int→Int→Ls×Bool
 |0,_,_,_,_=>(⟨[],[]⟩,false)
 |F+1,path,st,v,s=>
  if fvN path st v s 0 path.length<path.length then
   if 256<fvN path st v s 0 path.length∨256<path.length - fvN path st v s 0 path.length then(⟨[],[]⟩,false)
   else(⟨path.take (fvN path st v s 0 path.length),path.drop (fvN path st v s 0 path.length)⟩,true)
  else if goU a m odd v s<0 then(⟨[],[]⟩,false)
  else vd a m odd F (path++ [v]) (st++ [s]) (goU a m odd v s) (goS m v s)
theorem zBO {a:Ar}{m:Me}{odd:List Int}{F:Nat}{path st:List Int}{v s:Int}{k:Nat}(hf:fvN path st v s 0 path.length=k)(hk:k<path.length)(h: ¬(256<k∨256<path.length - k)):vd a m odd (F+1) path st v s=(⟨path.take k,path.drop k⟩,true):=by
 rw [vd,hf,if_pos hk,if_neg h]
theorem zHY {a:Ar}{m:Me}{odd:List Int}{F:Nat}{path st:List Int}{v s:Int}{k:Nat}(hf:fvN path st v s 0 path.length=k)(hk:k<path.length)(h:256<k∨256<path.length - k):vd a m odd (F+1) path st v s=(⟨[],[]⟩,false):=by
 rw [vd,hf,if_pos hk,if_pos h]
theorem zHX {a:Ar}{m:Me}{odd:List Int}{F:Nat}{path st:List Int}{v s:Int}(hf:fvN path st v s 0 path.length=path.length)(h:goU a m odd v s<0):vd a m odd (F+1) path st v s=(⟨[],[]⟩,false):=by
 rw [vd,hf,if_neg (Nat.lt_irrefl _),if_pos h]
theorem zDG {a:Ar}{m:Me}{odd:List Int}{F:Nat}{path st:List Int}{v s:Int}(hf:fvN path st v s 0 path.length=path.length)(h: ¬goU a m odd v s<0):vd a m odd (F+1) path st v s=vd a m odd F (path++ [v]) (st++ [s]) (goU a m odd v s) (goS m v s):=by
 rw [vd,hf,if_neg (Nat.lt_irrefl _),if_neg h]
structure Ws (a:Ar)(m:Me)(path st:List Int)(v s:Int):Prop where
 len:st.length=path.length
 rg: ∀j,j<path.length→(0≤gi path j∧gi path j<a.owner.length)∧0≤gi st j∧gi st j<m.next.length
 ne: ∀j,j<path.length→∀i,i<j→¬(gi path i=gi path j∧gi st i=gi st j)
 hv:0≤v∧v<a.owner.length
 hs:0≤s∧s<m.next.length
theorem Ws.next {a:Ar}{m:Me}{path st:List Int}{v s:Int}(h:Ws a m path st v s)(hno: ∀j,j<path.length→¬(gi path j=v∧gi st j=s)){v' s':Int}(hv:0≤v'∧v'<a.owner.length)(hs:0≤s'∧s'<m.next.length):Ws a m (path++ [v]) (st++ [s]) v' s':=by
 have hl:=h.len
 refine⟨by simp [hl],fun j hj=> ?_,fun j hj i hi=> ?_,hv,hs⟩
 ·rw [List.length_append]at hj
  have hj:j<path.length+1:=hj
  rw [wS hj,wS (by omega),hl]
  split
  ·exact⟨h.hv,h.hs⟩
  ·exact h.rg j (by omega)
 ·rw [List.length_append]at hj
  have hj:j<path.length+1:=hj
  have e1:gi (path++ [v]) i=gi path i:=XC (by omega)
  have e2:gi (st++ [s]) i=gi st i:=XC (by omega)
  rw [e1,e2]
  by_cases e:j=path.length
  ·subst e
   rw [YO]
   have e3:gi (st++ [s]) path.length=s:=by rw [←hl];exact YO
   rw [e3]
   exact hno i (by omega)
  ·have e3:gi (path++ [v]) j=gi path j:=XC (by omega)
   have e4:gi (st++ [s]) j=gi st j:=XC (by omega)
   rw [e3,e4]
   exact h.ne j (by omega) i hi
theorem Ws.le {a:Ar}{m:Me}{path st:List Int}{v s:Int}(h:Ws a m path st v s)(hn:a.owner.length≤256)(hS:m.next.length≤24):path.length≤6144:=zHN hn hS h.rg h.ne
def mpB (a:Ar)(m:Me)(odd:List Int)(v:Int):Bool:=zu a&&va a m&&qt a 1 odd&&decide (0≤v∧v<a.owner.length)
def wX (a:Ar)(m:Me)(odd:List Int)(v:Int):Ls×Bool:=if mpB a m odd v then vd a m odd 6145 [] [] v 0 else(⟨[],[]⟩,false)
theorem UX {a:Ar}{m:Me}{odd:List Int}{v:Int}(h:zu a=false∨va a m=false∨qt a 1 odd=false∨¬(0≤v∧v<a.owner.length)):wX a m odd v=(⟨[],[]⟩,false):=by
 have :mpB a m odd v=false:=by
  unfold mpB
  rcases h with h|h|h|h
  ·rw [h];rfl
  ·rw [h,Bool.and_false];rfl
  ·rw [h,Bool.and_false];rfl
  ·rw [decide_eq_false h,Bool.and_false]
 unfold wX;rw [this];exact if_neg (by decide)
theorem zFg {a:Ar}{m:Me}{odd:List Int}{v:Int}(h1:zu a=true)(h2:va a m=true)(h3:qt a 1 odd=true)(h4:0≤v∧v<a.owner.length):wX a m odd v=vd a m odd 6145 [] [] v 0:=by
 have :mpB a m odd v=true:=by unfold mpB;rw [h1,h2,h3,decide_eq_true h4];rfl
 unfold wX;rw [this];exact if_pos rfl
theorem wW {a:Ar}{m:Me}(h:va a m=true):(1≤m.next.length∧m.next.length≤24∧m.choice.length=m.next.length)∧∀s,s<m.next.length→(gl m.next s).length=a.owner.length∧yU a 0 (gl m.choice s)=true∧∀v,v<(gl m.next s).length→0≤gi (gl m.next s) v∧gi (gl m.next s) v<m.next.length:=by
 unfold va at h
 rw [Bool.and_eq_true,decide_eq_true_eq]at h
 refine⟨h.1,fun s hs=> ?_⟩
 have h2:=xt (p:=fun s=>vq a (gl m.next s) (gl m.choice s) m.next.length) h.2 hs
 unfold vq at h2
 rw [Bool.and_eq_true,Bool.and_eq_true,decide_eq_true_eq]at h2
 exact⟨h2.1,h2.2.1,fun v hv=>of_decide_eq_true (xt (p:=fun v=>decide (0≤gi (gl m.next s) v∧gi (gl m.next s) v<(m.next.length:Int))) h2.2.2 hv)⟩
theorem go_rg {a:Ar}{m:Me}{odd:List Int}(h1:zu a=true)(h2:va a m=true)(h3:qt a 1 odd=true){v s:Int}(hv:0≤v∧v<a.owner.length)(hs:0≤s∧s<m.next.length):(goU a m odd v s<0∨(0≤goU a m odd v s∧goU a m odd v s<a.owner.length))∧0≤goS m v s∧goS m v s<m.next.length:=by
 obtain⟨k1,k2⟩:=wW h2
 obtain⟨k3,k4,k5⟩:=k2 s.toNat (by omega)
 have k6:=wC k4
 have k7:=wC (YF h3).1
 refine⟨?_,k5 v.toNat (by omega)⟩
 unfold goU
 split
 ·rcases k6.2 v.toNat (by omega)with e|e
  ·left;omega
  ·right;exact zAm h1 (by omega) e.2
 ·rcases k7.2 v.toNat (by omega)with e|e
  ·left;omega
  ·right;exact zAm h1 (by omega) e.2
theorem zBP {a:Ar}{m:Me}{odd:List Int}: ∀(F:Nat) (path st:List Int) (v s:Int),(vd a m odd F path st v s).1.Ln 1048576
 |0,_,_,_,_=>⟨by unfold LnI;simp [vd],by unfold LnI;simp [vd]⟩
 |F+1,path,st,v,s=>by
  rw [vd]
  split
  ·split
   ·exact⟨by unfold LnI;simp,by unfold LnI;simp⟩
   ·exact⟨by unfold LnI;simp;omega,by unfold LnI;simp;omega⟩
  ·split
   ·exact⟨by unfold LnI;simp,by unfold LnI;simp⟩
   ·exact zBP F _ _ _ _
theorem zKn {a:Ar}{m:Me}{odd:List Int}{v:Int}:(wX a m odd v).1.Ln 1048576:=by
 unfold wX
 split
 ·exact zBP _ _ _ _ _
 ·exact⟨by unfold LnI;simp,by unfold LnI;simp⟩
section
variable {P:Program} {τ:Ty} {lo:Nat} {w0:Fz} {ow:Nat→Option Pl} {hd:Nat→Value} {bk:Nat→Nat} {st:St} {a:Act} {w:World}
theorem zIo {w:World}{g i:Nat}{cur:Array Value}{e:TypeId}(h:w.heap[g]? =some (.cells cur e (0,0)))(hi:i<cur.size):(w.cell? ⟨g,i,none⟩).isSome=true∧w.frozen? ⟨g,i,none⟩=false:=by
 constructor
 ·simp [World.cell?,h,hi]
 ·simp [World.frozen?,h]
theorem zHl (hτ:zx P τ)(h:ze τ lo w0 ow hd bk st a w){d k:Nat}{e:TypeId}{xs:List D}{pin:Option Nat}(hR:lk st.r d=some ⟨.ex,e,xs,pin⟩){off len m:Nat}{v:Value}(hsub:Sub (sz τ e) (hd d) off len v)(hfull:off+len=xs.length){t ty:TypeId}{bt by_:Nat}{ck:CK}(ht:tk τ t=some (.sc (.sl e),bt))(he:tk τ e=some (.sc ck,by_))(hall:xs.all xS=true)
  (newD:List D) (news:List Value) (src:Value) (hsrc: ∃ad c2,src= .slice (some ad) m c2∧∀(j:Nat) (u:Value),news[j]? =some u→w.cell? (ad.add j)=some u) (hm:0<m) (hnl:news.length=m) (hdl:newD.length=m) (h1: ∀u∈news,u.oneCell'=true)
  (hN: ∀(i:Nat) (x:D) (u:Value),newD[i]? =some x→news[i]? =some u→xS x=true∧∃mo,Rp (sz τ) lo w ow mo x u) (h63:len+m≤1073741824) (hoff:xs.length≤1073741824) (hby:by_≤64):
  ∃v' w' ow' hd' pre,(pre= []∨pre=xs.take off)∧(Builtin.append_ #[t,t] ty #[v,src]).run P w= .ok v' w'∧ze τ lo w0 ow' hd' bk (st.appG St.delR d k ⟨.ex,e,pre++(xs.drop off++newD),none⟩) a w'∧
   AvR τ w' (st.appG St.delR d k ⟨.ex,e,pre++(xs.drop off++newD),none⟩).r (st.appG St.delR d k ⟨.ex,e,pre++(xs.drop off++newD),none⟩).b hd' bk (.sl k [] pre.length (len+m) e) v':=by
 have hsz:sz τ e=1:=Yk he
 have hu:P.underlying t=some (.slice e):=(yM hτ ht).1
 obtain⟨i0,hi0,hs0,hz0,hb0⟩:=Yo hτ he
 obtain⟨A,n,c,A',c',hnw,hhd,hval,hle,hlc,hmx,hf0,hA⟩:=hsub
 obtain⟨vs,⟨k1,N,k2,k3⟩,k5⟩:=(zw _ _).1 (h.root d _ hR)
 have hH0:Hd (sz τ) lo w ow (md .ex d) e (hd d) xs.length vs:=⟨k1,N,k2,k3⟩
 have k1:vs.length=xs.length:=k1
 have k2:xs.length=N*sz τ e:=k2
 simp only [md]at k3
 obtain⟨hown,hlab⟩:=k3
 rw [hsz,Nat.mul_one]at k2
 rw [hhd]at hown hlab
 rw [hsz]at hown hnw hA
 have hNn:N=n:=by
  rcases hown.2 with⟨hv,h0⟩|⟨g,cap,cur,hv,_⟩
  ·cases hv;exact h0
  ·cases hv;rfl
 subst hNn
 by_cases hroom:len+m≤c'
 ·-- there is room
  obtain⟨g,cap,cur,hv,hg,hb,hnc,hcm,hcs,htk⟩: ∃g cap cur,Value.slice A N c= .slice (some ⟨g,0,none⟩) N cap∧lo≤g∧w.heap[g]? =some (.cells cur e (0,0))∧N≤cap∧cap≤maxLen∧cur.size=cap*1∧cur.toList.take (N*1)=vs:=by
   rcases hown.2 with⟨hv,h0⟩|h9
   ·cases hv;exfalso;omega
   ·exact h9
  cases hv
  have hA':=hnw.2 g 0 rfl (by omega)
  rw [Nat.zero_add,Nat.mul_one]at hA'
  subst hA'
  have hw9:=hnw.1
  have hNm:N+m≤c:=by omega
  obtain⟨ad,c2,rfl,hcells⟩:=hsrc
  have hcells2: ∀j,j<news.length→(w.cell? ⟨g,N+j,none⟩).isSome=true∧w.frozen? ⟨g,N+j,none⟩=false:=fun j hj=>zIo hb (by omega)
  obtain⟨v1,w1,ow1,hrun1,hrel⟩:=QC (P:=P) hτ h (ZC h d) (by simp [St.delR,yr,is1]) (k:=k) (len:=N) (d:=d) hR (by simp) hhd (Nat.le_refl _) (ty:=ty) ht he (by show 0<sz τ e;omega) newD news (.slice (some ad) m c2) (m:=m) (.inl ⟨ad,c2,rfl,hcells⟩) (by rw [hsz,Nat.mul_one];exact hnl) (by omega) h1 (fun i x u hx hu=>by
   obtain⟨s1,mo,s2⟩:=hN i x u hx hu
   exact Ya s1 s2) (by omega) (by
   have :(N+m)*by_≤2147483648*64:=Nat.mul_le_mul (by omega) hby
   omega)
  have hr1:=run_append_room_cells (P:=P) (w:=w) t ty e i0 hu hi0 g 0 N c ad m c2 news (by rw [hs0,Nat.mul_one];exact hnl) hcells h1 (by omega) (fun j hj=>by rw [hs0,Nat.mul_one,Nat.zero_add];exact(hcells2 j hj).1) (fun j hj=>by rw [hs0,Nat.mul_one,Nat.zero_add];exact(hcells2 j hj).2)
  have hr2:=run_append_room_cells (P:=P) (w:=w) t ty e i0 hu hi0 g off len c' ad m c2 news (by rw [hs0,Nat.mul_one];exact hnl) hcells h1 hroom (fun j hj=>by rw [hs0,Nat.mul_one,show off+len=N by omega];exact(hcells2 j hj).1) (fun j hj=>by rw [hs0,Nat.mul_one,show off+len=N by omega];exact(hcells2 j hj).2)
  rw [hs0,Nat.mul_one,Nat.zero_add]at hr1
  rw [hs0,Nat.mul_one,show off+len=N by omega]at hr2
  rw [hr1]at hrun1
  cases hrun1
  have exs:xs.take off++(xs.drop off++newD)=xs.take (N*sz τ e)++newD:=by
   rw [←List.append_assoc,List.take_append_drop,hsz,Nat.mul_one,List.take_of_length_le (by omega)]
  refine⟨_,_,_,_,xs.take off, .inr rfl,by rw [hval];exact hr2,by rw [exs];exact hrel,?_⟩
  have hlo:(xs.take off).length=off:=by rw [List.length_take];omega
  rw [hlo]
  simp only [AvR]
  refine⟨⟨_,_,_,rfl⟩,fun R' hR' hp=>⟨.slice (some ⟨g,0,none⟩) (N+m) c,by simp only [yC,yF],some ⟨g,0,none⟩,N+m,c,some ⟨g,off,none⟩,c',⟨hnw.1,fun b o e9 _=> ?_⟩,rfl,rfl,by omega,hroom,hmx,hf0,fun _=>⟨g,0,rfl,by rw [hsz,Nat.mul_one,Nat.zero_add]⟩⟩⟩
  cases e9
  rw [hsz,Nat.mul_one,Nat.zero_add]
 ·-- a new row
  have hdr:(vs.drop off).length=len:=by rw [List.length_drop];omega
  obtain⟨v',w',hrun,hown',hg⟩: ∃v' w',(Builtin.append_ #[t,t] ty #[v,src]).run P w= .ok v' w'∧w'.ownsRow w.heap.size e 1 v' (len+m) (vs.drop off++news)∧w.grownBy w' none:=by
   obtain⟨ad,c2,rfl,hcells⟩:=hsrc
   have hbytes:(len+m)*by_≤140737488355328:=by
    have :(len+m)*by_≤1073741824*64:=Nat.mul_le_mul h63 hby
    omega
   have hmax:len+m≤maxLen:=by unfold maxLen;omega
   rw [hval]
   cases A' with
   |some ad'=>
    refine run_append_arg_grows (P:=P) (w:=w) t ty e i0 ck.zero 1 by_ hu hi0 hz0 hs0 hb0 (by cases ck<;>rfl) (by decide) ad' len c' (vs.drop off) (by rw [Nat.mul_one];exact hdr) (fun j u hj=> ?_) ad m c2 news (by rw [Nat.mul_one];exact hnl) hcells (by omega) hmax hbytes
    have hjl:=(List.getElem?_eq_some_iff.1 hj).1
    rw [List.getElem?_drop]at hj
    obtain⟨b1,o1,n1,c1,hv1,-,-,-,hc1⟩:=qV hH0 hj
    rw [hhd]at hv1
    cases hv1
    obtain⟨b2,o2,e1,e2⟩:=hA (by omega)
    cases e1
    rw [Nat.mul_one]at e2
    cases e2
    rw [Addr.add_lit,Nat.add_assoc]
    exact hc1
   |none=>
    have hl0:len=0:=by
     rcases Nat.eq_zero_or_pos len with h9|h9
     ·exact h9
     ·obtain⟨b2,o2,e1,e2⟩:=hA (by omega)
      cases e2
    have hc0:c'=0:=by
     rcases Nat.eq_zero_or_pos c' with h9|h9
     ·exact h9
     ·rcases hown.2 with⟨hv,h0⟩|⟨g,cap,cur,hv,_⟩
      ·cases hv;omega
      ·cases hv
       have :=hnw.2 g 0 rfl (by omega)
       cases this
    subst hl0
    subst hc0
    have hnil:vs.drop off= []:=List.eq_nil_of_length_eq_zero hdr
    rw [hnil]
    obtain⟨v',w',r1,r2,r3,-,r5⟩:=run_append_own_at (P:=P) w w.heap.size t ty e i0 ck.zero 1 by_ hu hi0 hz0 hs0 hb0 (by cases ck<;>rfl) (by decide) (.slice none 0 0) 0 [] ⟨rfl, .inl ⟨rfl,rfl⟩⟩ ad m c2 news (by rw [Nat.mul_one];exact hnl) hcells h1 hmax hbytes (Nat.le_refl _)
    exact⟨v',w',r1,r2,r3⟩
  have hvlt: ∀b,v'.ownBlock=some b→w.heap.size≤b∧b<w'.heap.size:=fun b hb=>⟨(hown'.lt b hb).1,(hown'.lt b hb).2⟩
  have s1:=ZC (ZC h d) k
  have hnew: ∀b,b<w.heap.size→¬v'.ownBlock=some b:=fun b hb e9=>by have :=(hvlt b e9).1;omega
  have s2:=XP s1 (w':=w') (ow':=fun b=>if v'.ownBlock=some b then some (.root k [])else ow b) hg.size (fun b hb=>⟨hg.block b hb (by simp),if_neg (hnew b hb)⟩) (h.below.grown hg (fun b hb=>by cases hb)) (fun b p hle hp hne=>by
   refine⟨Nat.le_trans h.low hle,fun hlt=>by have :=h.below.size;omega⟩) (fun b hle=>by
   have h9: ¬v'.ownBlock=some b:=fun e9=>by have :=(hvlt b e9).2;omega
   simp only [h9,if_false]
   exact h.new b (by have :=hg.size;omega))
  have hxl:(xs.drop off).length=len:=by rw [List.length_drop];omega
  have hownlo:w'.ownsRow lo e 1 v' (len+m) (vs.drop off++news):=⟨hown'.1,hown'.2.imp id fun⟨g,cap,cur,q1,q2,q3⟩=>⟨g,cap,cur,q1,Nat.le_trans h.low q2,q3⟩⟩
  have hroot:Rp (sz τ) lo w' (fun b=>if v'.ownBlock=some b then some (.root k [])else ow b) (md .ex k) (.lst e (xs.drop off++newD)) v':=by
   refine(zw _ _).2 ⟨vs.drop off++news,⟨by rw [List.length_append,List.length_append,hdr,hxl,hnl,hdl],len+m,by rw [hsz,Nat.mul_one,List.length_append,hxl,hdl],?_⟩,fun i x u hx hu=> ?_⟩
   ·simp only [md]
    rw [hsz]
    exact⟨hownlo,fun b hb=>by simp only [hb,if_true]⟩
   ·rcases Nat.lt_or_ge i len with hi|hi
    ·rw [List.getElem?_append_left (by omega),List.getElem?_drop]at hx hu
     exact Ya (List.all_eq_true.1 hall x (List.mem_of_getElem? hx)) (k5 _ x u hx hu)
    ·rw [List.getElem?_append_right (by omega)]at hx hu
     rw [hxl]at hx
     rw [hdr]at hu
     obtain⟨s3,mo,s4⟩:=hN _ x u hx hu
     exact Ya s3 s4
  have s3:=xx s2 k ⟨.ex,e,xs.drop off++newD,none⟩ v' hroot
  refine⟨v',w',_,_,[], .inl rfl,hrun,s3,?_⟩
  obtain⟨A2,n2,c2,hv',hlen',hnc2,hm2⟩:=xZ hroot
  have hn2:n2=len+m:=by
   rw [List.length_append,hxl,hdl,hsz,Nat.mul_one]at hlen'
   omega
  subst hn2
  subst hv'
  simp only [AvR,List.length_nil,List.nil_append]
  refine⟨⟨_,_,_,rfl⟩,fun R' hR' hp=>⟨.slice A2 (len+m) c2,by simp only [yC,yF],A2,len+m,c2,A2,c2,nw0,rfl,rfl,by omega,hnc2,hm2,fun _=>⟨rfl,rfl⟩,fun hne0=> ?_⟩⟩
  rcases hown'.2 with⟨hv9,h0⟩|⟨g,cap,cur,hv9,_⟩
  ·omega
  ·cases hv9
   exact⟨g,0,rfl,by rw [Nat.zero_mul]⟩
def aApS (τ:Ty)(o:Oper)(K:St→Prop)(st:St):Prop:=
 match o.op,o.dst with
 | .call c,some t=>
  match c.callee with
  | .builtin .append=>
   match c.args.toList,c.argTypes.toList with
   | [X,Y],[t1,t2]=>
    match ev st X,ev st Y,tk τ t1 with
    | .sl d [] off len e, .sl d2 p2 off2 len2 e2,some (.sc (.sl e'),_)=>
     match lk st.r d,lk st.r d2,tk τ e with
     |some R,some R2,some (.sc ck,by_)=>t1=t2∧e'=e∧e2=e∧R.o= .ex∧R.e=e∧(by_≤64)∧off+len=R.xs.length∧R.xs.all xS=true∧zk R2.xs p2∧vF R2.e R2.xs p2=e∧(((yI R2.xs p2).drop off2).take len2).all xS=true∧0<len2∧len+len2≤1073741824∧R.xs.length≤1073741824∧
      ∀pre:List D,(pre= []∨pre=R.xs.take off)→K ((st.appG St.delR d (zb t 0) ⟨.ex,e,pre++(R.xs.drop off++((yI R2.xs p2).drop off2).take len2),none⟩).put (some t) (.sl (zb t 0) [] pre.length (len+len2) e))
     |_,_,_=>False
    |_,_,_=>False
   |_,_=>False
  |_=>False
 |_,_=>False
theorem zDb (hτ:zx P τ):QX P τ (aApS τ):=by
 intro lo w0 st a w o K Q K' hd9 h ha hK
 obtain⟨ow,hd,bk,hr⟩:=h
 obtain⟨dst,op,oty,pos,after,guard⟩:=o
 unfold aApS at ha
 cases op<;>simp only at ha
 rename_i c
 obtain⟨callee,args,argTypes⟩:=c
 cases dst with
 |none=>simp only at ha
 |some t=>
 simp only at ha
 split at ha
 rotate_left
 ·exact ha.elim
 split at ha
 rotate_left
 ·exact ha.elim
 rename_i X Y t1 t2 h1 h2
 split at ha
 rotate_left
 ·exact ha.elim
 rename_i d off len e d2 p2 off2 len2 e2 e' bt hX hY ht1
 split at ha
 rotate_left
 ·exact ha.elim
 rename_i R R2 ck by_ hR hR2 hte
 obtain⟨rfl,rfl,rfl,hex,hRe,hb64,hfull,hall,hp2,hnode,hall2,hlen2,hbd,hbd2,hK1⟩:=ha
 obtain⟨ro,re,rx,rp⟩:=R
 simp only at hex hRe hfull hall hbd2 hK1
 subst hex;subst hRe
 have e1:args= #[X,Y]:=by cases args;simp at h1;subst h1;rfl
 have e2:argTypes= #[t1,t1]:=by cases argTypes;simp at h2;subst h2;rfl
 subst e1;subst e2
 have hx:=zZ hr X
 have hy:=zZ hr Y
 rw [hX]at hx
 rw [hY]at hy
 simp only [AvR]at hx hy
 obtain⟨hv,hin,hsub⟩:=hx.2 _ hR (by simp only [zk])
 simp only [yC,Option.some.injEq]at hin
 subst hin
 have hsz1:=Yk hte
 obtain⟨hv2,hin2,hsub2⟩:=hy.2 R2 hR2 hp2
 have hview:=Yl hr hR2 hp2 hin2 hsub2 hnode lo
 rw [hsz1,Nat.mul_one,Nat.mul_one]at hview
 obtain⟨vs,⟨k1,N,k2,A3,c3,k3,k4,k5,k6⟩,k7⟩:=(zw _ _).1 hview
 obtain⟨A4,n4,c4,A5,c5,hnw5,e4,e5,hle4,-⟩:=hsub2
 rw [k3]at e5
 cases e5
 rw [hsz1,Nat.mul_one]at k2
 obtain⟨b,oo,hA,hb,-,hcell⟩:=k6 (by omega)
 subst hA
 have hsc: ∀(i:Nat) (x:D) (u:Value),(((yI R2.xs p2).drop off2).take len2)[i]? =some x→vs[i]? =some u→xS x=true∧∃mo,Rp (sz τ) lo w ow mo x u:=fun i x u hx hu=>
  ⟨List.all_eq_true.1 hall2 x (List.mem_of_getElem? hx), .sh,Ya (m':= .sh) (List.all_eq_true.1 hall2 x (List.mem_of_getElem? hx)) (k7 i x u hx hu)⟩
 have hone: ∀u∈vs,u.oneCell'=true:=fun u hu=>by
  obtain⟨j,hj⟩:=List.getElem?_of_mem hu
  have hjl:=(List.getElem?_eq_some_iff.1 hj).1
  obtain⟨s1,mo,s2⟩:=hsc j _ u (List.getElem?_eq_getElem (by omega)) hj
  cases hd':(((yI R2.xs p2).drop off2).take len2)[j]'(by omega)with
  |int k n=>rw [hd']at s2;simp only [Rp]at s2;subst s2;rfl
  |bool b=>rw [hd']at s2;simp only [Rp]at s2;subst s2;rfl
  |hole=>rw [hd']at s1;cases s1
  |lst e xs=>rw [hd']at s1;cases s1
 obtain⟨v',w',ow',hd',pre,r1,r2,r3,r4⟩:=zHl (P:=P) hτ hr (k:=zb t 0) hR hsub hfull (ty:=oty) ht1 hte hall _ vs (a.eval Y) ⟨_,c3,k3,fun j u hu=>by rw [Addr.add_lit];exact hcell j u hu⟩ hlen2 (by rw [k1,k2]) k2 hone hsc hbd hbd2 hb64
 unfold Oper.wp
 have hexec:(execOp a.eval ⟨some t, .call ⟨.builtin .append,#[X,Y],#[t1,t1]⟩,oty,pos,after,guard⟩).run P w= .ok (.value v') w':=by
  simp [execOp,resolve,invoke,builtin,r2]
 rw [hexec]
 exact hK _ v' _ (hK1 pre r1) (yb r3 hd9 r4)
end
attribute [push_cast] aApS
section
variable {P:Program} {τ:Ty} {lo:Nat} {w0:Fz} {ow:Nat→Option Pl} {hd:Nat→Value} {bk:Nat→Nat} {st:St} {a:Act} {w:World}
end
abbrev MD :=List ((Int×Int)×Int)
def mapE (x:(Int×Int)×Int)(i:Nat):MapEntry:={key:= .agg #[.int .i64 x.1.1, .int .i64 x.1.2],val:= .int .i64 x.2,born:=i}
def YW :MD→Nat→List MapEntry
 | [],_=> []
 |x::xs,i=>mapE x i::YW xs (i+1)
def vh (m:MD):Obj:= .map (YW m 0).toArray m.length
theorem zA2 : ∀(m:MD) (x:(Int×Int)×Int) (i:Nat),YW (m++ [x]) i=YW m i++ [mapE x (i+m.length)]
 | [],x,i=>rfl
 |y::m,x,i=>by
  simp only [List.cons_append,YW,zA2 m x (i+1),List.length_cons,List.cons.injEq,true_and]
  rw [show i+1+m.length=i+(m.length+1) by omega]
def lkM :MD→Int×Int→Option Int
 | [],_=>none
 |x::m,k=>if k=x.1 then some x.2 else lkM m k
def ixM :MD→Int×Int→Nat→Nat
 | [],_,i=>i
 |x::m,k,i=>if k=x.1 then i else ixM m k (i+1)
structure yy (P:Program)(ta te tm:TypeId):Prop where
 ua:P.underlying ta=some (.array 2 te)
 ue:P.underlying te=some (.int .i64)
 um:P.underlying tm=some (.map ta te)
 ia: ∃i,P.info? ta=some i∧i.size=2∧i.zero=some (.agg #[.int .i64 0, .int .i64 0])
 ie: ∃i,P.info? te=some i∧i.size=1∧i.zero=some (.int .i64 0)
section
variable {P:Program} {ta te tm:TypeId} {w:World}
theorem yy.agg (h:yy P ta te tm):(isAgg ta).run P w= .ok true w:=by
 unfold isAgg
 rw [Sem.run_bind,run_underlying h.ua,Result.andThen_ok]
 simp
theorem yy.eagg (h:yy P ta te tm):(isAgg te).run P w= .ok false w:=by
 unfold isAgg
 rw [Sem.run_bind,run_underlying h.ue,Result.andThen_ok]
 simp
theorem yy.size (h:yy P ta te tm):(sizeOf ta).run P w= .ok 2 w:=by
 obtain⟨i,hi,h1,-⟩:=h.ia
 simp [sizeOf,typeInfo,hi,h1]
theorem yy.esize (h:yy P ta te tm):(sizeOf te).run P w= .ok 1 w:=by
 obtain⟨i,hi,h1,-⟩:=h.ie
 simp [sizeOf,typeInfo,hi,h1]
theorem yy.zero (h:yy P ta te tm):(zeroValue ta).run P w= .ok (.agg #[.int .i64 0, .int .i64 0]) w:=by
 obtain⟨i,hi,-,h1⟩:=h.ia
 simp [zeroValue,typeInfo,hi,h1]
theorem yy.ezero (h:yy P ta te tm):(zeroValue te).run P w= .ok (.int .i64 0) w:=by
 obtain⟨i,hi,-,h1⟩:=h.ie
 simp [zeroValue,typeInfo,hi,h1]
theorem yy.part (h:yy P ta te tm){xs:Array Value}{i:Nat}{v:Value}(hx:xs[i]? =some v):(part te xs i).run P w= .ok v w:=by
 unfold Go.part
 rw [Sem.run_bind,h.eagg,Result.andThen_ok]
 simp [hx]
theorem yy.echeck (h:yy P ta te tm)(em:Bool)(n:Nat)(k:IntKind)(x:Int):(Instr.checkKey em (n+1) te (.int k x)).run P w= .ok () w:=by
 unfold Instr.checkKey
 rw [Sem.run_bind,run_underlying h.ue,Result.andThen_ok]
 simp
theorem yy.check (h:yy P ta te tm)(em:Bool)(a b:Int):(Instr.checkKey em 10000 ta (.agg #[.int .i64 a, .int .i64 b])).run P w= .ok () w:=by
 rw [show(10000:Nat)=9999+1 from rfl]
 unfold Instr.checkKey
 rw [Sem.run_bind,run_underlying h.ua,Result.andThen_ok]
 have p0:=h.part (w:=w) (i:=0) (v:= .int .i64 a) (xs:= #[.int .i64 a, .int .i64 b]) rfl
 have p1:=h.part (w:=w) (i:=1) (v:= .int .i64 b) (xs:= #[.int .i64 a, .int .i64 b]) rfl
 have c0:=h.echeck (w:=w) em 9998 .i64 a
 have c1:=h.echeck (w:=w) em 9998 .i64 b
 have es:=h.esize (w:=w)
 simp [show List.range' 0 2= [0,1]from rfl,Sem.run_bind,es,p0,p1,c0,c1,Result.andThen]
theorem yy.eq (h:yy P ta te tm)(a b c d:Int):(Op.equal ta (.agg #[.int .i64 a, .int .i64 b]) (.agg #[.int .i64 c, .int .i64 d])).run P w= .ok (decide ((a,b)=(c,d))) w:=by
 unfold Op.equal
 rw [show Op.maxDepth=9998+1+1 from rfl]
 unfold Op.equalIn
 rw [Sem.run_bind,run_underlying h.ua,Result.andThen_ok]
 have h1: ∀x y:Int,(Op.equalIn (9998+1) te (.int .i64 x) (.int .i64 y)).run P w= .ok (x==y) w:=fun x y=>run_equalIn_int w 9998 te .i64 .i64 x y h.ue
 simp [h.esize,h.part (i:=0) (v:= .int .i64 a) (xs:= #[.int .i64 a, .int .i64 b]) rfl,h.part (i:=1) (v:= .int .i64 b) (xs:= #[.int .i64 a, .int .i64 b]) rfl,h.part (i:=0) (v:= .int .i64 c) (xs:= #[.int .i64 c, .int .i64 d]) rfl,h.part (i:=1) (v:= .int .i64 d) (xs:= #[.int .i64 c, .int .i64 d]) rfl,h1,Result.andThen,show List.range' 0 2= [0,1]from rfl]
 have p1:=h.part (w:=w) (i:=1) (v:= .int .i64 b) (xs:= #[.int .i64 a, .int .i64 b]) rfl
 have p2:=h.part (w:=w) (i:=1) (v:= .int .i64 d) (xs:= #[.int .i64 c, .int .i64 d]) rfl
 have h2:(Op.equalIn 9999 te (.int .i64 b) (.int .i64 d)).run P w= .ok (b==d) w:=h1 b d
 by_cases hac:a=c
 ·subst hac
  by_cases hbd:b=d
  ·subst hbd
   rw [beq_self_eq_true]at h2
   simp [Sem.run_bind,p1,h2,Result.andThen]
  ·rw [beq_eq_false_iff_ne.2 hbd]at h2
   simp [Sem.run_bind,p1,p2,h2,hbd,Result.andThen]
 ·simp [hac,Sem.run_bind,Result.andThen]
theorem yy.asks (h:yy P ta te tm)(k:Int×Int): ∀(m:MD) (i j:Nat),(Instr.findAsking ta (.agg #[.int .i64 k.1, .int .i64 k.2]) (YW m j) i).run P w= .ok ((lkM m k).map fun v=>(ixM m k i, .int .i64 v)) w
 | [],i,j=>by simp [Instr.findAsking,YW,lkM]
 |x::m,i,j=>by
  simp only [YW,Instr.findAsking,mapE]
  rw [Sem.run_bind,h.eq,Result.andThen_ok]
  simp only [lkM,ixM]
  by_cases e:k=x.1
  ·have :((k.1,k.2):Int×Int)=(x.1.1,x.1.2):=e
   rw [decide_eq_true this,if_pos e,if_pos e]
   simp
  ·have : ¬((k.1,k.2):Int×Int)=(x.1.1,x.1.2):=e
   rw [decide_eq_false this,if_neg e,if_neg e]
   simp only [Bool.false_eq_true,if_false]
   exact h.asks k m (i+1) (j+1)
theorem yy.finds (h:yy P ta te tm)(k:Int×Int)(m:MD)(j:Nat):(Instr.findKey ta (.agg #[.int .i64 k.1, .int .i64 k.2]) (YW m j)).run P w= .ok ((lkM m k).map fun v=>(ixM m k 0, .int .i64 v)) w:=by
 unfold Instr.findKey
 rw [Sem.run_bind,run_underlying h.ua,Result.andThen_ok]
 cases m with
 |nil=>simp [YW,Instr.findNow,lkM]
 |cons x m=>
  have :=h.asks (w:=w) k (x::m) 0 j
  simp only [YW,Instr.findNow,Instr.sameNow]at this⊢
  exact this
theorem yy.look (h:yy P ta te tm){r:Nat}{m:MD}(hr:w.heap[r]? =some (vh m))(k:Int×Int):
  (Instr.lookup tm (.map (some r)) (.agg #[.int .i64 k.1, .int .i64 k.2]) true).run P w= .ok (.tuple #[.int .i64 ((lkM m k).getD 0), .bool (lkM m k).isSome]) w:=by
 have hf:=h.finds (w:=w) k m 0
 have hg:=MapKept.run_getObj_map (P:=P) hr
 have hc:=h.check (w:=w) (YW m 0).toArray.isEmpty k.1 k.2
 unfold Instr.lookup
 rw [Sem.run_bind,run_underlying h.um,Result.andThen_ok]
 simp only [Sem.run_bind,hg,Result.andThen_ok,Sem.run_pure,hc,hf]
 cases hl:lkM m k with
 |none=>simp [h.ezero,Sem.run_bind,Result.andThen]
 |some v=>simp [Sem.run_bind,Result.andThen]
theorem yy.upd (h:yy P ta te tm){r:Nat}{m:MD}(hr:w.heap[r]? =some (vh m))(k:Int×Int)(v:Int)(hk:lkM m k=none):
  (Instr.mapUpdate tm (.map (some r)) (.agg #[.int .i64 k.1, .int .i64 k.2]) (.int .i64 v)).run P w= .ok () {w with heap:=w.heap.setIfInBounds r (vh (m++ [(k,v)]))}:=by
 have hf:=h.finds (w:=w) k m 0
 have hg:=MapKept.run_getObj_map (P:=P) hr
 have hc:=h.check (w:=w) false k.1 k.2
 have hs:=fun o=>MapKept.run_setObj_map (P:=P) o hr
 unfold Instr.mapUpdate
 rw [Sem.run_bind,run_underlying h.um,Result.andThen_ok]
 simp only [Sem.run_bind,hg,Result.andThen_ok,hc,hf,hk,Option.map_none]
 rw [hs]
 simp [vh,zA2,mapE]
end
def chM (a:Ar)(m:Me)(p:Plc):Int:=gi (gl m.choice (gi p.record 0).toNat) p.at_.toNat
def usM (a:Ar)(m:Me)(p:Plc):List Int:=if gi a.owner p.at_.toNat=0 then(if chM a m p<0 then []else [chM a m p])else gl a.next p.at_.toNat
def ntM (m:Me)(p:Plc):Int:=gi (gl m.next (gi p.record 0).toNat) p.at_.toNat
def rcM (m:Me)(p:Plc):List Int:= [ntM m p]
theorem zBc {a:Ar}{m:Me}{p:Plc}(h:gi a.owner p.at_.toNat=0)(h2:chM a m p<0):usM a m p= []:=by unfold usM;rw [if_pos h,if_pos h2]
theorem JY {a:Ar}{m:Me}{p:Plc}(h:gi a.owner p.at_.toNat=0)(h2: ¬chM a m p<0):usM a m p= [chM a m p]:=by unfold usM;rw [if_pos h,if_neg h2]
theorem Qs {a:Ar}{m:Me}{p:Plc}(h: ¬gi a.owner p.at_.toNat=0):usM a m p=gl a.next p.at_.toNat:=by unfold usM;rw [if_neg h]
def stM (a:Ar)(m:Me)(s:Int)(i:Nat):List Plc:=stQ (usM a m) (rcM m) ⟨s,[0]⟩ i
def rwM (a:Ar)(m:Me)(s:Int)(i:Nat):List Int:=(zt (rcM m (gq (stM a m s i) i)) (usM a m (gq (stM a m s i) i)) (stM a m s i) (usM a m (gq (stM a m s i) i)).length).2
def rsM (a:Ar)(m:Me)(s:Int)(n:Nat):List (List Int):=(List.range n).map (rwM a m s)
theorem Yt (a:Ar)(m:Me)(s:Int)(n:Nat):(rsM a m s n).length=n:=by simp [rsM]
theorem rsM_0 (a:Ar)(m:Me)(s:Int):rsM a m s 0= []:=rfl
theorem zEG (a:Ar)(m:Me)(s:Int)(n:Nat):rsM a m s (n+1)=rsM a m s n++ [rwM a m s n]:=by simp [rsM,List.range_succ]
def mmB (a:Ar)(m:Me)(s:Int):Bool:=zu a&&va a m&&decide (0≤s∧s<a.owner.length)
structure MmI (a:Ar)(m:Me)(s:Int):Prop where
 ar:zu a=true
 mem:va a m=true
 st:0≤s∧s<a.owner.length
theorem zKk {a:Ar}{m:Me}{s:Int}(h:zu a=false):mmB a m s=false:=by unfold mmB;rw [h];rfl
theorem zKl {a:Ar}{m:Me}{s:Int}(h:va a m=false):mmB a m s=false:=by unfold mmB;rw [h,Bool.and_false];rfl
theorem zKm {a:Ar}{m:Me}{s:Int}(h: ¬(0≤s∧s<a.owner.length)):mmB a m s=false:=by unfold mmB;rw [decide_eq_false h,Bool.and_false]
theorem zFf {a:Ar}{m:Me}{s:Int}(h1:zu a=true)(h2:va a m=true)(h3:0≤s∧s<a.owner.length):mmB a m s=true:=by unfold mmB;rw [h1,h2,decide_eq_true h3];rfl
theorem zA6 {a:Ar}{m:Me}{s:Int}(h:mmB a m s=true):MmI a m s:=by
 unfold mmB at h
 rw [Bool.and_eq_true,Bool.and_eq_true,decide_eq_true_eq]at h
 exact⟨h.1.1,h.1.2,h.2⟩
def OkM (a:Ar)(m:Me)(p:Plc):Prop:=0≤p.at_∧p.at_<a.owner.length∧p.record= [gi p.record 0]∧0≤gi p.record 0∧gi p.record 0<m.next.length
section
variable {a:Ar} {m:Me} {s:Int}
theorem zDF {xs:List Int}{n:Int}(h:yX xs n=true){u:Int}(hu:u∈xs):0≤u∧u<n:=by
 obtain⟨j,hj,rfl⟩:=List.mem_iff_getElem.1 hu
 have :=xt h hj
 unfold qJ at this
 have :=of_decide_eq_true this
 have e:gi xs j=xs[j]:=by
  unfold gi
  rw [List.getD_eq_getElem?_getD,List.getElem?_eq_getElem hj]
  rfl
 rw [e]at this
 exact⟨this.1,this.2.1⟩
theorem Wn (h:MmI a m s){p:Plc}(hp:OkM a m p):(usM a m p).length≤16∧(∀u∈usM a m p,0≤u∧u<a.owner.length)∧0≤ntM m p∧ntM m p<m.next.length:=by
 obtain⟨k1,k2⟩:=wW h.mem
 obtain⟨p1,p2,p3,p4,p5⟩:=hp
 obtain⟨k3,k4,k5⟩:=k2 (gi p.record 0).toNat (by omega)
 have hv:p.at_.toNat<a.owner.length:=by omega
 obtain⟨h1,h2,h3,h4,h5⟩:=xO h.ar hv
 have h6:=k5 p.at_.toNat (by omega)
 have k7:=wC k4
 refine⟨?_,?_,h6.1,h6.2⟩
 ·by_cases e:gi a.owner p.at_.toNat=0
  ·by_cases e2:chM a m p<0
   ·rw [zBc e e2];simp
   ·rw [JY e e2];simp
  ·rw [Qs e];exact h4
 ·intro u hu
  by_cases e:gi a.owner p.at_.toNat=0
  ·by_cases e2:chM a m p<0
   ·rw [zBc e e2]at hu;cases hu
   ·rw [JY e e2]at hu
    have hu:u=chM a m p:=by simpa using hu
    subst hu
    rcases k7.2 p.at_.toNat (by omega)with h7|⟨h7,h8⟩
    ·unfold chM at e2;omega
    ·exact zDF h5 ((yg _ _).1 h8)
  ·rw [Qs e]at hu
   exact zDF h5 hu
theorem vJ (h:MmI a m s): ∀i,∀p∈stM a m s i,OkM a m p:=
 Qo (O:=OkM a m) ⟨h.st.1,h.st.2,rfl,(by show(0:Int)≤0;decide),(by show(0:Int)<m.next.length;have :=(wW h.mem).1;omega)⟩ fun p hp u hu=>by
  obtain⟨h1,h2,h3,h4⟩:=Wn h hp
  have :=h2 u hu
  exact⟨this.1,this.2,rfl,h3,h4⟩
theorem JU (h:MmI a m s){i k:Nat}(hi:i<(stM a m s i).length)(hk:k≤(usM a m (gq (stM a m s i) i)).length): ∀p∈(zt (rcM m (gq (stM a m s i) i)) (usM a m (gq (stM a m s i) i)) (stM a m s i) k).1,OkM a m p:=
 Vi (O:=OkM a m) (vJ h i) (fun u hu=>by
  obtain⟨h1,h2,h3,h4⟩:=Wn h (vJ h i _ (xz hi))
  have :=h2 u hu
  exact⟨this.1,this.2,rfl,h3,h4⟩) hk
theorem zJC {p:Plc→Bool}{ps:List Plc}(h:ixQ p ps<0): ∀q∈ps,p q=false:=by
 unfold ixQ at h
 split at h
 ·omega
 ·rename_i h1
  intro q hq
  cases hb:p q with
  |false=>rfl
  |true=>exact absurd (List.findIdx_lt_length.2 ⟨q,hq,hb⟩) h1
theorem KS {r us:List Int}{ps:List Plc}(h:ps.Nodup): ∀{k:Nat},k≤us.length→(zt r us ps k).1.Nodup
 |0,_=>h
 |k+1,hk=>by
  have ih:=KS (r:=r) (us:=us) h (k:=k) (by omega)
  by_cases h2:ixQ (yc (gi us k) r) (zt r us ps k).1<0
  ·rw [vD (by omega) h2]
   show((zt r us ps k).1++ [_]).Nodup
   rw [List.nodup_append]
   refine⟨ih,by simp,fun x hx y hy e=> ?_⟩
   have hy2:y=⟨gi us k,r⟩:=by simpa using hy
   have h3:=zJC h2 x hx
   rw [e,hy2,uw (p:=⟨gi us k,r⟩) (u:=gi us k) (r:=r) rfl rfl]at h3
   cases h3
  ·rw [vE (by omega) h2];exact ih
theorem JW {us rc:Plc→List Int}{p0:Plc}: ∀i,(stQ us rc p0 i).Nodup
 |0=>by show [p0].Nodup;simp
 |i+1=>by
  have ih:=JW (us:=us) (rc:=rc) (p0:=p0) i
  by_cases h:i<(stQ us rc p0 i).length
  ·rw [JX h];exact KS ih (Nat.le_refl _)
  ·rw [YA h];exact ih
theorem few8 {ps:List Plc}(h:MmI a m s)(hn:ps.Nodup)(ho: ∀p∈ps,OkM a m p):ps.length≤6144:=by
 have hal:=zl h.ar
 have k1:=(wW h.mem).1
 have hl:(ps.map fun p=>p.at_.toNat*24+(gi p.record 0).toNat).length≤6144:=by
  refine XJ _ _ (List.pairwise_map.2 (List.Pairwise.imp_of_mem (fun{p q} hp hq hne e=> ?_) hn)) fun x hx=> ?_
  ·apply hne
   obtain⟨p1,p2,p3,p4,p5⟩:=ho p hp
   obtain⟨q1,q2,q3,q4,q5⟩:=ho q hq
   have e1:gi p.record 0=gi q.record 0:=by omega
   have e2:p.at_=q.at_:=by omega
   have e3:p.record=q.record:=by rw [p3,q3,e1]
   obtain⟨pa,pr⟩:=p
   obtain⟨qa,qr⟩:=q
   simp only at e2 e3
   rw [e2,e3]
  ·obtain⟨p,hp,rfl⟩:=List.mem_map.1 hx
   obtain⟨p1,p2,p3,p4,p5⟩:=ho p hp
   show p.at_.toNat*24+(gi p.record 0).toNat<6144
   omega
 simpa using hl
theorem jA (h:MmI a m s)(i:Nat):(stM a m s i).length≤6144:=few8 h (JW i) (vJ h i)
theorem zAX (h:MmI a m s){i k:Nat}(hi:i<(stM a m s i).length)(hk:k≤(usM a m (gq (stM a m s i) i)).length):(zt (rcM m (gq (stM a m s i) i)) (usM a m (gq (stM a m s i) i)) (stM a m s i) k).1.length≤6144:=few8 h (KS (JW i) hk) (JU h hi hk)
theorem zDu (h:MmI a m s){i:Nat}(hi:i≤6145)(h2: ¬i<(stM a m s i).length):stM a m s 6145=stM a m s i:=zHh h2 hi
theorem jg {i:Nat}(h:i<(stM a m s i).length):stM a m s (i+1)=(zt (rcM m (gq (stM a m s i) i)) (usM a m (gq (stM a m s i) i)) (stM a m s i) (usM a m (gq (stM a m s i) i)).length).1:=JX h
end
def mdF :List Plc→Nat→MD
 | [],_=> []
 |p::ps,i=>((p.at_,gi p.record 0),(i:Int))::mdF ps (i+1)
theorem kb : ∀(ps:List Plc) (p:Plc) (i:Nat),mdF (ps++ [p]) i=mdF ps i++ [((p.at_,gi p.record 0),((i+ps.length:Nat):Int))]
 | [],p,i=>rfl
 |q::ps,p,i=>by
  simp only [List.cons_append,mdF,kb ps p (i+1),List.length_cons]
  rw [show i+1+ps.length=i+(ps.length+1) by omega]
theorem zJB (f:Plc→Bool):ixQ f []= -1:=rfl
theorem zG1 (f:Plc→Bool)(p:Plc)(ps:List Plc):ixQ f (p::ps)=if f p then 0 else if ixQ f ps<0 then -1 else ixQ f ps+1:=by
 unfold ixQ
 rw [List.findIdx_cons]
 cases f p with
 |true=>simp
 |false=>
  simp only [List.length_cons,cond_false]
  by_cases e:List.findIdx f ps<ps.length
  ·rw [if_pos (by omega),if_pos e];simp;omega
  ·rw [if_neg (by omega),if_neg e];simp
theorem kX (u t:Int): ∀(ps:List Plc) (i:Nat),(∀p∈ps,p.record= [gi p.record 0])→lkM (mdF ps i) (u,t)=if ixQ (yc u [t]) ps<0 then none else some (ixQ (yc u [t]) ps+i)
 | [],i,_=>by rw [zJB];rfl
 |p::ps,i,h=>by
  have ih:=kX u t ps (i+1) fun q hq=>h q (List.mem_cons_of_mem _ hq)
  have hp:=h p List.mem_cons_self
  have hr:=zKb (yc u [t]) ps
  rw [zG1]
  simp only [mdF,lkM]
  by_cases e:(u,t)=(p.at_,gi p.record 0)
  ·have e1:u=p.at_:=congrArg Prod.fst e
   have e2:t=gi p.record 0:=congrArg Prod.snd e
   rw [if_pos e,uw e1.symm (by rw [e2];exact hp)]
   simp
  ·have :yc u [t] p=false:=by
    by_cases e1:p.at_=u
    ·refine zF4 fun e2=>e ?_
     have :gi p.record 0=t:=by rw [e2];rfl
     rw [this,e1]
    ·exact zF3 e1
   rw [if_neg e,ih,this]
   simp only [Bool.false_eq_true,if_false]
   by_cases e3:ixQ (yc u [t]) ps<0
   ·rw [if_pos e3,if_pos e3];rfl
   ·rw [if_neg e3,if_neg e3,if_neg (by omega)]
    congr 1
    push_cast
    omega
theorem zID {ps:List Plc}{u t:Int}(h: ∀p∈ps,p.record= [gi p.record 0])(h2:ixQ (yc u [t]) ps<0):lkM (mdF ps 0) (u,t)=none:=by rw [kX u t ps 0 h,if_pos h2]
theorem zFb {ps:List Plc}{u t:Int}(h: ∀p∈ps,p.record= [gi p.record 0])(h2: ¬ixQ (yc u [t]) ps<0):lkM (mdF ps 0) (u,t)=some (ixQ (yc u [t]) ps):=by rw [kX u t ps 0 h,if_neg h2];simp
theorem zEj (ps:List Plc)(x t:Int):xX ps++ [D.int .i64 x,D.lst 2 [D.int .i64 t]]=xX (ps++ [⟨x,[t]⟩]):=uK ps x [t]
attribute [push_cast] zEj
end Go.Proofs.Ytggpbepdeilpgaa
