/- The statement on ExactMemoryWins: both sides answer alike, for every argument. -/
import Derived.Test.YtggpbepdeilpgaaB4zmw
import Derived.Test.YtggpbepdeilpgaaB5zmw
import Derived.Test.YtggpbepdeilpgaaB6zmw
import Derived.Test.YtggpbepdeilpgaaKwzmw
namespace Go.Proofs.Ytggpbepdeilpgaa.lawExactMemoryWins
open Nat renaming reduceMod → zA, reduceMul → zB, reduceDiv → zC, reduceAdd → zD, reduceSub → zE, reduceEqDiff → zF, reduceBEq → zG, reduceLT → zH, reduceLeDiff → zI
open Go.ChangeShapes Go.WideShapes Go.ChangeAt Go.RowKit Go.Joins
set_option linter.unusedVariables false
set_option linter.unusedSimpArgs false
theorem own_law :ownKnob Try.prog.godebug=none:=by kernel_rfl
theorem lay_law :laidOutB Try.prog=true:=by kernel_rfl
set_option maxRecDepth 20000 in
set_option maxHeartbeats 4000000 in
theorem law (a0:Ar)(a1:List Pr)(a2:Me)(a3:Int)(l0:a0.Ln 9223372036854775807)(l1:PLn 9223372036854775807 a1)(l2:a2.Ln 9223372036854775807)(r0:Bool)
  (hS:a0.Ln 1048576→PLn 1048576 a1→a2.Ln 1048576→Fn Try.prog tyT 8 [.agg (dAr a0), .c (.lst 76 (dII (ilv a1))), .agg (dMe a2), .c (.int .i64 a3)] [.c (.bool r0)]) (hI:a0.Ln 1048576→PLn 1048576 a1→a2.Ln 1048576→Fn Try.prog tyT 12 [.agg (dAr a0), .c (.lst 76 (dII (ilv a1))), .agg (dMe a2), .c (.int .i64 a3)] [.c (.bool r0)]):Fn Try.prog tyT 3 [.agg (dAr a0), .c (.lst 68 (dII (ilv a1))), .agg (dMe a2), .c (.int .i64 a3)] [.c (.bool true)]:=by
 simp only [dAr,dMe]at hS hI⊢
 refine yC (fn:=Try.f3) (ts:= [8]) Try.func3 (by kernel_rfl) rfl rfl (by rw [Try.ntmps3];exact Nat.le_of_ble_eq_true rfl) rfl (by simp only [szA,List.mem_cons,List.not_mem_nil,or_false,forall_eq_or_imp,forall_eq,VT.cells,szL];try decide) ?_
 rw [Try.ntmps3]
 simp only [push_cast,↓zK,↓zJ,↓reduceIte,zA,zB,zC,zD,zE,zF,zG,zH,zI,reduceCtorEq]
 refine zL fun K hK=> ?_
 refine zM zQ zO [] rfl ?_
 simp only [push_cast,↓zK,↓zJ,↓reduceIte,zA,zB,zC,zD,zE,zF,zG,zH,zI,reduceCtorEq]
 repeat' apply And.intro
 all_goals try exact gB
 all_goals first|(refine hK _ ?_;clear hK K)|(simp only [push_cast];done)
 refine zL fun K hK=> ?_
 refine zM zQ zO [] rfl ?_
 simp only [push_cast,↓zK,↓zJ,↓reduceIte,zA,zB,zC,zD,zE,zF,zG,zH,zI,reduceCtorEq]
 repeat' apply And.intro
 all_goals try exact gB
 all_goals first|(refine hK _ ?_;clear hK K)|(simp only [push_cast];done)
 have hA0:=zFk a0 ((1048576:Int)) (by omega) (by omega) l0
 simp only [dAr]at hA0
 refine zL fun K hK=> ?_
 refine zM zQ zO [] rfl ?_
 simp only [push_cast,↓zK,↓zJ,↓reduceIte,zA,zB,zC,zD,zE,zF,zG,zH,zI,reduceCtorEq]
 refine⟨_,hA0,?_⟩
 simp only [push_cast,↓zK,↓zJ,↓reduceIte,zA,zB,zC,zD,zE,zF,zG,zH,zI,reduceCtorEq]
 repeat' apply And.intro
 all_goals try exact gB
 refine hK _ ?_
 clear hK K
 clear hA0
 refine zL fun K0 hK0=> ?_
 refine zL fun K hK=> ?_
 refine zM zQ zO [] rfl ?_
 simp only [push_cast,↓zK,↓zJ,↓reduceIte,zA,zB,zC,zD,zE,zF,zG,zH,zI,reduceCtorEq]
 repeat' apply And.intro
 all_goals try exact gB
 all_goals first|(refine hK _ ?_;clear hK K)|(simp only [push_cast];done)
 by_cases hn0:(1048576:Int)<(a0.tot:Nat)
 ·rw [yZ hn0]
  refine zU rfl (fun _=> ?_) (fun hc=>absurd hc (by decide))
  refine zL fun K hK=> ?_
  refine zM zQ zO [] rfl ?_
  simp only [push_cast,↓zK,↓zJ,↓reduceIte,zA,zB,zC,zD,zE,zF,zG,zH,zI,reduceCtorEq]
  repeat' apply And.intro
  all_goals try exact gB
  all_goals first|(refine hK _ ?_;clear hK K)|(simp only [push_cast];done)
  refine za ?_
  (try simp only [zS,zT])
  refine⟨Or.inl rfl,?_⟩
  simp only [ze,push_cast,↓zK,↓zJ,↓reduceIte,zA,zB,zC,zD,zE,zF,zG,zH,zI,reduceCtorEq]
 rw [xI hn0]
 refine zU rfl (fun hc=>by simp only [decide_eq_true_eq]at hc;omega) (fun _=> ?_)
 refine zV ?_
 (try simp only [zS,zT,reduceIte,zF]);refine hK0 _ ?_
 have hA0:=zFm a1 ((1048576:Int) - (a0.tot:Nat)) (by omega) (by omega) l1
 refine zL fun K hK=> ?_
 refine zM zQ zO [] rfl ?_
 simp only [push_cast,↓zK,↓zJ,↓reduceIte,zA,zB,zC,zD,zE,zF,zG,zH,zI,reduceCtorEq]
 refine⟨_,hA0,?_⟩
 simp only [push_cast,↓zK,↓zJ,↓reduceIte,zA,zB,zC,zD,zE,zF,zG,zH,zI,reduceCtorEq]
 repeat' apply And.intro
 all_goals try exact gB
 refine hK _ ?_
 clear hK K
 clear hA0
 refine zL fun K1 hK1=> ?_
 refine zL fun K hK=> ?_
 refine zM zQ zO [] rfl ?_
 simp only [push_cast,↓zK,↓zJ,↓reduceIte,zA,zB,zC,zD,zE,zF,zG,zH,zI,reduceCtorEq]
 repeat' apply And.intro
 all_goals try exact gB
 all_goals first|(refine hK _ ?_;clear hK K)|(simp only [push_cast];done)
 by_cases hn1:(1048576:Int) - (a0.tot:Nat)<(Zw a1:Nat)
 ·rw [yZ hn1]
  refine zU rfl (fun _=> ?_) (fun hc=>absurd hc (by decide))
  refine zL fun K hK=> ?_
  refine zM zQ zO [] rfl ?_
  simp only [push_cast,↓zK,↓zJ,↓reduceIte,zA,zB,zC,zD,zE,zF,zG,zH,zI,reduceCtorEq]
  repeat' apply And.intro
  all_goals try exact gB
  all_goals first|(refine hK _ ?_;clear hK K)|(simp only [push_cast];done)
  refine za ?_
  (try simp only [zS,zT])
  refine⟨Or.inl rfl,?_⟩
  simp only [ze,push_cast,↓zK,↓zJ,↓reduceIte,zA,zB,zC,zD,zE,zF,zG,zH,zI,reduceCtorEq]
 rw [xI hn1]
 refine zU rfl (fun hc=>by simp only [decide_eq_true_eq]at hc;omega) (fun _=> ?_)
 refine zV ?_
 (try simp only [zS,zT,reduceIte,zF]);refine hK1 _ ?_
 have hA0:=zFl a2 ((1048576:Int) - (a0.tot:Nat) - (Zw a1:Nat)) (by omega) (by omega) l2
 simp only [dMe]at hA0
 refine zL fun K hK=> ?_
 refine zM zQ zO [] rfl ?_
 simp only [push_cast,↓zK,↓zJ,↓reduceIte,zA,zB,zC,zD,zE,zF,zG,zH,zI,reduceCtorEq]
 refine⟨_,hA0,?_⟩
 simp only [push_cast,↓zK,↓zJ,↓reduceIte,zA,zB,zC,zD,zE,zF,zG,zH,zI,reduceCtorEq]
 repeat' apply And.intro
 all_goals try exact gB
 refine hK _ ?_
 clear hK K
 clear hA0
 refine zL fun K2 hK2=> ?_
 refine zL fun K hK=> ?_
 refine zM zQ zO [] rfl ?_
 simp only [push_cast,↓zK,↓zJ,↓reduceIte,zA,zB,zC,zD,zE,zF,zG,zH,zI,reduceCtorEq]
 repeat' apply And.intro
 all_goals try exact gB
 all_goals first|(refine hK _ ?_;clear hK K)|(simp only [push_cast];done)
 by_cases hn2:(1048576:Int) - (a0.tot:Nat) - (Zw a1:Nat)<(a2.tot:Nat)
 ·rw [yZ hn2]
  refine zU rfl (fun _=> ?_) (fun hc=>absurd hc (by decide))
  refine zL fun K hK=> ?_
  refine zM zQ zO [] rfl ?_
  simp only [push_cast,↓zK,↓zJ,↓reduceIte,zA,zB,zC,zD,zE,zF,zG,zH,zI,reduceCtorEq]
  repeat' apply And.intro
  all_goals try exact gB
  all_goals first|(refine hK _ ?_;clear hK K)|(simp only [push_cast];done)
  refine za ?_
  (try simp only [zS,zT])
  refine⟨Or.inl rfl,?_⟩
  simp only [ze,push_cast,↓zK,↓zJ,↓reduceIte,zA,zB,zC,zD,zE,zF,zG,zH,zI,reduceCtorEq]
 rw [xI hn2]
 refine zU rfl (fun hc=>by simp only [decide_eq_true_eq]at hc;omega) (fun _=> ?_)
 refine zV ?_
 (try simp only [zS,zT,reduceIte,zF]);refine hK2 _ ?_
 have L0:a0.Ln 1048576:=Ar.ln_of (by omega)
 have L1:PLn 1048576 a1:=zFy (by omega)
 have L2:a2.Ln 1048576:=Me.ln_of (by omega)
 replace hS:=hS L0 L1 L2
 replace hI:=hI L0 L1 L2
 have hA0:=KK a0 L0
 simp only [dAr]at hA0
 have hA1:=KN a1 L1
 have hA2:=KM a2 L2
 simp only [dMe]at hA2
 refine zL fun K hK=> ?_
 refine xr false zQ zO qM ?_ rfl ?_
 ·kernel_rfl
 intro C hC
 simp only [push_cast,↓zK,↓zJ,↓reduceIte,zA,zB,zC,zD,zE,zF,zG,zH,zI,reduceCtorEq]
 refine⟨_,hA0,?_⟩
 simp only [push_cast,↓zK,↓zJ,↓reduceIte,zA,zB,zC,zD,zE,zF,zG,zH,zI,reduceCtorEq]
 refine⟨_,hA1,?_⟩
 simp only [push_cast,↓zK,↓zJ,↓reduceIte,zA,zB,zC,zD,zE,zF,zG,zH,zI,reduceCtorEq]
 refine⟨_,hA2,?_⟩
 simp only [push_cast,↓zK,↓zJ,↓reduceIte,zA,zB,zC,zD,zE,zF,zG,zH,zI,reduceCtorEq]
 refine⟨_,hS,?_⟩
 simp only [push_cast,↓zK,↓zJ,↓reduceIte,zA,zB,zC,zD,zE,zF,zG,zH,zI,reduceCtorEq]
 repeat' apply And.intro
 all_goals first|omega|with_reducible assumption|(refine hC _ ?_;kernel_rfl)|(simp only [List.length_set,List.length_append,List.length_replicate,List.length_cons,List.length_nil];omega)|skip
 refine hK _ ?_
 clear hK K
 clear hA0 hA1 hA2
 have hA0:=KK a0 L0
 simp only [dAr]at hA0
 refine zL fun K hK=> ?_
 refine zM zQ zO [] rfl ?_
 simp only [push_cast,↓zK,↓zJ,↓reduceIte,zA,zB,zC,zD,zE,zF,zG,zH,zI,reduceCtorEq]
 refine⟨_,hA0,?_⟩
 simp only [push_cast,↓zK,↓zJ,↓reduceIte,zA,zB,zC,zD,zE,zF,zG,zH,zI,reduceCtorEq]
 repeat' apply And.intro
 all_goals try exact gB
 refine hK _ ?_
 clear hK K
 clear hA0
 have hA0:=KN a1 L1
 refine zL fun K hK=> ?_
 refine zM zQ zO [] rfl ?_
 simp only [push_cast,↓zK,↓zJ,↓reduceIte,zA,zB,zC,zD,zE,zF,zG,zH,zI,reduceCtorEq]
 refine⟨_,hA0,?_⟩
 simp only [push_cast,↓zK,↓zJ,↓reduceIte,zA,zB,zC,zD,zE,zF,zG,zH,zI,reduceCtorEq]
 repeat' apply And.intro
 all_goals try exact gB
 refine hK _ ?_
 clear hK K
 clear hA0
 have hA0:=KM a2 L2
 simp only [dMe]at hA0
 refine zL fun K hK=> ?_
 refine zM zQ zO [] rfl ?_
 simp only [push_cast,↓zK,↓zJ,↓reduceIte,zA,zB,zC,zD,zE,zF,zG,zH,zI,reduceCtorEq]
 refine⟨_,hA0,?_⟩
 simp only [push_cast,↓zK,↓zJ,↓reduceIte,zA,zB,zC,zD,zE,zF,zG,zH,zI,reduceCtorEq]
 repeat' apply And.intro
 all_goals try exact gB
 refine hK _ ?_
 clear hK K
 clear hA0
 refine zL fun K hK=> ?_
 refine zM zQ zO [] rfl ?_
 simp only [push_cast,↓zK,↓zJ,↓reduceIte,zA,zB,zC,zD,zE,zF,zG,zH,zI,reduceCtorEq]
 refine⟨_,hI,?_⟩
 simp only [push_cast,↓zK,↓zJ,↓reduceIte,zA,zB,zC,zD,zE,zF,zG,zH,zI,reduceCtorEq]
 repeat' apply And.intro
 all_goals try exact gB
 refine hK _ ?_
 clear hK K
 refine zL fun K3 hK3=> ?_
 refine zL fun K hK=> ?_
 refine zM zQ zO [] rfl ?_
 simp only [push_cast,↓zK,↓zJ,↓reduceIte,zA,zB,zC,zD,zE,zF,zG,zH,zI,reduceCtorEq]
 repeat' apply And.intro
 all_goals try exact gB
 all_goals first|(refine hK _ ?_;clear hK K)|(simp only [push_cast];done)
 refine zU rfl (fun hc=>by first|(cases hc;done)|(simp at hc;done)|(simp only [decide_eq_true_eq]at hc;omega)) (fun _=> ?_)
 refine zV ?_
 (try simp only [zS,zT,reduceIte,zF]);refine hK3 _ ?_
 refine zL fun K4 hK4=> ?_
 have hA0:=KK a0 L0
 simp only [dAr]at hA0
 have hA1:=zE2 a0 L0
 simp only [dAr]at hA1
 refine zL fun K hK=> ?_
 refine xr false zQ zO qM ?_ rfl ?_
 ·kernel_rfl
 intro C hC
 simp only [push_cast,↓zK,↓zJ,↓reduceIte,zA,zB,zC,zD,zE,zF,zG,zH,zI,reduceCtorEq]
 refine⟨_,hA0,?_⟩
 simp only [push_cast,↓zK,↓zJ,↓reduceIte,zA,zB,zC,zD,zE,zF,zG,zH,zI,reduceCtorEq]
 refine⟨_,hA1,?_⟩
 simp only [push_cast,↓zK,↓zJ,↓reduceIte,zA,zB,zC,zD,zE,zF,zG,zH,zI,reduceCtorEq]
 repeat' apply And.intro
 all_goals first|omega|with_reducible assumption|(refine hC _ ?_;kernel_rfl)|(simp only [List.length_set,List.length_append,List.length_replicate,List.length_cons,List.length_nil];omega)|skip
 refine hK _ ?_
 clear hK K
 clear hA0 hA1
 refine zU rfl (fun hc=>by first|(cases hc;done)|(simp at hc;done)|(simp only [decide_eq_true_eq]at hc;omega)) (fun _=> ?_)
 refine zV ?_
 (try simp only [zS,zT,reduceIte,zF]);refine hK4 _ ?_
 refine zL fun K5 hK5=> ?_
 have hA0:=KN a1 L1
 have hA1:=zE4 a1 L1
 refine zL fun K hK=> ?_
 refine zM zQ zO [] rfl ?_
 simp only [push_cast,↓zK,↓zJ,↓reduceIte,zA,zB,zC,zD,zE,zF,zG,zH,zI,reduceCtorEq]
 refine⟨_,hA0,?_⟩
 simp only [push_cast,↓zK,↓zJ,↓reduceIte,zA,zB,zC,zD,zE,zF,zG,zH,zI,reduceCtorEq]
 refine⟨_,hA1,?_⟩
 simp only [push_cast,↓zK,↓zJ,↓reduceIte,zA,zB,zC,zD,zE,zF,zG,zH,zI,reduceCtorEq]
 repeat' apply And.intro
 all_goals try exact gB
 refine hK _ ?_
 clear hK K
 clear hA0 hA1
 refine zU rfl (fun hc=>by first|(cases hc;done)|(simp at hc;done)|(simp only [decide_eq_true_eq]at hc;omega)) (fun _=> ?_)
 refine zV ?_
 (try simp only [zS,zT,reduceIte,zF]);refine hK5 _ ?_
 refine zL fun K6 hK6=> ?_
 have hA0:=KM a2 L2
 simp only [dMe]at hA0
 have hA1:=zE3 a2 L2
 simp only [dMe]at hA1
 refine zL fun K hK=> ?_
 refine xr false zQ zO qM ?_ rfl ?_
 ·kernel_rfl
 intro C hC
 simp only [push_cast,↓zK,↓zJ,↓reduceIte,zA,zB,zC,zD,zE,zF,zG,zH,zI,reduceCtorEq]
 refine⟨_,hA0,?_⟩
 simp only [push_cast,↓zK,↓zJ,↓reduceIte,zA,zB,zC,zD,zE,zF,zG,zH,zI,reduceCtorEq]
 refine⟨_,hA1,?_⟩
 simp only [push_cast,↓zK,↓zJ,↓reduceIte,zA,zB,zC,zD,zE,zF,zG,zH,zI,reduceCtorEq]
 repeat' apply And.intro
 all_goals first|omega|with_reducible assumption|(refine hC _ ?_;kernel_rfl)|(simp only [List.length_set,List.length_append,List.length_replicate,List.length_cons,List.length_nil];omega)|skip
 refine hK _ ?_
 clear hK K
 clear hA0 hA1
 refine zU rfl (fun hc=>by first|(cases hc;done)|(simp at hc;done)|(simp only [decide_eq_true_eq]at hc;omega)) (fun _=> ?_)
 refine zV ?_
 (try simp only [zS,zT,reduceIte,zF]);refine hK6 _ ?_
 refine zL fun K hK=> ?_
 refine zM zQ zO [] rfl ?_
 simp only [push_cast,↓zK,↓zJ,↓reduceIte,zA,zB,zC,zD,zE,zF,zG,zH,zI,reduceCtorEq]
 repeat' apply And.intro
 all_goals try exact gB
 all_goals first|(refine hK _ ?_;clear hK K)|(simp only [push_cast];done)
 refine za ?_
 (try simp only [zS,zT])
 refine⟨Or.inl rfl,?_⟩
 simp only [ze,push_cast,↓zK,↓zJ,↓reduceIte,zA,zB,zC,zD,zE,zF,zG,zH,zI,reduceCtorEq]
set_option maxRecDepth 100000 in
theorem YS (os:Os)(started:os.Started)(H:Type)(enc:TypeId×Value→H):
  ReturnsInHanded {} Try.checked os 3 .any (Rows.fnExactMemoryWinsSpec.pre6 enc Try.prog Try.f3 Rows.fnExactMemoryWinsRow.domain false) (Rows.fnExactMemoryWinsSpec.post enc Try.prog Try.f3 false true false false):=by
 refine returnsInHanded_of_change (C:=Try.checked) own_law started (by kernel_rfl) Try.func3
  (ChangeSpec.witness6 (enc:=enc) (C:=Try.checked) false ⟨#[],#[.agg #[.slice none 0 0, .slice none 0 0], .slice none 0 0, .agg #[.slice none 0 0, .slice none 0 0], .int .i64 0],[]⟩ 8 (by kernel_rfl) (by kernel_rfl) (by kernel_rfl) (by kernel_rfl)) ?_
 intro W base args ds gs before hval0 hW hcnd _
 have hval: ∀(j:Nat) t v,Try.f3.params[j]? =some t→args[j]? =some v→Value.okWide Try.prog W .any base t v:=hval0
 have hW0:=hW
 obtain⟨p,q,hA0,hV,rfl,hfz,hnd⟩:=hW
 have hA:DataW.TrodAll enc Try.prog W 0 (fun _=>true) true Try.f3.params.toList args.toList ds p:=hA0
 obtain⟨rfl,rfl⟩:=trodVars_none hV
 have hlt: ∀x∈p,x.block<W.heap.size:=fun x hx=>hW0.lt x (by simp [hx])
 rw [Try.params3]at hA hval
 clear hA0 hval0 hV
 obtain⟨v0,vs0,d0,ds0,p0,q0,hargs,rfl,rfl,h0,r0⟩:=trodAll_cons hA
 obtain⟨v1,vs1,d1,ds1,p1,q1,rfl,rfl,rfl,h1,r1⟩:=trodAll_cons r0
 obtain⟨v2,vs2,d2,ds2,p2,q2,rfl,rfl,rfl,h2,r2⟩:=trodAll_cons r1
 obtain⟨v3,vs3,d3,ds3,p3,q3,rfl,rfl,rfl,h3,r3⟩:=trodAll_cons r2
 obtain⟨rfl,rfl,rfl⟩:=trodAll_nil r3
 obtain rfl:args= #[v0,v1,v2,v3]:=by cases args;simp_all
 obtain⟨a0,w0,g0,m0⟩:=zF6 (lo:=W.heap.size) (hval 0 _ v0 rfl rfl) h0
 obtain⟨a1,w1,g1,m1⟩:=zF8 (lo:=W.heap.size) (hval 1 _ v1 rfl rfl) h1
 obtain⟨a2,w2,g2,m2⟩:=zF7 (lo:=W.heap.size) (hval 2 _ v2 rfl rfl) h2
 obtain⟨a3,w3,g3⟩:=arg_n (lo:=W.heap.size) (hval 3 _ v3 rfl rfl) h3
 have hL:=law a0 a1 a2 a3 m0 m1 m2 (mwB a0 a1 a2 a3) (fun h0 h1 h2=>JY a0 h0 a1 h1 a2 h2 a3) (fun h0 h1 h2=>JX a0 h0 a1 h1 a2 h2 a3)
 refine(zDX (cargs:= [v0,v1,v2,v3]) hL (by simp only [xX];exact⟨v0,_,rfl,w0,v1,_,rfl,w1,v2,_,rfl,w2,v3,_,rfl,w3,rfl⟩)).mono fun e W' he=> ?_
 obtain⟨rfl,hb⟩:=he
 exact⟨_,rfl,zDW lay_law (by rw [Try.params3];decide+kernel) (by kernel_rfl) Try.underlying4 rfl hW0 rfl rfl rfl hb (fun W'=>okWide_bool_mk Try.underlying4 true)⟩
theorem XL :Rows.fnExactMemoryWinsRow.holds Try.pinned (OpenSpec.ofChange Rows.fnExactMemoryWinsSpec):=
 OpenClaim.holds_of_wide 3 Try.f3 rfl rfl rfl rfl rfl rfl rfl ⟨rfl,rfl,rfl,rfl,rfl⟩ rfl rfl rfl rfl rfl (by kernel_rfl) Try.func3 (by kernel_rfl)
  (of_decide_eq_true (by kernel_rfl)) (by unfold Func.isWrapper;first|(rw [if_pos (by decide+kernel)];kernel_rfl)|(rw [if_neg (by decide+kernel)];exact⟨rfl,rfl⟩))
  (fun os started H enc _=>YS os started H enc)
theorem ExactMemoryWins_holds :Rows.FnExactMemoryWinsSaid:=XL
end Go.Proofs.Ytggpbepdeilpgaa.lawExactMemoryWins
