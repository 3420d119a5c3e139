/- The statement on ExactTrimmedMemory: both sides answer alike, for every argument. -/
import Derived.Test.YthepmdkpbjfdcaaGDztm
import Derived.Test.YthepmdkpbjfdcaaB6ztm
import Derived.Test.YthepmdkpbjfdcaaB7ztm
import Derived.Test.YthepmdkpbjfdcaaB11ztm
namespace Go.Proofs.Ythepmdkpbjfdcaa.lawExactTrimmedMemory
open Nat renaming reduceMod → zA, reduceMul → zB, reduceDiv → zC, reduceAdd → zD, reduceSub → zE, reduceEqDiff → zF, reduceBEq → zG, reduceLT → zH, reduceLeDiff → zI
open Go.ChangeShapes Go.WideShapes Go.ChangeAt Go.RowKit Go.Joins
set_option linter.unusedVariables false
set_option linter.unusedSimpArgs false
theorem own_law :ownKnob Try.prog.godebug=none:=by kernel_rfl
theorem lay_law :laidOutB Try.prog=true:=by kernel_rfl
set_option maxRecDepth 20000 in
set_option maxHeartbeats 4000000 in
theorem law (a0:Ar)(a1:Me)(a2:Int)(l0:a0.Ln 9223372036854775807)(l1:a1.Ln 9223372036854775807)(r0:Me)(q0:a0.Ln 1048576→a1.Ln 1048576→r0.Ln 1048576)
  (hS:a0.Ln 1048576→a1.Ln 1048576→Fn Try.prog tyT 27 [.agg (dAr a0), .agg (dMe a1), .c (.int .i64 a2)] [.agg (dMe r0)]) (hI:a0.Ln 1048576→a1.Ln 1048576→Fn Try.prog tyT 28 [.agg (dAr a0), .agg (dMe a1), .c (.int .i64 a2)] [.agg (dMe r0)]):Fn Try.prog tyT 5 [.agg (dAr a0), .agg (dMe a1), .c (.int .i64 a2)] [.c (.bool true)]:=by
 simp only [dAr,dMe]at hS hI⊢
 refine yT (fn:=Try.f5) (ts:= [6]) Try.func5 (by kernel_rfl) rfl rfl (by rw [Try.ntmps5];exact Nat.le_of_ble_eq_true rfl) rfl (by simp only [szA,List.mem_cons,List.not_mem_nil,or_false,forall_eq_or_imp,forall_eq,VT.cells,szL];try decide) ?_
 rw [Try.ntmps5]
 simp only [push_cast,↓zK,↓zJ,↓reduceIte,zA,zB,zC,zD,zE,zF,zG,zH,zI,reduceCtorEq]
 refine zM fun K hK=> ?_
 refine zL zO zN [] rfl ?_
 simp only [push_cast,↓zK,↓zJ,↓reduceIte,zA,zB,zC,zD,zE,zF,zG,zH,zI,reduceCtorEq]
 repeat' apply And.intro
 all_goals try exact gB
 all_goals first|(refine hK _ ?_;clear hK K)|(simp only [push_cast];done)
 refine zM fun K hK=> ?_
 refine zL zO zN [] rfl ?_
 simp only [push_cast,↓zK,↓zJ,↓reduceIte,zA,zB,zC,zD,zE,zF,zG,zH,zI,reduceCtorEq]
 repeat' apply And.intro
 all_goals try exact gB
 all_goals first|(refine hK _ ?_;clear hK K)|(simp only [push_cast];done)
 have hA0:=zC0 a0 ((1048576:Int)) (by omega) (by omega) l0
 simp only [dAr]at hA0
 refine zM fun K hK=> ?_
 refine zL zO zN [] rfl ?_
 simp only [push_cast,↓zK,↓zJ,↓reduceIte,zA,zB,zC,zD,zE,zF,zG,zH,zI,reduceCtorEq]
 refine⟨_,hA0,?_⟩
 simp only [push_cast,↓zK,↓zJ,↓reduceIte,zA,zB,zC,zD,zE,zF,zG,zH,zI,reduceCtorEq]
 repeat' apply And.intro
 all_goals try exact gB
 refine hK _ ?_
 clear hK K
 clear hA0
 refine zM fun K0 hK0=> ?_
 refine zM fun K hK=> ?_
 refine zL zO zN [] rfl ?_
 simp only [push_cast,↓zK,↓zJ,↓reduceIte,zA,zB,zC,zD,zE,zF,zG,zH,zI,reduceCtorEq]
 repeat' apply And.intro
 all_goals try exact gB
 all_goals first|(refine hK _ ?_;clear hK K)|(simp only [push_cast];done)
 by_cases hn0:(1048576:Int)<(a0.tot:Nat)
 ·rw [xz hn0]
  refine zU rfl (fun _=> ?_) (fun hc=>absurd hc (by decide))
  refine zM fun K hK=> ?_
  refine zL zO zN [] rfl ?_
  simp only [push_cast,↓zK,↓zJ,↓reduceIte,zA,zB,zC,zD,zE,zF,zG,zH,zI,reduceCtorEq]
  repeat' apply And.intro
  all_goals try exact gB
  all_goals first|(refine hK _ ?_;clear hK K)|(simp only [push_cast];done)
  refine zc ?_
  (try simp only [zS,zT])
  refine⟨Or.inl rfl,?_⟩
  simp only [zh,push_cast,↓zK,↓zJ,↓reduceIte,zA,zB,zC,zD,zE,zF,zG,zH,zI,reduceCtorEq]
 rw [vR hn0]
 refine zU rfl (fun hc=>by simp only [decide_eq_true_eq]at hc;omega) (fun _=> ?_)
 refine zV ?_
 (try simp only [zS,zT,reduceIte,zF]);refine hK0 _ ?_
 have hA0:=zC1 a1 ((1048576:Int) - (a0.tot:Nat)) (by omega) (by omega) l1
 simp only [dMe]at hA0
 refine zM fun K hK=> ?_
 refine zL zO zN [] rfl ?_
 simp only [push_cast,↓zK,↓zJ,↓reduceIte,zA,zB,zC,zD,zE,zF,zG,zH,zI,reduceCtorEq]
 refine⟨_,hA0,?_⟩
 simp only [push_cast,↓zK,↓zJ,↓reduceIte,zA,zB,zC,zD,zE,zF,zG,zH,zI,reduceCtorEq]
 repeat' apply And.intro
 all_goals try exact gB
 refine hK _ ?_
 clear hK K
 clear hA0
 refine zM fun K1 hK1=> ?_
 refine zM fun K hK=> ?_
 refine zL zO zN [] rfl ?_
 simp only [push_cast,↓zK,↓zJ,↓reduceIte,zA,zB,zC,zD,zE,zF,zG,zH,zI,reduceCtorEq]
 repeat' apply And.intro
 all_goals try exact gB
 all_goals first|(refine hK _ ?_;clear hK K)|(simp only [push_cast];done)
 by_cases hn1:(1048576:Int) - (a0.tot:Nat)<(a1.tot:Nat)
 ·rw [xz hn1]
  refine zU rfl (fun _=> ?_) (fun hc=>absurd hc (by decide))
  refine zM fun K hK=> ?_
  refine zL zO zN [] rfl ?_
  simp only [push_cast,↓zK,↓zJ,↓reduceIte,zA,zB,zC,zD,zE,zF,zG,zH,zI,reduceCtorEq]
  repeat' apply And.intro
  all_goals try exact gB
  all_goals first|(refine hK _ ?_;clear hK K)|(simp only [push_cast];done)
  refine zc ?_
  (try simp only [zS,zT])
  refine⟨Or.inl rfl,?_⟩
  simp only [zh,push_cast,↓zK,↓zJ,↓reduceIte,zA,zB,zC,zD,zE,zF,zG,zH,zI,reduceCtorEq]
 rw [vR hn1]
 refine zU rfl (fun hc=>by simp only [decide_eq_true_eq]at hc;omega) (fun _=> ?_)
 refine zV ?_
 (try simp only [zS,zT,reduceIte,zF]);refine hK1 _ ?_
 have L0:a0.Ln 1048576:=Ar.ln_of (by omega)
 have L1:a1.Ln 1048576:=Me.ln_of (by omega)
 have Q0:=q0 L0 L1
 have C0':=Ar.cnt_le L0
 have C0:=C0'
 unfold Ar.cnt at C0
 have C1':=Me.cnt_le L1
 have C1:=C1'
 unfold Me.cnt at C1
 have D0':=Me.cnt_le Q0
 have D0:=D0'
 unfold Me.cnt at D0
 replace hS:=hS L0 L1
 replace hI:=hI L0 L1
 have hA0:=QY a0 L0
 simp only [dAr]at hA0
 have hA1:=QZ a1 L1
 simp only [dMe]at hA1
 refine zM fun K hK=> ?_
 refine xO false zO zN xM ?_ rfl ?_
 ·kernel_rfl
 intro C hC
 simp only [push_cast,↓zK,↓zJ,↓reduceIte,zA,zB,zC,zD,zE,zF,zG,zH,zI,reduceCtorEq]
 refine⟨_,hA0,?_⟩
 simp only [push_cast,↓zK,↓zJ,↓reduceIte,zA,zB,zC,zD,zE,zF,zG,zH,zI,reduceCtorEq]
 refine⟨_,hA1,?_⟩
 simp only [push_cast,↓zK,↓zJ,↓reduceIte,zA,zB,zC,zD,zE,zF,zG,zH,zI,reduceCtorEq]
 refine⟨_,hS,?_⟩
 simp only [push_cast,↓zK,↓zJ,↓reduceIte,zA,zB,zC,zD,zE,zF,zG,zH,zI,reduceCtorEq]
 repeat' apply And.intro
 all_goals first|omega|with_reducible assumption|(refine hC _ ?_;kernel_rfl)|(simp only [List.length_set,List.length_append,List.length_replicate,List.length_cons,List.length_nil];omega)|skip
 refine hK _ ?_
 clear hK K
 clear hA0 hA1
 have hA0:=QY a0 L0
 simp only [dAr]at hA0
 refine zM fun K hK=> ?_
 refine zL zO zN [] rfl ?_
 simp only [push_cast,↓zK,↓zJ,↓reduceIte,zA,zB,zC,zD,zE,zF,zG,zH,zI,reduceCtorEq]
 refine⟨_,hA0,?_⟩
 simp only [push_cast,↓zK,↓zJ,↓reduceIte,zA,zB,zC,zD,zE,zF,zG,zH,zI,reduceCtorEq]
 repeat' apply And.intro
 all_goals try exact gB
 refine hK _ ?_
 clear hK K
 clear hA0
 have hA0:=QZ a1 L1
 simp only [dMe]at hA0
 refine zM fun K hK=> ?_
 refine zL zO zN [] rfl ?_
 simp only [push_cast,↓zK,↓zJ,↓reduceIte,zA,zB,zC,zD,zE,zF,zG,zH,zI,reduceCtorEq]
 refine⟨_,hA0,?_⟩
 simp only [push_cast,↓zK,↓zJ,↓reduceIte,zA,zB,zC,zD,zE,zF,zG,zH,zI,reduceCtorEq]
 repeat' apply And.intro
 all_goals try exact gB
 refine hK _ ?_
 clear hK K
 clear hA0
 refine zM fun K hK=> ?_
 refine zL zO zN [] rfl ?_
 simp only [push_cast,↓zK,↓zJ,↓reduceIte,zA,zB,zC,zD,zE,zF,zG,zH,zI,reduceCtorEq]
 refine⟨_,hI,?_⟩
 simp only [push_cast,↓zK,↓zJ,↓reduceIte,zA,zB,zC,zD,zE,zF,zG,zH,zI,reduceCtorEq]
 repeat' apply And.intro
 all_goals try exact gB
 refine hK _ ?_
 clear hK K
 refine zM fun K2 hK2=> ?_
 have hA0:=QL r0 Q0
 simp only [dMe]at hA0
 refine zM fun K hK=> ?_
 refine zL zO zN [] rfl ?_
 simp only [push_cast,↓zK,↓zJ,↓reduceIte,zA,zB,zC,zD,zE,zF,zG,zH,zI,reduceCtorEq]
 refine⟨_,hA0,?_⟩
 simp only [push_cast,↓zK,↓zJ,↓reduceIte,zA,zB,zC,zD,zE,zF,zG,zH,zI,reduceCtorEq]
 repeat' apply And.intro
 all_goals try exact gB
 refine hK _ ?_
 clear hK K
 clear hA0
 refine zU rfl (fun hc=>by first|(cases hc;done)|(simp at hc;done)|(simp only [decide_eq_true_eq]at hc;omega)) (fun _=> ?_)
 refine zV ?_
 (try simp only [zS,zT,reduceIte,zF]);refine hK2 _ ?_
 refine zM fun K3 hK3=> ?_
 have hA0:=QY a0 L0
 simp only [dAr]at hA0
 have hA1:=zCP a0 L0
 simp only [dAr]at hA1
 refine zM fun K hK=> ?_
 refine xO false zO zN xM ?_ rfl ?_
 ·kernel_rfl
 intro C hC
 simp only [push_cast,↓zK,↓zJ,↓reduceIte,zA,zB,zC,zD,zE,zF,zG,zH,zI,reduceCtorEq]
 refine⟨_,hA0,?_⟩
 simp only [push_cast,↓zK,↓zJ,↓reduceIte,zA,zB,zC,zD,zE,zF,zG,zH,zI,reduceCtorEq]
 refine⟨_,hA1,?_⟩
 simp only [push_cast,↓zK,↓zJ,↓reduceIte,zA,zB,zC,zD,zE,zF,zG,zH,zI,reduceCtorEq]
 repeat' apply And.intro
 all_goals first|omega|with_reducible assumption|(refine hC _ ?_;kernel_rfl)|(simp only [List.length_set,List.length_append,List.length_replicate,List.length_cons,List.length_nil];omega)|skip
 refine hK _ ?_
 clear hK K
 clear hA0 hA1
 refine zU rfl (fun hc=>by first|(cases hc;done)|(simp at hc;done)|(simp only [decide_eq_true_eq]at hc;omega)) (fun _=> ?_)
 refine zV ?_
 (try simp only [zS,zT,reduceIte,zF]);refine hK3 _ ?_
 refine zM fun K4 hK4=> ?_
 have hA0:=QZ a1 L1
 simp only [dMe]at hA0
 have hA1:=QL a1 L1
 simp only [dMe]at hA1
 refine zM fun K hK=> ?_
 refine xO false zO zN xM ?_ rfl ?_
 ·kernel_rfl
 intro C hC
 simp only [push_cast,↓zK,↓zJ,↓reduceIte,zA,zB,zC,zD,zE,zF,zG,zH,zI,reduceCtorEq]
 refine⟨_,hA0,?_⟩
 simp only [push_cast,↓zK,↓zJ,↓reduceIte,zA,zB,zC,zD,zE,zF,zG,zH,zI,reduceCtorEq]
 refine⟨_,hA1,?_⟩
 simp only [push_cast,↓zK,↓zJ,↓reduceIte,zA,zB,zC,zD,zE,zF,zG,zH,zI,reduceCtorEq]
 repeat' apply And.intro
 all_goals first|omega|with_reducible assumption|(refine hC _ ?_;kernel_rfl)|(simp only [List.length_set,List.length_append,List.length_replicate,List.length_cons,List.length_nil];omega)|skip
 refine hK _ ?_
 clear hK K
 clear hA0 hA1
 refine zU rfl (fun hc=>by first|(cases hc;done)|(simp at hc;done)|(simp only [decide_eq_true_eq]at hc;omega)) (fun _=> ?_)
 refine zV ?_
 (try simp only [zS,zT,reduceIte,zF]);refine hK4 _ ?_
 refine zM fun K hK=> ?_
 refine zL zO zN [] rfl ?_
 simp only [push_cast,↓zK,↓zJ,↓reduceIte,zA,zB,zC,zD,zE,zF,zG,zH,zI,reduceCtorEq]
 repeat' apply And.intro
 all_goals try exact gB
 all_goals first|(refine hK _ ?_;clear hK K)|(simp only [push_cast];done)
 have hA0:=zAK a0 (1) (by omega) (by omega) (Ar.ln_mono (by decide) L0)
 simp only [dAr,mkAr,Ar.cnt]at hA0
 refine zM fun K hK=> ?_
 refine xm 56 [0,1] [(0,2,dI (iot (1) a0.owner.length)),(1,22,dII (mkR (1+(a0.owner.length:Nat)) a0.next))] zO zN [] rfl ?_
 simp only [push_cast,↓zK,↓zJ,↓reduceIte,zA,zB,zC,zD,zE,zF,zG,zH,zI,reduceCtorEq]
 refine⟨_,hA0,?_⟩
 simp only [push_cast,↓zK,↓zJ,↓reduceIte,zA,zB,zC,zD,zE,zF,zG,zH,zI,reduceCtorEq]
 refine hK _ ?_
 clear hK K
 clear hA0
 have hA0:=Jo a1 (1+((a0.owner.length:Nat)+(zx a0.next:Nat):Nat)) (by omega) (by omega) (Me.ln_mono (by decide) L1)
 simp only [dMe,Wx,Me.cnt]at hA0
 refine zM fun K hK=> ?_
 refine xm 59 [0,1] [(0,22,dII (mkR (1+((a0.owner.length:Nat)+(zx a0.next:Nat):Nat)) a1.next)),(1,22,dII (mkR (1+((a0.owner.length:Nat)+(zx a0.next:Nat):Nat)+(zx a1.next:Nat)) a1.choice))] zO zN [] rfl ?_
 simp only [push_cast,↓zK,↓zJ,↓reduceIte,zA,zB,zC,zD,zE,zF,zG,zH,zI,reduceCtorEq]
 refine⟨_,hA0,?_⟩
 simp only [push_cast,↓zK,↓zJ,↓reduceIte,zA,zB,zC,zD,zE,zF,zG,zH,zI,reduceCtorEq]
 refine hK _ ?_
 clear hK K
 clear hA0
 refine zM fun K5 hK5=> ?_
 have hA0:=QL r0 Q0
 simp only [dMe]at hA0
 refine zM fun K hK=> ?_
 refine zp false zO zN ?_ rfl ?_
 ·kernel_rfl
 simp only [push_cast,↓zK,↓zJ,↓reduceIte,zA,zB,zC,zD,zE,zF,zG,zH,zI,reduceCtorEq]
 first|(refine zP (fun hg=>by(try simp only [decide_eq_true_eq]at hg);omega) (fun hg=> ?_))|skip
 refine⟨_,hA0,?_⟩
 simp only [push_cast,↓zK,↓zJ,↓reduceIte,zA,zB,zC,zD,zE,zF,zG,zH,zI,reduceCtorEq]
 repeat' apply And.intro
 all_goals try exact gB
 refine hK _ ?_
 clear hK K
 clear hA0
 refine zU rfl (fun hc=>by first|(cases hc;done)|(simp at hc;done)|(simp only [decide_eq_true_eq]at hc;omega)) (fun _=> ?_)
 refine zV ?_
 (try simp only [zS,zT,reduceIte,zF]);refine hK5 _ ?_
 refine zM fun K hK=> ?_
 refine zL zO zN [] rfl ?_
 simp only [push_cast,↓zK,↓zJ,↓reduceIte,zA,zB,zC,zD,zE,zF,zG,zH,zI,reduceCtorEq]
 repeat' apply And.intro
 all_goals try exact gB
 all_goals first|(refine hK _ ?_;clear hK K)|(simp only [push_cast];done)
 have hA0:=Jo r0 (1) (by omega) (by omega) (Me.ln_mono (by decide) Q0)
 simp only [dMe,Wx,Me.cnt]at hA0
 refine zM fun K hK=> ?_
 refine xm 70 [0,1] [(0,22,dII (mkR (1) r0.next)),(1,22,dII (mkR (1+(zx r0.next:Nat)) r0.choice))] zO zN [] rfl ?_
 simp only [push_cast,↓zK,↓zJ,↓reduceIte,zA,zB,zC,zD,zE,zF,zG,zH,zI,reduceCtorEq]
 refine⟨_,hA0,?_⟩
 simp only [push_cast,↓zK,↓zJ,↓reduceIte,zA,zB,zC,zD,zE,zF,zG,zH,zI,reduceCtorEq]
 refine hK _ ?_
 clear hK K
 clear hA0
 refine zM fun K hK=> ?_
 refine zL zO zN [] rfl ?_
 simp only [push_cast,↓zK,↓zJ,↓reduceIte,zA,zB,zC,zD,zE,zF,zG,zH,zI,reduceCtorEq]
 repeat' apply And.intro
 all_goals try exact gB
 all_goals first|(refine hK _ ?_;clear hK K)|(simp only [push_cast];done)
 have hA0:=Jg r0 (1) (by omega) (by omega) (Me.ln_mono (by decide) Q0)
 simp only [dMe,Wx,Me.cnt]at hA0
 refine zM fun K hK=> ?_
 refine zL zO zN [] rfl ?_
 simp only [push_cast,↓zK,↓zJ,↓reduceIte,zA,zB,zC,zD,zE,zF,zG,zH,zI,reduceCtorEq]
 refine⟨_,hA0,?_⟩
 simp only [push_cast,↓zK,↓zJ,↓reduceIte,zA,zB,zC,zD,zE,zF,zG,zH,zI,reduceCtorEq]
 repeat' apply And.intro
 all_goals try exact gB
 refine hK _ ?_
 clear hK K
 clear hA0
 refine zM fun K6 hK6=> ?_
 refine zM fun K hK=> ?_
 refine zL zO zN [] rfl ?_
 simp only [push_cast,↓zK,↓zJ,↓reduceIte,zA,zB,zC,zD,zE,zF,zG,zH,zI,reduceCtorEq]
 repeat' apply And.intro
 all_goals try exact gB
 all_goals first|(refine hK _ ?_;clear hK K)|(simp only [push_cast];done)
 refine zU rfl (fun hc=>by first|(cases hc;done)|(simp at hc;done)|(simp only [decide_eq_true_eq]at hc;omega)) (fun _=> ?_)
 refine zV ?_
 (try simp only [zS,zT,reduceIte,zF]);refine hK6 _ ?_
 refine zM fun K7 hK7=> ?_
 refine zM fun K hK=> ?_
 refine zL zO zN [] rfl ?_
 simp only [push_cast,↓zK,↓zJ,↓reduceIte,zA,zB,zC,zD,zE,zF,zG,zH,zI,reduceCtorEq]
 repeat' apply And.intro
 all_goals try exact gB
 all_goals first|(refine hK _ ?_;clear hK K)|(simp only [push_cast];done)
 refine zU rfl (fun hc=>by first|(cases hc;done)|(simp at hc;done)|(simp only [decide_eq_true_eq]at hc;omega)) (fun _=> ?_)
 refine zV ?_
 (try simp only [zS,zT,reduceIte,zF]);refine hK7 _ ?_
 have hA0:=QY a0 L0
 simp only [dAr]at hA0
 have hA1:=QZ a1 L1
 simp only [dMe]at hA1
 refine zM fun K hK=> ?_
 refine xO false zO zN xM ?_ rfl ?_
 ·kernel_rfl
 intro C hC
 simp only [push_cast,↓zK,↓zJ,↓reduceIte,zA,zB,zC,zD,zE,zF,zG,zH,zI,reduceCtorEq]
 refine⟨_,hA0,?_⟩
 simp only [push_cast,↓zK,↓zJ,↓reduceIte,zA,zB,zC,zD,zE,zF,zG,zH,zI,reduceCtorEq]
 refine⟨_,hA1,?_⟩
 simp only [push_cast,↓zK,↓zJ,↓reduceIte,zA,zB,zC,zD,zE,zF,zG,zH,zI,reduceCtorEq]
 refine⟨_,hI,?_⟩
 simp only [push_cast,↓zK,↓zJ,↓reduceIte,zA,zB,zC,zD,zE,zF,zG,zH,zI,reduceCtorEq]
 repeat' apply And.intro
 all_goals first|omega|with_reducible assumption|(refine hC _ ?_;kernel_rfl)|(simp only [List.length_set,List.length_append,List.length_replicate,List.length_cons,List.length_nil];omega)|skip
 refine hK _ ?_
 clear hK K
 clear hA0 hA1
 refine zM fun K8 hK8=> ?_
 have hA0:=QL r0 Q0
 simp only [dMe]at hA0
 refine zM fun K hK=> ?_
 refine zL zO zN [] rfl ?_
 simp only [push_cast,↓zK,↓zJ,↓reduceIte,zA,zB,zC,zD,zE,zF,zG,zH,zI,reduceCtorEq]
 refine⟨_,hA0,?_⟩
 simp only [push_cast,↓zK,↓zJ,↓reduceIte,zA,zB,zC,zD,zE,zF,zG,zH,zI,reduceCtorEq]
 repeat' apply And.intro
 all_goals try exact gB
 refine hK _ ?_
 clear hK K
 clear hA0
 refine zU rfl (fun hc=>by first|(cases hc;done)|(simp at hc;done)|(simp only [decide_eq_true_eq]at hc;omega)) (fun _=> ?_)
 refine zV ?_
 (try simp only [zS,zT,reduceIte,zF]);refine hK8 _ ?_
 refine zM fun K hK=> ?_
 refine zL zO zN [] rfl ?_
 simp only [push_cast,↓zK,↓zJ,↓reduceIte,zA,zB,zC,zD,zE,zF,zG,zH,zI,reduceCtorEq]
 repeat' apply And.intro
 all_goals try exact gB
 all_goals first|(refine hK _ ?_;clear hK K)|(simp only [push_cast];done)
 have hA0:=Jg r0 (1) (by omega) (by omega) (Me.ln_mono (by decide) Q0)
 simp only [dMe,Wx,Me.cnt]at hA0
 refine zM fun K hK=> ?_
 refine zL zO zN [] rfl ?_
 simp only [push_cast,↓zK,↓zJ,↓reduceIte,zA,zB,zC,zD,zE,zF,zG,zH,zI,reduceCtorEq]
 refine⟨_,hA0,?_⟩
 simp only [push_cast,↓zK,↓zJ,↓reduceIte,zA,zB,zC,zD,zE,zF,zG,zH,zI,reduceCtorEq]
 repeat' apply And.intro
 all_goals try exact gB
 refine hK _ ?_
 clear hK K
 clear hA0
 refine zM fun K9 hK9=> ?_
 refine zM fun K hK=> ?_
 refine zL zO zN [] rfl ?_
 simp only [push_cast,↓zK,↓zJ,↓reduceIte,zA,zB,zC,zD,zE,zF,zG,zH,zI,reduceCtorEq]
 repeat' apply And.intro
 all_goals try exact gB
 all_goals first|(refine hK _ ?_;clear hK K)|(simp only [push_cast];done)
 refine zU rfl (fun hc=>by first|(cases hc;done)|(simp at hc;done)|(simp only [decide_eq_true_eq]at hc;omega)) (fun _=> ?_)
 refine zV ?_
 (try simp only [zS,zT,reduceIte,zF]);refine hK9 _ ?_
 refine zM fun K10 hK10=> ?_
 refine zM fun K hK=> ?_
 refine zL zO zN [] rfl ?_
 simp only [push_cast,↓zK,↓zJ,↓reduceIte,zA,zB,zC,zD,zE,zF,zG,zH,zI,reduceCtorEq]
 repeat' apply And.intro
 all_goals try exact gB
 all_goals first|(refine hK _ ?_;clear hK K)|(simp only [push_cast];done)
 refine zU rfl (fun hc=>by first|(cases hc;done)|(simp at hc;done)|(simp only [decide_eq_true_eq]at hc;omega)) (fun _=> ?_)
 refine zV ?_
 (try simp only [zS,zT,reduceIte,zF]);refine hK10 _ ?_
 refine zM fun K hK=> ?_
 refine zL zO zN [] rfl ?_
 simp only [push_cast,↓zK,↓zJ,↓reduceIte,zA,zB,zC,zD,zE,zF,zG,zH,zI,reduceCtorEq]
 repeat' apply And.intro
 all_goals try exact gB
 all_goals first|(refine hK _ ?_;clear hK K)|(simp only [push_cast];done)
 refine zc ?_
 (try simp only [zS,zT])
 refine⟨Or.inl rfl,?_⟩
 simp only [zh,push_cast,↓zK,↓zJ,↓reduceIte,zA,zB,zC,zD,zE,zF,zG,zH,zI,reduceCtorEq]
set_option maxRecDepth 100000 in
theorem wq (os:Os)(started:os.Started)(H:Type)(enc:TypeId×Value→H):
  ReturnsInHanded {} Try.checked os 5 .any (Rows.fnExactTrimmedMemorySpec.pre6 enc Try.prog Try.f5 Rows.fnExactTrimmedMemoryRow.domain false) (Rows.fnExactTrimmedMemorySpec.post enc Try.prog Try.f5 false true false false):=by
 refine returnsInHanded_of_change (C:=Try.checked) own_law started (by kernel_rfl) Try.func5
  (ChangeSpec.witness6 (enc:=enc) (C:=Try.checked) false ⟨#[],#[.agg #[.slice none 0 0, .slice none 0 0], .agg #[.slice none 0 0, .slice none 0 0], .int .i64 0],[]⟩ 8 (by kernel_rfl) (by kernel_rfl) (by kernel_rfl) (by kernel_rfl)) ?_
 intro W base args ds gs before hval0 hW hcnd _
 have hval: ∀(j:Nat) t v,Try.f5.params[j]? =some t→args[j]? =some v→Value.okWide Try.prog W .any base t v:=hval0
 have hW0:=hW
 obtain⟨p,q,hA0,hV,rfl,hfz,hnd⟩:=hW
 have hA:DataW.TrodAll enc Try.prog W 0 (fun _=>true) true Try.f5.params.toList args.toList ds p:=hA0
 obtain⟨rfl,rfl⟩:=trodVars_none hV
 have hlt: ∀x∈p,x.block<W.heap.size:=fun x hx=>hW0.lt x (by simp [hx])
 rw [Try.params5]at hA hval
 clear hA0 hval0 hV
 obtain⟨v0,vs0,d0,ds0,p0,q0,hargs,rfl,rfl,h0,r0⟩:=trodAll_cons hA
 obtain⟨v1,vs1,d1,ds1,p1,q1,rfl,rfl,rfl,h1,r1⟩:=trodAll_cons r0
 obtain⟨v2,vs2,d2,ds2,p2,q2,rfl,rfl,rfl,h2,r2⟩:=trodAll_cons r1
 obtain⟨rfl,rfl,rfl⟩:=trodAll_nil r2
 obtain rfl:args= #[v0,v1,v2]:=by cases args;simp_all
 obtain⟨a0,w0,g0,m0⟩:=zDH (lo:=W.heap.size) (hval 0 _ v0 rfl rfl) h0
 obtain⟨a1,w1,g1,m1⟩:=zDI (lo:=W.heap.size) (hval 1 _ v1 rfl rfl) h1
 obtain⟨a2,w2,g2⟩:=arg_n (lo:=W.heap.size) (hval 2 _ v2 rfl rfl) h2
 have hL:=law a0 a1 a2 m0 m1 (tmR a0 a1 a2) (fun _ _=>zC4) (fun h0 h1=>Qe a0 h0 a1 h1 a2) (fun h0 h1=>Qd a0 h0 a1 h1 a2)
 refine(zBI (cargs:= [v0,v1,v2]) hL (by simp only [xZ];exact⟨v0,_,rfl,w0,v1,_,rfl,w1,v2,_,rfl,w2,rfl⟩)).mono fun e W' he=> ?_
 obtain⟨rfl,hb⟩:=he
 exact⟨_,rfl,zBH lay_law (by rw [Try.params5];decide+kernel) (by kernel_rfl) Try.underlying4 rfl hW0 rfl rfl rfl hb (fun W'=>okWide_bool_mk Try.underlying4 true)⟩
theorem Za :Rows.fnExactTrimmedMemoryRow.holds Try.pinned (OpenSpec.ofChange Rows.fnExactTrimmedMemorySpec):=
 OpenClaim.holds_of_wide 5 Try.f5 rfl rfl rfl rfl rfl rfl rfl ⟨rfl,rfl,rfl,rfl,rfl⟩ rfl rfl rfl rfl rfl (by kernel_rfl) Try.func5 (by kernel_rfl)
  (of_decide_eq_true (by kernel_rfl)) (by unfold Func.isWrapper;first|(rw [if_pos (by decide+kernel)];kernel_rfl)|(rw [if_neg (by decide+kernel)];exact⟨rfl,rfl⟩))
  (fun os started H enc _=>wq os started H enc)
theorem ExactTrimmedMemory_holds :Rows.FnExactTrimmedMemorySaid:=Za
end Go.Proofs.Ythepmdkpbjfdcaa.lawExactTrimmedMemory
