/- The statement on ExactMemoryOf: both sides answer alike, for every argument. -/
import Derived.Test.YtcleaokoimhedaaGreatGDzmo
import Derived.Test.YtcleaokoimhedaaGreatB6zmo
import Derived.Test.YtcleaokoimhedaaGreatB7zmo
import Derived.Test.YtcleaokoimhedaaGreatB26zmo
import Derived.Test.YtcleaokoimhedaaGreatB25zmo
namespace Go.Proofs.YtcleaokoimhedaaGreat.lawExactMemoryOf
open Nat renaming reduceMod → zA, reduceMul → zB, reduceDiv → zC, reduceAdd → zD, reduceSub → zE, reduceEqDiff → zF, reduceBEq → zG, reduceLT → zH, reduceLeDiff → zI
open Go.ChangeShapes Go.WideShapes Go.ChangeAt Go.RowKit Go.Joins
set_option linter.unusedVariables false
set_option linter.unusedSimpArgs false
attribute [-push_cast] zDX
theorem own_law :ownKnob Tryz.prog.godebug=none:=by kernel_rfl
theorem lay_law :laidOutB Tryz.prog=true:=by kernel_rfl
set_option maxRecDepth 20000 in
set_option maxHeartbeats 4000000 in
theorem law (a0:Ar)(a1:List Pr)(a2:Int)(l0:a0.Ln 9223372036854775807)(l1:PLn 9223372036854775807 a1)(r0:Me)(r1:Bool)(q0:a0.Ln 1048576→PLn 1048576 a1→r0.Ln 1048576)
  (hS:a0.Ln 1048576→PLn 1048576 a1→Fn Tryz.prog tyT 6 [.agg (dAr a0), .c (.lst 64 (dII (ilv a1))), .c (.int .i64 a2)] [.agg (dMe r0), .c (.bool r1)]) (hI:a0.Ln 1048576→PLn 1048576 a1→Fn Tryz.prog tyT 9 [.agg (dAr a0), .c (.lst 64 (dII (ilv a1))), .c (.int .i64 a2)] [.agg (dMe r0), .c (.bool r1)]):Fn Tryz.prog tyT 3 [.agg (dAr a0), .c (.lst 48 (dII (ilv a1))), .c (.int .i64 a2)] [.c (.bool true)]:=by
 simp only [dAr,dMe]at hS hI⊢
 refine θH (ts:= [6]) Tryz.func3 Tryz.ntmps3 ?_
 push_cast [↓zK,↓zJ]
 refine θA ?_
 refine θA ?_
 have hA0:=zMF a0 ((1048576:Int)) (by omega) (by omega) l0
 simp only [dAr]at hA0
 refine zL fun K hK=> ?_
 refine zM zO zN [] rfl ?_
 push_cast [↓zK,↓zJ]
 refine⟨_,hA0,?_⟩
 push_cast [↓zK,↓zJ]
 repeat' apply And.intro
 all_goals try exact gB
 refine hK _ ?_
 clear hK K
 clear hA0
 refine zL fun K0 hK0=> ?_
 refine θA ?_
 by_cases hn0:(1048576:Int)<(a0.tot:Nat)
 ·rw [qg hn0]
  refine zT rfl (fun _=> ?_) (fun hc=>absurd hc (by decide))
  refine θA ?_
  refine zZ ⟨Or.inl rfl,?_⟩
  push_cast [zd,↓zK,↓zJ]
 rw [ve hn0]
 refine zT rfl (fun hc=>by simp only [decide_eq_true_eq]at hc;omega) (fun _=> ?_)
 refine zU (hK0 _ ?_)
 have hA0:=zMH a1 ((1048576:Int) - (a0.tot:Nat)) (by omega) (by omega) l1
 refine zL fun K hK=> ?_
 refine zM zO zN [] rfl ?_
 push_cast [↓zK,↓zJ]
 refine⟨_,hA0,?_⟩
 push_cast [↓zK,↓zJ]
 repeat' apply And.intro
 all_goals try exact gB
 refine hK _ ?_
 clear hK K
 clear hA0
 refine zL fun K1 hK1=> ?_
 refine θA ?_
 by_cases hn1:(1048576:Int) - (a0.tot:Nat)<(Jk a1:Nat)
 ·rw [qg hn1]
  refine zT rfl (fun _=> ?_) (fun hc=>absurd hc (by decide))
  refine θA ?_
  refine zZ ⟨Or.inl rfl,?_⟩
  push_cast [zd,↓zK,↓zJ]
 rw [ve hn1]
 refine zT rfl (fun hc=>by simp only [decide_eq_true_eq]at hc;omega) (fun _=> ?_)
 refine zU (hK1 _ ?_)
 have L0:a0.Ln 1048576:=Ar.ln_of (by omega)
 have L1:PLn 1048576 a1:=zMe (by omega)
 have Q0:=q0 L0 L1
 have C0':=Ar.cnt_le L0
 have C0:=C0'
 unfold Ar.cnt at C0
 have C1:=zM8 L1
 have D0':=Me.cnt_le Q0
 have D0:=D0'
 unfold Me.cnt at D0
 replace hS:=hS L0 L1
 replace hI:=hI L0 L1
 have hA0:=jm a0 L0
 simp only [dAr]at hA0
 have hA1:=jn a1 L1
 refine zL fun K hK=> ?_
 refine zM zO zN [] rfl ?_
 push_cast [↓zK,↓zJ]
 refine⟨_,hA0,?_⟩
 push_cast [↓zK,↓zJ]
 refine⟨_,hA1,?_⟩
 push_cast [↓zK,↓zJ]
 refine⟨_,hS,?_⟩
 push_cast [↓zK,↓zJ]
 repeat' apply And.intro
 all_goals try exact gB
 refine hK _ ?_
 clear hK K
 clear hA0 hA1
 have hA0:=jm a0 L0
 simp only [dAr]at hA0
 refine zL fun K hK=> ?_
 refine zM zO zN [] rfl ?_
 push_cast [↓zK,↓zJ]
 refine⟨_,hA0,?_⟩
 push_cast [↓zK,↓zJ]
 repeat' apply And.intro
 all_goals try exact gB
 refine hK _ ?_
 clear hK K
 clear hA0
 have hA0:=jn a1 L1
 refine zL fun K hK=> ?_
 refine zM zO zN [] rfl ?_
 push_cast [↓zK,↓zJ]
 refine⟨_,hA0,?_⟩
 push_cast [↓zK,↓zJ]
 repeat' apply And.intro
 all_goals try exact gB
 refine hK _ ?_
 clear hK K
 clear hA0
 refine zL fun K hK=> ?_
 refine zM zO zN [] rfl ?_
 push_cast [↓zK,↓zJ]
 refine⟨_,hI,?_⟩
 push_cast [↓zK,↓zJ]
 repeat' apply And.intro
 all_goals try exact gB
 refine hK _ ?_
 clear hK K
 refine zL fun K2 hK2=> ?_
 have hA0:=zAD r0 Q0
 simp only [dMe]at hA0
 refine zL fun K hK=> ?_
 refine zf false zO zN ?_ rfl ?_
 ·kernel_rfl
 push_cast [↓zK,↓zJ]
 first|(refine zP (fun hg=>by(try simp only [decide_eq_true_eq]at hg);omega) (fun hg=> ?_))|skip
 refine⟨_,hA0,?_⟩
 push_cast [↓zK,↓zJ]
 repeat' apply And.intro
 all_goals try exact gB
 refine hK _ ?_
 clear hK K
 clear hA0
 refine zT rfl (fun hc=>by first|(cases hc;done)|(simp at hc;done)|(simp only [decide_eq_true_eq]at hc;omega)) (fun _=> ?_)
 refine zU (hK2 _ ?_)
 refine zL fun K3 hK3=> ?_
 have hA0:=jm a0 L0
 simp only [dAr]at hA0
 have hA1:=zLI a0 L0
 simp only [dAr]at hA1
 refine zL fun K hK=> ?_
 refine xY false zO zN ya ?_ rfl ?_
 ·kernel_rfl
 intro C hC
 push_cast [↓zK,↓zJ]
 refine⟨_,hA0,?_⟩
 push_cast [↓zK,↓zJ]
 refine⟨_,hA1,?_⟩
 push_cast [↓zK,↓zJ]
 repeat' apply And.intro
 all_goals first|omega|with_reducible assumption|(refine hC _ ?_;kernel_rfl)|(simp only [List.length_set,List.length_append,List.length_replicate,List.length_cons,List.length_nil];omega)|skip
 refine hK _ ?_
 clear hK K
 clear hA0 hA1
 refine zT rfl (fun hc=>by first|(cases hc;done)|(simp at hc;done)|(simp only [decide_eq_true_eq]at hc;omega)) (fun _=> ?_)
 refine zU (hK3 _ ?_)
 refine zL fun K4 hK4=> ?_
 have hA0:=jn a1 L1
 have hA1:=zLJ a1 L1
 refine zL fun K hK=> ?_
 refine zM zO zN [] rfl ?_
 push_cast [↓zK,↓zJ]
 refine⟨_,hA0,?_⟩
 push_cast [↓zK,↓zJ]
 refine⟨_,hA1,?_⟩
 push_cast [↓zK,↓zJ]
 repeat' apply And.intro
 all_goals try exact gB
 refine hK _ ?_
 clear hK K
 clear hA0 hA1
 refine zT rfl (fun hc=>by first|(cases hc;done)|(simp at hc;done)|(simp only [decide_eq_true_eq]at hc;omega)) (fun _=> ?_)
 refine zU (hK4 _ ?_)
 refine θA ?_
 have hA0:=zHr a0 (1) (by omega) (by omega) (Ar.ln_mono (by decide) L0)
 simp only [dAr,mkAr,Ar.cnt]at hA0
 refine zL fun K hK=> ?_
 refine qD 70 [0,1] [(0,2,dI (iot (1) a0.owner.length)),(1,22,dII (mkR (1+(a0.owner.length:Nat)) a0.next))] zO zN [] rfl ?_
 push_cast [↓zK,↓zJ]
 refine⟨_,hA0,?_⟩
 push_cast [↓zK,↓zJ]
 refine hK _ ?_
 clear hK K
 clear hA0
 have hA0:=zHu a1 (1+((a0.owner.length:Nat)+(yF a0.next:Nat):Nat)) (by omega) (by omega) (by omega)
 refine zL fun K hK=> ?_
 refine qD 73 [0] [(0,64,dII (mkR (1+((a0.owner.length:Nat)+(yF a0.next:Nat):Nat)) (ilv a1)))] zO zN [] rfl ?_
 push_cast [↓zK,↓zJ]
 refine⟨_,hA0,?_⟩
 push_cast [↓zK,↓zJ]
 refine hK _ ?_
 clear hK K
 clear hA0
 refine zL fun K5 hK5=> ?_
 have hA0:=zAD r0 Q0
 simp only [dMe]at hA0
 refine zL fun K hK=> ?_
 refine zf false zO zN ?_ rfl ?_
 ·kernel_rfl
 push_cast [↓zK,↓zJ]
 first|(refine zP (fun hg=>by(try simp only [decide_eq_true_eq]at hg);omega) (fun hg=> ?_))|skip
 refine⟨_,hA0,?_⟩
 push_cast [↓zK,↓zJ]
 repeat' apply And.intro
 all_goals try exact gB
 refine hK _ ?_
 clear hK K
 clear hA0
 refine zT rfl (fun hc=>by first|(cases hc;done)|(simp at hc;done)|(simp only [decide_eq_true_eq]at hc;omega)) (fun _=> ?_)
 refine zU (hK5 _ ?_)
 refine θA ?_
 have hA0:=zHs r0 (1) (by omega) (by omega) (Me.ln_mono (by decide) Q0)
 simp only [dMe,zDS,Me.cnt]at hA0
 refine zL fun K hK=> ?_
 refine qD 89 [0,1] [(0,22,dII (mkR (1) r0.next)),(1,22,dII (mkR (1+(yF r0.next:Nat)) r0.choice))] zO zN [] rfl ?_
 push_cast [↓zK,↓zJ]
 refine⟨_,hA0,?_⟩
 push_cast [↓zK,↓zJ]
 refine hK _ ?_
 clear hK K
 clear hA0
 refine θA ?_
 have hA0:=zBC r0 (1) (by omega) (by omega) (Me.ln_mono (by decide) Q0)
 simp only [dMe,zDS,Me.cnt]at hA0
 refine zL fun K hK=> ?_
 refine zM zO zN [] rfl ?_
 push_cast [↓zK,↓zJ]
 refine⟨_,hA0,?_⟩
 push_cast [↓zK,↓zJ]
 repeat' apply And.intro
 all_goals try exact gB
 refine hK _ ?_
 clear hK K
 clear hA0
 refine zL fun K6 hK6=> ?_
 refine θA ?_
 refine zT rfl (fun hc=>by first|(cases hc;done)|(simp at hc;done)|(simp only [decide_eq_true_eq]at hc;omega)) (fun _=> ?_)
 refine zU (hK6 _ ?_)
 refine zL fun K7 hK7=> ?_
 refine θA ?_
 refine zT rfl (fun hc=>by first|(cases hc;done)|(simp at hc;done)|(simp only [decide_eq_true_eq]at hc;omega)) (fun _=> ?_)
 refine zU (hK7 _ ?_)
 have hA0:=jm a0 L0
 simp only [dAr]at hA0
 have hA1:=jn a1 L1
 refine zL fun K hK=> ?_
 refine zM zO zN [] rfl ?_
 push_cast [↓zK,↓zJ]
 refine⟨_,hA0,?_⟩
 push_cast [↓zK,↓zJ]
 refine⟨_,hA1,?_⟩
 push_cast [↓zK,↓zJ]
 refine⟨_,hI,?_⟩
 push_cast [↓zK,↓zJ]
 repeat' apply And.intro
 all_goals try exact gB
 refine hK _ ?_
 clear hK K
 clear hA0 hA1
 refine zL fun K8 hK8=> ?_
 have hA0:=zAD r0 Q0
 simp only [dMe]at hA0
 refine zL fun K hK=> ?_
 refine zf false zO zN ?_ rfl ?_
 ·kernel_rfl
 push_cast [↓zK,↓zJ]
 first|(refine zP (fun hg=>by(try simp only [decide_eq_true_eq]at hg);omega) (fun hg=> ?_))|skip
 refine⟨_,hA0,?_⟩
 push_cast [↓zK,↓zJ]
 repeat' apply And.intro
 all_goals try exact gB
 refine hK _ ?_
 clear hK K
 clear hA0
 refine zT rfl (fun hc=>by first|(cases hc;done)|(simp at hc;done)|(simp only [decide_eq_true_eq]at hc;omega)) (fun _=> ?_)
 refine zU (hK8 _ ?_)
 refine θA ?_
 have hA0:=zBC r0 (1) (by omega) (by omega) (Me.ln_mono (by decide) Q0)
 simp only [dMe,zDS,Me.cnt]at hA0
 refine zL fun K hK=> ?_
 refine zM zO zN [] rfl ?_
 push_cast [↓zK,↓zJ]
 refine⟨_,hA0,?_⟩
 push_cast [↓zK,↓zJ]
 repeat' apply And.intro
 all_goals try exact gB
 refine hK _ ?_
 clear hK K
 clear hA0
 refine zL fun K9 hK9=> ?_
 refine θA ?_
 refine zT rfl (fun hc=>by first|(cases hc;done)|(simp at hc;done)|(simp only [decide_eq_true_eq]at hc;omega)) (fun _=> ?_)
 refine zU (hK9 _ ?_)
 refine zL fun K10 hK10=> ?_
 refine θA ?_
 refine zT rfl (fun hc=>by first|(cases hc;done)|(simp at hc;done)|(simp only [decide_eq_true_eq]at hc;omega)) (fun _=> ?_)
 refine zU (hK10 _ ?_)
 refine θA ?_
 refine zZ ⟨Or.inl rfl,?_⟩
 push_cast [zd,↓zK,↓zJ]
set_option maxRecDepth 100000 in
theorem Wp (os:Os)(started:os.Started)(H:Type)(enc:TypeId×Value→H):
  ReturnsInHanded {} Tryz.checked os 3 .any (Rows.fnExactMemoryOfSpec.pre6 enc Tryz.prog Tryz.f3 Rows.fnExactMemoryOfRow.domain false) (Rows.fnExactMemoryOfSpec.post enc Tryz.prog Tryz.f3 false true false false):=by
 refine returnsInHanded_of_change (C:=Tryz.checked) own_law started (by kernel_rfl) Tryz.func3
  (ChangeSpec.witness6 (enc:=enc) (C:=Tryz.checked) false ⟨#[],#[.agg #[.slice none 0 0, .slice none 0 0], .slice none 0 0, .int .i64 0],[]⟩ 8 (by kernel_rfl) (by kernel_rfl) (by kernel_rfl) (by kernel_rfl)) ?_
 intro W base args ds gs before hval0 hW hcnd _
 have hval: ∀(j:Nat) t v,Tryz.f3.params[j]? =some t→args[j]? =some v→Value.okWide Tryz.prog W .any base t v:=hval0
 have hW0:=hW
 obtain⟨p,q,hA0,hV,rfl,hfz,hnd⟩:=hW
 have hA:DataW.TrodAll enc Tryz.prog W 0 (fun _=>true) true Tryz.f3.params.toList args.toList ds p:=hA0
 obtain⟨rfl,rfl⟩:=trodVars_none hV
 have hlt: ∀x∈p,x.block<W.heap.size:=fun x hx=>hW0.lt x (by simp [hx])
 rw [Tryz.params3]at hA hval
 clear hA0 hval0 hV
 obtain⟨v0,vs0,d0,ds0,p0,q0,hargs,rfl,rfl,h0,r0⟩:=trodAll_cons hA
 obtain⟨v1,vs1,d1,ds1,p1,q1,rfl,rfl,rfl,h1,r1⟩:=trodAll_cons r0
 obtain⟨v2,vs2,d2,ds2,p2,q2,rfl,rfl,rfl,h2,r2⟩:=trodAll_cons r1
 obtain⟨rfl,rfl,rfl⟩:=trodAll_nil r2
 obtain rfl:args= #[v0,v1,v2]:=by cases args;simp_all
 obtain⟨a0,w0,g0,m0⟩:=zMp (lo:=W.heap.size) (hval 0 _ v0 rfl rfl) h0
 obtain⟨a1,w1,g1,m1⟩:=zMq (lo:=W.heap.size) (hval 1 _ v1 rfl rfl) h1
 obtain⟨a2,w2,g2⟩:=arg_n (lo:=W.heap.size) (hval 2 _ v2 rfl rfl) h2
 have hL:=law a0 a1 a2 m0 m1 (Vr a0 a1 a2) (Zd a0 a1 a2) (fun _ _=>zDT) (fun h0 h1=>zCA a0 h0 a1 h1 a2) (fun h0 h1=>zB9 a0 h0 a1 h1 a2)
 refine(zJO (cargs:= [v0,v1,v2]) hL (by simp only [ZH];exact⟨v0,_,rfl,w0,v1,_,rfl,w1,v2,_,rfl,w2,rfl⟩)).mono fun e W' he=> ?_
 obtain⟨rfl,hb⟩:=he
 exact⟨_,rfl,zJN lay_law (by rw [Tryz.params3];decide+kernel) (by kernel_rfl) Tryz.underlying4 rfl hW0 rfl rfl rfl hb (fun W'=>okWide_bool_mk Tryz.underlying4 true)⟩
theorem Jv :Rows.fnExactMemoryOfRow.holds Tryz.pinned (OpenSpec.ofChange Rows.fnExactMemoryOfSpec):=
 OpenClaim.holds_of_wide 3 Tryz.f3 rfl rfl rfl rfl rfl rfl rfl ⟨rfl,rfl,rfl,rfl,rfl⟩ rfl rfl rfl rfl rfl (by kernel_rfl) Tryz.func3 (by kernel_rfl)
  (of_decide_eq_true (by kernel_rfl)) (by unfold Func.isWrapper;first|(rw [if_pos (by decide+kernel)];kernel_rfl)|(rw [if_neg (by decide+kernel)];exact⟨rfl,rfl⟩))
  (fun os started H enc _=>Wp os started H enc)
theorem ExactMemoryOf_holds :Rows.FnExactMemoryOfSaid:=Jv
end Go.Proofs.YtcleaokoimhedaaGreat.lawExactMemoryOf
