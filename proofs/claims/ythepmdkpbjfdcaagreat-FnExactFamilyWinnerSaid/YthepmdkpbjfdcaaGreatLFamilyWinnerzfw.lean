/- The statement on ExactFamilyWinner: both sides answer alike, for every argument. -/
import Derived.Test.YthepmdkpbjfdcaaGreatGDzfw
import Derived.Test.YthepmdkpbjfdcaaGreatB6zfw
import Derived.Test.YthepmdkpbjfdcaaGreatB18zfw
namespace Go.Proofs.YthepmdkpbjfdcaaGreat.lawExactFamilyWinner
open Nat renaming reduceMod → zA, reduceMul → zB, reduceDiv → zC, reduceAdd → zD, reduceSub → zE, reduceEqDiff → zF, reduceBEq → zG, reduceLT → zH, reduceLeDiff → zI
open Go.ChangeShapes Go.WideShapes Go.ChangeAt Go.RowKit Go.Joins
set_option linter.unusedVariables false
set_option linter.unusedSimpArgs false
theorem own_law :ownKnob Tryz.prog.godebug=none:=by kernel_rfl
theorem lay_law :laidOutB Tryz.prog=true:=by kernel_rfl
set_option maxRecDepth 20000 in
set_option maxHeartbeats 4000000 in
theorem law (a0:Ar)(a1:Fm)(a2:Int)(l0:a0.Ln 9223372036854775807)(l1:a1.Ln 9223372036854775807)(r0:Int)
  (hS:a0.Ln 1048576→a1.Ln 1048576→Fn Tryz.prog tyT 9 [.agg (dAr a0), .agg (dFm a1), .c (.int .i64 a2)] [.c (.int .i64 r0)]) (hI:a0.Ln 1048576→a1.Ln 1048576→Fn Tryz.prog tyT 12 [.agg (dAr a0), .agg (dFm a1), .c (.int .i64 a2)] [.c (.int .i64 r0)]):Fn Tryz.prog tyT 3 [.agg (dAr a0), .agg (dFm a1), .c (.int .i64 a2)] [.c (.bool true)]:=by
 simp only [dAr,dFm]at hS hI⊢
 refine zr (fn:=Tryz.f3) (ts:= [6]) Tryz.func3 (by kernel_rfl) rfl rfl (by rw [Tryz.ntmps3];exact Nat.le_of_ble_eq_true rfl) rfl (by simp only [szA,List.mem_cons,List.not_mem_nil,or_false,forall_eq_or_imp,forall_eq,VT.cells,szL];try decide) ?_
 rw [Tryz.ntmps3]
 push_cast
 refine zL fun K hK=> ?_
 refine zM zO zN [] rfl ?_
 push_cast
 repeat' apply And.intro
 all_goals try exact gB
 refine hK _ ?_;clear hK K
 refine zL fun K hK=> ?_
 refine zM zO zN [] rfl ?_
 push_cast
 repeat' apply And.intro
 all_goals try exact gB
 refine hK _ ?_;clear hK K
 have hA0:=zIK a0 ((1048576:Int)) (by omega) (by omega) l0
 simp only [dAr]at hA0
 refine zL fun K hK=> ?_
 refine zM zO zN [] rfl ?_
 push_cast
 refine⟨_,hA0,?_⟩
 push_cast
 repeat' apply And.intro
 all_goals try exact gB
 refine hK _ ?_
 clear hK K
 clear hA0
 refine zL fun K0 hK0=> ?_
 refine zL fun K hK=> ?_
 refine zM zO zN [] rfl ?_
 push_cast
 repeat' apply And.intro
 all_goals try exact gB
 refine hK _ ?_;clear hK K
 by_cases hn0:(1048576:Int)<(a0.tot:Nat)
 ·rw [qx hn0]
  refine zT rfl (fun _=> ?_) (fun hc=>absurd hc (by decide))
  refine zL fun K hK=> ?_
  refine zM zO zN [] rfl ?_
  push_cast
  repeat' apply And.intro
  all_goals try exact gB
  refine hK _ ?_;clear hK K
  refine zW ?_
  refine⟨Or.inl rfl,?_⟩
  push_cast [za]
 rw [we hn0]
 refine zT rfl (fun hc=>by simp only [decide_eq_true_eq]at hc;omega) (fun _=> ?_)
 refine zU ?_
 refine hK0 _ ?_
 have hA0:=zIL a1 ((1048576:Int) - (a0.tot:Nat)) (by omega) (by omega) l1
 simp only [dFm]at hA0
 refine zL fun K hK=> ?_
 refine zM zO zN [] rfl ?_
 push_cast
 refine⟨_,hA0,?_⟩
 push_cast
 repeat' apply And.intro
 all_goals try exact gB
 refine hK _ ?_
 clear hK K
 clear hA0
 refine zL fun K1 hK1=> ?_
 refine zL fun K hK=> ?_
 refine zM zO zN [] rfl ?_
 push_cast
 repeat' apply And.intro
 all_goals try exact gB
 refine hK _ ?_;clear hK K
 by_cases hn1:(1048576:Int) - (a0.tot:Nat)<(a1.tot:Nat)
 ·rw [qx hn1]
  refine zT rfl (fun _=> ?_) (fun hc=>absurd hc (by decide))
  refine zL fun K hK=> ?_
  refine zM zO zN [] rfl ?_
  push_cast
  repeat' apply And.intro
  all_goals try exact gB
  refine hK _ ?_;clear hK K
  refine zW ?_
  refine⟨Or.inl rfl,?_⟩
  push_cast [za]
 rw [we hn1]
 refine zT rfl (fun hc=>by simp only [decide_eq_true_eq]at hc;omega) (fun _=> ?_)
 refine zU ?_
 refine hK1 _ ?_
 have L0:a0.Ln 1048576:=Ar.ln_of (by omega)
 have L1:a1.Ln 1048576:=Fm.ln_of (by omega)
 replace hS:=hS L0 L1
 replace hI:=hI L0 L1
 have hA0:=kq a0 L0
 simp only [dAr]at hA0
 have hA1:=kr a1 L1
 simp only [dFm]at hA1
 refine zL fun K hK=> ?_
 refine xl false zO zN xj ?_ rfl ?_
 ·kernel_rfl
 intro C hC
 push_cast
 refine⟨_,hA0,?_⟩
 push_cast
 refine⟨_,hA1,?_⟩
 push_cast
 refine⟨_,hS,?_⟩
 push_cast
 repeat' apply And.intro
 all_goals first|omega|with_reducible assumption|(refine hC _ ?_;kernel_rfl)|(simp only [List.length_set,List.length_append,List.length_replicate,List.length_cons,List.length_nil];omega)|skip
 refine hK _ ?_
 clear hK K
 clear hA0 hA1
 have hA0:=kq a0 L0
 simp only [dAr]at hA0
 refine zL fun K hK=> ?_
 refine zM zO zN [] rfl ?_
 push_cast
 refine⟨_,hA0,?_⟩
 push_cast
 repeat' apply And.intro
 all_goals try exact gB
 refine hK _ ?_
 clear hK K
 clear hA0
 have hA0:=kr a1 L1
 simp only [dFm]at hA0
 refine zL fun K hK=> ?_
 refine zM zO zN [] rfl ?_
 push_cast
 refine⟨_,hA0,?_⟩
 push_cast
 repeat' apply And.intro
 all_goals try exact gB
 refine hK _ ?_
 clear hK K
 clear hA0
 refine zL fun K hK=> ?_
 refine zM zO zN [] rfl ?_
 push_cast
 refine⟨_,hI,?_⟩
 push_cast
 repeat' apply And.intro
 all_goals try exact gB
 refine hK _ ?_
 clear hK K
 refine zL fun K2 hK2=> ?_
 refine zL fun K hK=> ?_
 refine zM zO zN [] rfl ?_
 push_cast
 repeat' apply And.intro
 all_goals try exact gB
 refine hK _ ?_;clear hK K
 refine zT rfl (fun hc=>by first|(cases hc;done)|(simp at hc;done)|(simp only [decide_eq_true_eq]at hc;omega)) (fun _=> ?_)
 refine zU ?_
 refine hK2 _ ?_
 refine zL fun K3 hK3=> ?_
 have hA0:=kq a0 L0
 simp only [dAr]at hA0
 have hA1:=zHc a0 L0
 simp only [dAr]at hA1
 refine zL fun K hK=> ?_
 refine xl false zO zN xj ?_ rfl ?_
 ·kernel_rfl
 intro C hC
 push_cast
 refine⟨_,hA0,?_⟩
 push_cast
 refine⟨_,hA1,?_⟩
 push_cast
 repeat' apply And.intro
 all_goals first|omega|with_reducible assumption|(refine hC _ ?_;kernel_rfl)|(simp only [List.length_set,List.length_append,List.length_replicate,List.length_cons,List.length_nil];omega)|skip
 refine hK _ ?_
 clear hK K
 clear hA0 hA1
 refine zT rfl (fun hc=>by first|(cases hc;done)|(simp at hc;done)|(simp only [decide_eq_true_eq]at hc;omega)) (fun _=> ?_)
 refine zU ?_
 refine hK3 _ ?_
 refine zL fun K4 hK4=> ?_
 have hA0:=kr a1 L1
 simp only [dFm]at hA0
 have hA1:=zHd a1 L1
 simp only [dFm]at hA1
 refine zL fun K hK=> ?_
 refine xl false zO zN xj ?_ rfl ?_
 ·kernel_rfl
 intro C hC
 push_cast
 refine⟨_,hA0,?_⟩
 push_cast
 refine⟨_,hA1,?_⟩
 push_cast
 repeat' apply And.intro
 all_goals first|omega|with_reducible assumption|(refine hC _ ?_;kernel_rfl)|(simp only [List.length_set,List.length_append,List.length_replicate,List.length_cons,List.length_nil];omega)|skip
 refine hK _ ?_
 clear hK K
 clear hA0 hA1
 refine zT rfl (fun hc=>by first|(cases hc;done)|(simp at hc;done)|(simp only [decide_eq_true_eq]at hc;omega)) (fun _=> ?_)
 refine zU ?_
 refine hK4 _ ?_
 refine zL fun K hK=> ?_
 refine zM zO zN [] rfl ?_
 push_cast
 repeat' apply And.intro
 all_goals try exact gB
 refine hK _ ?_;clear hK K
 refine zW ?_
 refine⟨Or.inl rfl,?_⟩
 push_cast [za]
set_option maxRecDepth 100000 in
theorem XJ (os:Os)(started:os.Started)(H:Type)(enc:TypeId×Value→H):
  ReturnsInHanded {} Tryz.checked os 3 .any (Rows.fnExactFamilyWinnerSpec.pre6 enc Tryz.prog Tryz.f3 Rows.fnExactFamilyWinnerRow.domain false) (Rows.fnExactFamilyWinnerSpec.post enc Tryz.prog Tryz.f3 false true false false):=by
 refine returnsInHanded_of_change (C:=Tryz.checked) own_law started (by kernel_rfl) Tryz.func3
  (ChangeSpec.witness6 (enc:=enc) (C:=Tryz.checked) false ⟨#[],#[.agg #[.slice none 0 0, .slice none 0 0], .agg #[.slice none 0 0, .slice none 0 0], .int .i64 0],[]⟩ 8 (by kernel_rfl) (by kernel_rfl) (by kernel_rfl) (by kernel_rfl)) ?_
 intro W base args ds gs before hval0 hW hcnd _
 have hval: ∀(j:Nat) t v,Tryz.f3.params[j]? =some t→args[j]? =some v→Value.okWide Tryz.prog W .any base t v:=hval0
 have hW0:=hW
 obtain⟨p,q,hA0,hV,rfl,hfz,hnd⟩:=hW
 have hA:DataW.TrodAll enc Tryz.prog W 0 (fun _=>true) true Tryz.f3.params.toList args.toList ds p:=hA0
 obtain⟨rfl,rfl⟩:=trodVars_none hV
 have hlt: ∀x∈p,x.block<W.heap.size:=fun x hx=>hW0.lt x (by simp [hx])
 rw [Tryz.params3]at hA hval
 clear hA0 hval0 hV
 obtain⟨v0,vs0,d0,ds0,p0,q0,hargs,rfl,rfl,h0,r0⟩:=trodAll_cons hA
 obtain⟨v1,vs1,d1,ds1,p1,q1,rfl,rfl,rfl,h1,r1⟩:=trodAll_cons r0
 obtain⟨v2,vs2,d2,ds2,p2,q2,rfl,rfl,rfl,h2,r2⟩:=trodAll_cons r1
 obtain⟨rfl,rfl,rfl⟩:=trodAll_nil r2
 obtain rfl:args= #[v0,v1,v2]:=by cases args;simp_all
 obtain⟨a0,w0,g0,m0⟩:=zIo (lo:=W.heap.size) (hval 0 _ v0 rfl rfl) h0
 obtain⟨a1,w1,g1,m1⟩:=zIp (lo:=W.heap.size) (hval 1 _ v1 rfl rfl) h1
 obtain⟨a2,w2,g2⟩:=arg_n (lo:=W.heap.size) (hval 2 _ v2 rfl rfl) h2
 have hL:=law a0 a1 a2 m0 m1 (fwR a0 a1 a2) (fun h0 h1=>KM a0 h0 a1 h1 a2) (fun h0 h1=>KL a0 h0 a1 h1 a2)
 refine(zGA (cargs:= [v0,v1,v2]) hL (by simp only [wN];exact⟨v0,_,rfl,w0,v1,_,rfl,w1,v2,_,rfl,w2,rfl⟩)).mono fun e W' he=> ?_
 obtain⟨rfl,hb⟩:=he
 exact⟨_,rfl,zF9 lay_law (by rw [Tryz.params3];decide+kernel) (by kernel_rfl) Tryz.underlying4 rfl hW0 rfl rfl rfl hb (fun W'=>okWide_bool_mk Tryz.underlying4 true)⟩
theorem QA :Rows.fnExactFamilyWinnerRow.holds Tryz.pinned (OpenSpec.ofChange Rows.fnExactFamilyWinnerSpec):=
 OpenClaim.holds_of_wide 3 Tryz.f3 rfl rfl rfl rfl rfl rfl rfl ⟨rfl,rfl,rfl,rfl,rfl⟩ rfl rfl rfl rfl rfl (by kernel_rfl) Tryz.func3 (by kernel_rfl)
  (of_decide_eq_true (by kernel_rfl)) (by unfold Func.isWrapper;first|(rw [if_pos (by decide+kernel)];kernel_rfl)|(rw [if_neg (by decide+kernel)];exact⟨rfl,rfl⟩))
  (fun os started H enc _=>XJ os started H enc)
theorem ExactFamilyWinner_holds :Rows.FnExactFamilyWinnerSaid:=QA
end Go.Proofs.YthepmdkpbjfdcaaGreat.lawExactFamilyWinner
