/- The statement on FnFamily: the game of pairs and the game of their family have the same winner, the turned game of the other family the other one. -/
import Derived.Test.YthepmdkpbjfdcaaGreatB5zff
import Derived.Test.YthepmdkpbjfdcaaGreatB6zff
import Derived.Test.YthepmdkpbjfdcaaGreatB25zff
import Derived.Test.YthepmdkpbjfdcaaGreatB18zff
namespace Go.Proofs.YthepmdkpbjfdcaaGreat
open Nat renaming reduceMod → zA, reduceMul → zB, reduceDiv → zC, reduceAdd → zD, reduceSub → zE, reduceEqDiff → zF, reduceBEq → zG, reduceLT → zH, reduceLeDiff → zI
open Go.RowKit
set_option linter.unusedVariables false
set_option linter.unusedSimpArgs false
attribute [-push_cast] rm
namespace lawFnFamily
open Go.ChangeShapes Go.WideShapes Go.ChangeAt Go.Joins
theorem own_law :ownKnob Tryz.prog.godebug=none:=by kernel_rfl
theorem lay_law :laidOutB Tryz.prog=true:=by kernel_rfl
set_option maxRecDepth 20000 in
set_option maxHeartbeats 8000000 in
theorem law (code:List Int)(hl:code.length≤9223372036854775807)(hbt: ∀k,k<code.length→0≤gi code k∧gi code k≤255):Fn Tryz.prog tyT 4 [.c (.lst 5 (dU code))] [.c (.bool true)]:=by
 have hBig:=zMy code hl
 refine θH (ts:= [2]) Tryz.func4 Tryz.ntmps4 ?_
 push_cast
 refine θA ?_
 refine zL fun K1 hK1=> ?_
 refine θL fun K hK=> ?_
 refine θD 2 ?_
 refine θE hK ?_
 refine θU (fun hc=> ?_) fun hc=> ?_
 ·
  refine θA ?_
  refine zY ⟨Or.inl rfl,?_⟩
  push_cast [zd]
 ·
  refine zW (hK1 _ ?_)
  have hby:qF code:=⟨by omega,hbt⟩
  have hR:=zKK code hby 23 (by omega)
  have hA:=zHI code hby 23 0 4 (by omega)
  have hao:=zMu hby 23 0 (most:=4) (by omega)
  have hno:(arA code 23 0 4).owner.length≤4:=by have h1:=(zFT (code:=code) (seed:=23) (j:=0) (most:=4)).1;have h2:=zHi hby 23 0 (most:=4) (by omega);omega
  generalize arA code 23 0 4=a at hA hao hno
  generalize arJ code 23 0 4=j1 at hA
  have hal:=yO hao
  have haL:=zMx hao
  have hP:=zHJ code hby 23 j1 a.owner.length (by omega) 2 (by decide)
  have hpn:=(zOQ hby 23 j1 (n:=a.owner.length) (by omega) (most:=2) (by decide)).1
  have hpa:=zOR hby 23 j1 a.owner.length (most:=2) (by decide)
  generalize wpP code 23 a.owner.length j1 2=ps at hP hpn hpa
  generalize wpJ code 23 a.owner.length j1 2=j at hP
  have hli:=xV ps
  obtain⟨hpa,hpk⟩:=hpa
  have hpk:ps.length≤2:=hpk
  have hD2:=Ys hby 23 j (a.owner.length:Int) (by omega)
  have hr2:=XK hby 23 j (n:=(a.owner.length:Int)) (by omega)
  generalize dv code 23 j (a.owner.length:Int)=s at hD2 hr2
  obtain⟨l1,l2,l3,l4,l5,l6,l7⟩:=zLZ hao hno hpa (by omega) (s:=s) (by omega)
  have hF:=zCR ps hpn (a.owner.length:Int)
  rw [l1]at hF
  have hfL:=zBI ps (a.owner.length:Int)
  generalize vX ps (a.owner.length:Int)=f at*
  have hFk:=zCS f hfL (a.owner.length:Int)
  rw [l2]at hFk
  have hCp:=zI4 a haL
  have hPW:=ua a haL ps hpn s
  have hPS:=ub a haL ps hpn s
  have hFW:=QZ a haL f hfL s
  have hT:=zGP a haL hao
  have hFO:=uX f hfL
  have hF2:=QZ (vq a) (zAl haL) (yl f) l3 s
  rw [l4]at hFW
  rw [l5]at hF2
  generalize pwR a ps s=w at*
  generalize yl f=o at*
  have hal2:=(zAl haL).owner
  have hal3:=(zAl haL).next.1
  generalize vq a=b at*
  obtain⟨hol1,hol2⟩:=l3
  have hol3:=hol2.1
  obtain⟨hfl1,hfl2⟩:=id hfL
  have hfl3:=hfl2.1
  unfold LnI at hal2 hol1 hfl1
  unfold dAr at hA hCp hPW hPS hFW hT hF2
  unfold dFm at hF hFk hFW hFO hF2
  refine zL fun K hK=> ?_
  refine zEk 17 zQ zN [] rfl ?_
  push_cast
  all_goals repeat'(first|(apply zO<;>(intro hg;push_cast at hg))|(refine⟨_,hR,?_⟩;push_cast)|apply And.intro|(intro hg;push_cast at hg))
  all_goals try exact gA
  refine hK _ ?_;clear hK K
  refine zL fun K hK=> ?_
  refine zc false zQ zN ?_ rfl ?_
  ·kernel_rfl
  all_goals refine zm 2 fun K9 hK9=> ?_
  all_goals push_cast
  all_goals repeat'(first|(apply zO<;>(intro hg;push_cast at hg))|(refine⟨_,_,hA,?_⟩;push_cast)|apply And.intro|(intro hg;push_cast at hg))
  all_goals try exact gA
  refine hK9 _ ?_;clear hK9 K9
  all_goals push_cast
  all_goals repeat'(first|(apply zO<;>(intro hg;push_cast at hg))|(refine⟨_,_,hA,?_⟩;push_cast)|apply And.intro|(intro hg;push_cast at hg))
  all_goals try exact gA
  refine hK _ ?_;clear hK K
  refine yx [.sl 2, .sl 22] 4 ?_
  push_cast
  refine θA ?_
  refine zL fun K hK=> ?_
  refine zc false zQ zN ?_ rfl ?_
  ·kernel_rfl
  all_goals refine zm 3 fun K9 hK9=> ?_
  all_goals push_cast
  all_goals repeat'(first|(apply zO<;>(intro hg;push_cast at hg))|(refine⟨_,_,hP,?_⟩;push_cast)|apply And.intro|(intro hg;push_cast at hg))
  all_goals try exact gA
  refine hK9 _ ?_;clear hK9 K9
  all_goals push_cast
  all_goals repeat'(first|(apply zO<;>(intro hg;push_cast at hg))|(refine⟨_,_,hP,?_⟩;push_cast)|apply And.intro|(intro hg;push_cast at hg))
  all_goals try exact gA
  refine hK _ ?_;clear hK K
  refine θL fun K hK=> ?_
  refine θD 3 ?_
  refine θE hK ?_
  refine zL fun K2 hK2=> ?_
  refine yx [.sl 2, .sl 22] 7 ?_
  push_cast
  refine zL fun K hK=> ?_
  refine zc false zQ zN ?_ rfl ?_
  ·kernel_rfl
  all_goals refine zm 6 fun K9 hK9=> ?_
  all_goals push_cast
  all_goals repeat'(first|(apply zO<;>(intro hg;push_cast at hg))|(refine⟨_,hFk,?_⟩;push_cast)|apply And.intro|(intro hg;push_cast at hg))
  all_goals try exact gA
  refine hK9 _ ?_;clear hK9 K9
  all_goals push_cast
  all_goals repeat'(first|(apply zO<;>(intro hg;push_cast at hg))|(refine⟨_,hFk,?_⟩;push_cast)|apply And.intro|(intro hg;push_cast at hg))
  all_goals try exact gA
  refine hK _ ?_;clear hK K
  all_goals(
    refine zU rfl (fun hc=> ?_) (fun hc=> ?_)
    skip
    ·exfalso;first|(cases hc;done)|(simp only [push_cast]at hc;done)|(simp only [push_cast]at hc;omega)|omega
    refine zW (hK2 _ ?_)
    refine zL fun K hK=> ?_
    refine zc false zQ zN ?_ rfl ?_
    ·kernel_rfl
    all_goals refine zm 3 fun K9 hK9=> ?_
    all_goals push_cast
    all_goals repeat'(first|(apply zO<;>(intro hg;push_cast at hg))|(refine⟨_,_,hD2,?_⟩;push_cast)|apply And.intro|(intro hg;push_cast at hg))
    all_goals try exact gA
    refine hK9 _ ?_;clear hK9 K9
    all_goals push_cast
    all_goals repeat'(first|(apply zO<;>(intro hg;push_cast at hg))|(refine⟨_,_,hD2,?_⟩;push_cast)|apply And.intro|(intro hg;push_cast at hg))
    all_goals try exact gA
    refine hK _ ?_;clear hK K
    refine θL fun K hK=> ?_
    refine θD 2 ?_
    refine θD 3 ?_
    refine θE hK ?_
    refine zL fun K hK=> ?_
    refine yN false zQ zN xR ?_ rfl ?_
    ·kernel_rfl
    intro E hE
    all_goals refine yb 2 (by decide) fun K9 hK9=> ?_
    all_goals push_cast
    all_goals repeat'(first|(apply zO<;>(intro hg;push_cast at hg))|(refine⟨_,hCp,?_⟩;push_cast)|apply And.intro|(intro hg;push_cast at hg))
    all_goals try exact gA
    refine hK9 _ _ ?_;clear hK9 K9
    all_goals refine yb 3 (by decide) fun K9 hK9=> ?_
    all_goals push_cast
    all_goals repeat'(first|(apply zO<;>(intro hg;push_cast at hg))|(refine⟨_,hFW,?_⟩;push_cast)|apply And.intro|(intro hg;push_cast at hg))
    all_goals try exact gA
    refine hK9 _ _ ?_;clear hK9 K9
    all_goals push_cast
    all_goals repeat'(first|(apply zO<;>(intro hg;push_cast at hg))|(refine⟨_,hCp,?_⟩;push_cast)|(refine⟨_,hFW,?_⟩;push_cast)|apply And.intro|(intro hg;push_cast at hg))
    all_goals first|exact gA|(refine hE _ _ ?_ ?_;kernel_rfl)|skip
    all_goals clear hE E
    refine hK _ ?_;clear hK K
    refine zL fun K hK=> ?_
    refine yN false zQ zN xR ?_ rfl ?_
    ·kernel_rfl
    intro E hE
    all_goals refine yb 2 (by decide) fun K9 hK9=> ?_
    all_goals push_cast
    all_goals repeat'(first|(apply zO<;>(intro hg;push_cast at hg))|(refine⟨_,hT,?_⟩;push_cast)|apply And.intro|(intro hg;push_cast at hg))
    all_goals try exact gA
    refine hK9 _ _ ?_;clear hK9 K9
    all_goals refine yb 2 (by decide) fun K9 hK9=> ?_
    all_goals push_cast
    all_goals repeat'(first|(apply zO<;>(intro hg;push_cast at hg))|(refine⟨_,hFO,?_⟩;push_cast)|apply And.intro|(intro hg;push_cast at hg))
    all_goals try exact gA
    refine hK9 _ _ ?_;clear hK9 K9
    all_goals refine yb 2 (by decide) fun K9 hK9=> ?_
    all_goals push_cast
    all_goals repeat'(first|(apply zO<;>(intro hg;push_cast at hg))|(refine⟨_,hF2,?_⟩;push_cast)|apply And.intro|(intro hg;push_cast at hg))
    all_goals try exact gA
    refine hK9 _ _ ?_;clear hK9 K9
    all_goals push_cast
    all_goals repeat'(first|(apply zO<;>(intro hg;push_cast at hg))|(refine⟨_,hT,?_⟩;push_cast)|(refine⟨_,hFO,?_⟩;push_cast)|(refine⟨_,hF2,?_⟩;push_cast)|apply And.intro|(intro hg;push_cast at hg))
    all_goals first|exact gA|(refine hE _ _ ?_ ?_;kernel_rfl)|skip
    all_goals clear hE E
    refine hK _ ?_;clear hK K
    have hS:=uS code hby 23 (j+1) a.owner.length (by omega)
    have hwl:=Qv code 23 (j+1) a.owner.length
    have hws:=zAp code 23 (j+1) a.owner.length
    generalize wsL code 23 (j+1) a.owner.length=met at hS hwl hws
    refine zL fun K hK=> ?_
    refine zc false zQ zN ?_ rfl ?_
    ·kernel_rfl
    all_goals refine zm 3 fun K9 hK9=> ?_
    all_goals push_cast
    all_goals repeat'(first|(apply zO<;>(intro hg;push_cast at hg))|(refine⟨_,_,hS,?_⟩;push_cast)|apply And.intro|(intro hg;push_cast at hg))
    all_goals try exact gA
    refine hK9 _ ?_;clear hK9 K9
    all_goals push_cast
    all_goals repeat'(first|(apply zO<;>(intro hg;push_cast at hg))|(refine⟨_,_,hS,?_⟩;push_cast)|apply And.intro|(intro hg;push_cast at hg))
    all_goals try exact gA
    refine hK _ ?_;clear hK K
    have hFM:=zBv f hfL met (by omega)
    have hMW:=zGK ps hpn (zHh hpa (by omega)) met (by omega) (Kp hws (by omega))
    rw [l7 met hws]at hFM
    generalize decide ((bkN ps met ps.length).length=0)=ok9 at*
    unfold dFm at hFM
    refine zL fun K hK=> ?_
    refine zc false zQ zN ?_ rfl ?_
    ·kernel_rfl
    all_goals refine zm 5 fun K9 hK9=> ?_
    all_goals push_cast
    all_goals repeat'(first|(apply zO<;>(intro hg;push_cast at hg))|(refine⟨_,hPS,?_⟩;push_cast)|apply And.intro|(intro hg;push_cast at hg))
    all_goals try exact gA
    refine hK9 _ ?_;clear hK9 K9
    all_goals refine zm 16 fun K9 hK9=> ?_
    all_goals push_cast
    all_goals repeat'(first|(apply zO<;>(intro hg;push_cast at hg))|(refine⟨_,hFM,?_⟩;push_cast)|apply And.intro|(intro hg;push_cast at hg))
    all_goals try exact gA
    refine hK9 _ ?_;clear hK9 K9
    all_goals refine zm 3 fun K9 hK9=> ?_
    all_goals push_cast
    all_goals repeat'(first|(apply zO<;>(intro hg;push_cast at hg))|(refine⟨_,hMW,?_⟩;push_cast)|apply And.intro|(intro hg;push_cast at hg))
    all_goals try exact gA
    refine hK9 _ ?_;clear hK9 K9
    all_goals push_cast
    all_goals repeat'(first|(apply zO<;>(intro hg;push_cast at hg))|(refine⟨_,hPS,?_⟩;push_cast)|(refine⟨_,hFM,?_⟩;push_cast)|(refine⟨_,hMW,?_⟩;push_cast)|apply And.intro|(intro hg;push_cast at hg))
    all_goals try exact gA
    refine hK _ ?_;clear hK K
    all_goals(
      refine zY ⟨Or.inl rfl,?_⟩
      push_cast [zd]
      all_goals(simp;done)))
set_option maxRecDepth 100000 in
theorem zBw (os:Os)(started:os.Started)(H:Type)(enc:TypeId×Value→H):
  ReturnsInHanded {} Tryz.checked os 4 .any (Rows.fnFamilySpec.pre6 enc Tryz.prog Tryz.f4 Rows.fnFamilyRow.domain false) (Rows.fnFamilySpec.post enc Tryz.prog Tryz.f4 false true false false):=by
 refine returnsInHanded_of_change (C:=Tryz.checked) own_law started (by kernel_rfl) Tryz.func4
  (ChangeSpec.witness6 (enc:=enc) (C:=Tryz.checked) false ⟨#[],#[.slice none 0 0],[]⟩ 8 (by kernel_rfl) (by kernel_rfl) (by kernel_rfl) (by kernel_rfl)) ?_
 intro W base args ds gs before hval0 hW hcnd _
 have hval: ∀(j:Nat) t v,Tryz.f4.params[j]? =some t→args[j]? =some v→Value.okWide Tryz.prog W .any base t v:=hval0
 have hW0:=hW
 obtain⟨p,q,hA0,hV,rfl,hfz,hnd⟩:=hW
 have hA:DataW.TrodAll enc Tryz.prog W 0 (fun _=>true) true Tryz.f4.params.toList args.toList ds p:=hA0
 obtain⟨rfl,rfl⟩:=trodVars_none hV
 have hlt: ∀x∈p,x.block<W.heap.size:=fun x hx=>hW0.lt x (by simp [hx])
 rw [Tryz.params4]at hA hval
 clear hA0 hval0 hV
 obtain⟨v0,vs0,d0,ds0,p0,q0,hargs,rfl,rfl,h0,r0⟩:=trodAll_cons hA
 obtain⟨rfl,rfl,rfl⟩:=trodAll_nil r0
 obtain rfl:args= #[v0]:=by cases args;simp_all
 obtain⟨a0,w0,g0,m0⟩:=arg_U (lo:=W.heap.size) (hval 0 _ v0 rfl rfl) h0
 have hL:=law a0 m0 g0
 refine(zJp (cargs:= [v0]) hL (by simp only [wg];exact⟨v0,_,rfl,w0,rfl⟩)).mono fun e W' he=> ?_
 obtain⟨rfl,hb⟩:=he
 exact⟨_,rfl,zJo lay_law (by rw [Tryz.params4];decide+kernel) (by kernel_rfl) Tryz.underlying4 rfl hW0 rfl rfl rfl hb (fun W'=>okWide_bool_mk Tryz.underlying4 true)⟩
theorem zEa :Rows.fnFamilyRow.holds Tryz.pinned (OpenSpec.ofChange Rows.fnFamilySpec):=
 OpenClaim.holds_of_wide 4 Tryz.f4 rfl rfl rfl rfl rfl rfl rfl ⟨rfl,rfl,rfl,rfl,rfl⟩ rfl rfl rfl rfl rfl (by kernel_rfl) Tryz.func4 (by kernel_rfl)
  (of_decide_eq_true (by kernel_rfl)) (by unfold Func.isWrapper;first|(rw [if_pos (by decide+kernel)];kernel_rfl)|(rw [if_neg (by decide+kernel)];exact⟨rfl,rfl⟩))
  (fun os started H enc _=>zBw os started H enc)
theorem Family_holds :Rows.FnFamilySaid:=zEa
end lawFnFamily
end Go.Proofs.YthepmdkpbjfdcaaGreat
