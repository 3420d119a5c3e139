/- The statement on FnMemoryTells: a memory wins exactly if no play against it violates a pair. -/
import Derived.Test.YtggpbepdeilpgaaB6zmt
import Derived.Test.YtggpbepdeilpgaaB7zmt
import Derived.Test.YtggpbepdeilpgaaB10zmt
import Derived.Test.YtggpbepdeilpgaaB19zmt
import Derived.Test.YtggpbepdeilpgaaGWzmt
import Derived.Test.YtggpbepdeilpgaaB18zmt
namespace Go.Proofs.Ytggpbepdeilpgaa
open Nat renaming reduceMod → zA, reduceMul → zB, reduceDiv → zC, reduceAdd → zD, reduceSub → zE, reduceEqDiff → zF, reduceBEq → zG, reduceLT → zH, reduceLeDiff → zI
open Go.RowKit
set_option linter.unusedVariables false
set_option linter.unusedSimpArgs false
theorem zFB {a:Ar}{plan:List Int}(ha:zu a=true)(hp:yU a 0 plan=true):zu (xm a plan)=true:=by
 have hal:=zl ha
 refine YC ⟨hal.1,hal.2.1,JF ha⟩ fun v hv=> ?_
 have hv':v<a.owner.length:=hv
 have hr:=xO ha hv'
 unfold qm Xj
 rw [Bool.and_eq_true,decide_eq_true_eq,Yn ha hv']
 show((0:Int)≤gi a.owner v∧gi a.owner v≤1∧_)∧yX _ (a.owner.length:Int)=true
 split
 ·rename_i h
  refine⟨⟨hr.1,hr.2.1,Nat.le_refl 1,show 1≤16 by decide⟩,uz (by simp) fun x hx=> ?_⟩
  rw [List.mem_singleton]at hx
  subst hx
  rcases(wD hp).2 v hv' with h1|⟨-,h1⟩
  ·omega
  ·exact zBN ha hv' h1
 ·exact⟨⟨hr.1,hr.2.1,hr.2.2.1,hr.2.2.2.1⟩,hr.2.2.2.2⟩
attribute [-push_cast] rm
namespace lawFnMemoryTells
open Go.ChangeShapes Go.WideShapes Go.ChangeAt Go.Joins
theorem own_law :ownKnob Try.prog.godebug=none:=by kernel_rfl
theorem lay_law :laidOutB Try.prog=true:=by kernel_rfl
set_option maxRecDepth 20000 in
set_option maxHeartbeats 8000000 in
theorem law (code:List Int)(hl:code.length≤9223372036854775807)(hbt: ∀k,k<code.length→0≤gi code k∧gi code k≤255):Fn Try.prog tyT 4 [.c (.lst 5 (dU code))] [.c (.bool true)]:=by
 have hBig:=zJx code hl
 refine yK (fn:=Try.f4) (ts:= [2]) Try.func4 (by kernel_rfl) rfl rfl (by rw [Try.ntmps4];exact Nat.le_of_ble_eq_true rfl) rfl (by simp only [szA,List.mem_cons,List.not_mem_nil,or_false,forall_eq_or_imp,forall_eq,VT.cells,szL];try decide) ?_
 rw [Try.ntmps4]
 simp only [push_cast,↓zK,↓zJ,↓reduceIte,zA,zB,zC,zD,zE,zF,zG,zH,zI,reduceCtorEq]
 refine zL fun K hK=> ?_
 refine zM zQ zO [] rfl ?_
 simp only [push_cast,↓zK,↓zJ,↓reduceIte,zA,zB,zC,zD,zE,zF,zG,zH,zI,reduceCtorEq]
 repeat' apply And.intro
 all_goals try exact gB
 all_goals first|(refine hK _ ?_;clear hK K)|(simp only [push_cast];done)
 refine zL fun K1 hK1=> ?_
 refine zL fun K hK=> ?_
 refine zM zQ zO [] rfl ?_
 all_goals refine yz 2 fun K9 hK9=> ?_
 all_goals simp only [push_cast,↓zK,↓zJ,↓reduceIte,zA,zB,zC,zD,zE,zF,zG,zH,zI,reduceCtorEq]
 all_goals repeat'(first|(apply zP<;>(intro hg;(try simp only [push_cast]at hg)))|(refine⟨_,hBig,?_⟩;simp only [push_cast,↓zK,↓zJ,↓reduceIte,zA,zB,zC,zD,zE,zF,zG,zH,zI,reduceCtorEq])|apply And.intro|(intro hg;(try simp only [push_cast]at hg)))
 all_goals try exact gA
 all_goals first|(refine hK9 _ ?_;clear hK9 K9)|(simp only [push_cast];done)
 all_goals simp only [push_cast,↓zK,↓zJ,↓reduceIte,zA,zB,zC,zD,zE,zF,zG,zH,zI,reduceCtorEq]
 all_goals repeat'(first|(apply zP<;>(intro hg;(try simp only [push_cast]at hg)))|(refine⟨_,hBig,?_⟩;simp only [push_cast,↓zK,↓zJ,↓reduceIte,zA,zB,zC,zD,zE,zF,zG,zH,zI,reduceCtorEq])|apply And.intro|(intro hg;(try simp only [push_cast]at hg)))
 all_goals try exact gA
 all_goals first|(refine hK _ ?_;clear hK K)|(simp only [push_cast];done)
 refine zU rfl (fun hc=> ?_) (fun hc=> ?_)<;>(try simp only [push_cast]at hc)
 ·
  refine zL fun K hK=> ?_
  refine zM zQ zO [] rfl ?_
  simp only [push_cast,↓zK,↓zJ,↓reduceIte,zA,zB,zC,zD,zE,zF,zG,zH,zI,reduceCtorEq]
  repeat' apply And.intro
  all_goals try exact gB
  all_goals first|(refine hK _ ?_;clear hK K)|(simp only [push_cast];done)
  refine zc ?_
  (try simp only [zR,zS])
  refine⟨Or.inl rfl,?_⟩
  simp only [zi,push_cast,↓zK,↓zJ,↓reduceIte,zA,zB,zC,zD,zE,zF,zG,zH,zI,reduceCtorEq]
 ·
  refine zV ?_
  (try simp only [zR,zS,reduceIte,zF]);refine hK1 _ ?_
  have hby:yv code:=⟨by omega,hbt⟩
  have hR:=zHV code hby 26 (by omega)
  have hA:=zEO code hby 26 0 6 (by omega)
  have hao:=zJv hby 26 0 (most:=6) (by omega)
  have hno:(arA code 26 0 6).owner.length≤6:=by have h1:=(zCY (code:=code) (seed:=26) (j:=0) (most:=6)).1;have h2:=zEl hby 26 0 (most:=6) (by omega);omega
  generalize arA code 26 0 6=a at hA hao hno
  generalize arJ code 26 0 6=j1 at hA
  have hal:=zl hao
  have haL:=zEm hao
  have hP:=zEP code hby 26 j1 a.owner.length (by omega) 2 (by decide)
  have hpn:=(zLH hby 26 j1 (n:=a.owner.length) (by omega) (most:=2) (by decide)).1
  have hpa:=zLI hby 26 j1 a.owner.length (most:=2) (by decide)
  generalize wpP code 26 a.owner.length j1 2=ps at hP hpn hpa
  generalize wpJ code 26 a.owner.length j1 2=j at hP
  have hli:=wT ps
  have hpr:vR ps a.owner.length=true:=by rw [KR (by omega)];exact hpa.1
  clear hpa
  have hD2:=ZF hby 26 j (a.owner.length:Int) (by omega)
  have hr2:=wQ hby 26 j (n:=(a.owner.length:Int)) (by omega)
  generalize dv code 26 j (a.owner.length:Int)=s at hD2 hr2
  have hCp:=zGL a haL
  have hP0:=UE code hby 26 (j+1) a hao 0
  have hpok:=pL_ok hby 26 hao (who:=0) (by decide) (j+1)
  have hf0:=YF (zC8 hby 26 hao 0 (j+1))
  have hl0:=YS code 26 a 0 (j+1) a.owner.length
  generalize pL code 26 a 0 (j+1) a.owner.length=plan at hP0 hpok hf0 hl0
  generalize pJ a 0 (j+1) a.owner.length=j5 at hP0
  have hP1:=UE code hby 26 j5 a hao 1
  have hf1:=YF (zC8 hby 26 hao 1 j5)
  have hl1:=YS code 26 a 1 j5 a.owner.length
  generalize pL code 26 a 1 j5 a.owner.length=odd at hP1 hf1 hl1
  generalize pJ a 1 j5 a.owner.length=j6 at hP1
  have hplL:LnI 1048576 plan:=by unfold LnI;omega
  have hodL:LnI 1048576 odd:=by unfold LnI;omega
  have hmL:(mPl plan).Ln 1048576:=by have :=zHD (a:=a) hplL;rw [KO hpok]at this;exact this
  have hPM:Fn Try.prog tyT 21 [.agg (dAr a), .c (DI plan)] [.agg (dMe (mPl plan)), .c (.bool true)]:=by have h9:=jq a haL plan hplL;rw [hpok,KO hpok]at h9;exact h9
  have hMW:=jp a haL ps hpn (mPl plan) hmL s
  have hFB:Fn Try.prog tyT 24 [.agg (dAr a), .c (.int .i64 0), .c (DI plan)] [.agg (dAr (xm a plan)), .c (.bool true)]:=by have h9:=zBl a haL 0 plan (by omega);rw [hpok,jD hpok]at h9;exact h9
  have hMP:=jo a haL (mPl plan) hmL odd hodL s
  have hT:=zA5 (a:=a) (plan:=plan) (odd:=odd) (s:=s) (ps:=ps) hao hf0.1 (fun v hv h9=>by have :=hf0.2 v (by omega);omega) hf1.1 (fun v hv h9=>by have :=hf1.2 v (by omega);omega) hr2 hpr
  obtain⟨hT1,hT2,hT3⟩:=hT
  rw [hT2]at hMP
  have hlL:=zKn (a:=a) (m:=mPl plan) (odd:=odd) (v:=s)
  generalize (wX a (mPl plan) odd s).1=l at hMP hT3 hlL
  have hLW:=UI a haL ps hpn l hlL
  generalize JZ a ps l=LW at hLW hT3
  generalize mwB a ps (mPl plan) s=WW at hMW hT1 hT3
  have hfo:=zFB hao hf0.1
  have hBF:Fn Try.prog tyT 27 [.agg (dAr (xm a plan)), .c (.lst 76 (dII (ilv ps)))] [.c (DI (xL (we (xm a plan).next (brA (xm a plan).next a.owner.length ps ps.length) a.owner.length) a.owner.length))]:=UG (xm a plan) (zEm hfo) hfo ps hpn hpr
  have hBL:=XD (we (xm a plan).next (brA (xm a plan).next a.owner.length ps ps.length) a.owner.length) a.owner.length
  generalize xL (we (xm a plan).next (brA (xm a plan).next a.owner.length ps ps.length) a.owner.length) a.owner.length=BR at hBF hBL hT1
  have hHas:=zHt BR s (by omega)
  generalize zn BR s=HH at hHas hT1
  have hfn:=JF (plan:=plan) hao
  unfold dAr at hA hCp hP0 hP1 hPM hMW hFB hMP hLW hBF
  have hfw:(xm a plan).owner=a.owner:=rfl
  rw [hfw]at hFB hBF
  generalize (xm a plan).next=FN at hFB hBF hfn
  clear hT2 hf0 hf1 hfo hfw
  unfold dMe mPl at hPM hMW hMP
  generalize List.replicate plan.length (0:Int)=R0 at hPM hMW hMP
  unfold dLs at hMP hLW
  refine zL fun K hK=> ?_
  refine zBy 18 zQ zO [] rfl ?_
  simp only [push_cast,↓zK,↓zJ,↓reduceIte,zA,zB,zC,zD,zE,zF,zG,zH,zI,reduceCtorEq]
  all_goals repeat'(first|(apply zP<;>(intro hg;(try simp only [push_cast]at hg)))|(refine⟨_,hR,?_⟩;simp only [push_cast,↓zK,↓zJ,↓reduceIte,zA,zB,zC,zD,zE,zF,zG,zH,zI,reduceCtorEq])|apply And.intro|(intro hg;(try simp only [push_cast]at hg)))
  all_goals try exact gA
  all_goals first|(refine hK _ ?_;clear hK K)|(simp only [push_cast];done)
  refine zL fun K hK=> ?_
  refine za false zQ zO ?_ rfl ?_
  ·kernel_rfl
  all_goals refine zo 2 fun K9 hK9=> ?_
  all_goals simp only [push_cast,↓zK,↓zJ,↓reduceIte,zA,zB,zC,zD,zE,zF,zG,zH,zI,reduceCtorEq]
  all_goals repeat'(first|(apply zP<;>(intro hg;(try simp only [push_cast]at hg)))|(refine⟨_,_,hA,?_⟩;(try simp only [push_cast,↓zK,↓zJ,↓reduceIte,zA,zB,zC,zD,zE,zF,zG,zH,zI,reduceCtorEq]))|apply And.intro|(intro hg;(try simp only [push_cast]at hg)))
  all_goals try exact gA
  all_goals first|(refine hK9 _ ?_;clear hK9 K9)|(simp only [push_cast];done)
  all_goals simp only [push_cast,↓zK,↓zJ,↓reduceIte,zA,zB,zC,zD,zE,zF,zG,zH,zI,reduceCtorEq]
  all_goals repeat'(first|(apply zP<;>(intro hg;(try simp only [push_cast]at hg)))|(refine⟨_,_,hA,?_⟩;(try simp only [push_cast,↓zK,↓zJ,↓reduceIte,zA,zB,zC,zD,zE,zF,zG,zH,zI,reduceCtorEq]))|apply And.intro|(intro hg;(try simp only [push_cast]at hg)))
  all_goals try exact gA
  all_goals first|(refine hK _ ?_;clear hK K)|(simp only [push_cast];done)
  refine qT [.sl 2, .sl 22] 4 ?_
  simp only [push_cast,↓zK,↓zJ,↓reduceIte,zA,zB,zC,zD,zE,zF,zG,zH,zI,reduceCtorEq]
  refine zL fun K hK=> ?_
  refine zM zQ zO [] rfl ?_
  simp only [push_cast,↓zK,↓zJ,↓reduceIte,zA,zB,zC,zD,zE,zF,zG,zH,zI,reduceCtorEq]
  repeat' apply And.intro
  all_goals try exact gB
  all_goals first|(refine hK _ ?_;clear hK K)|(simp only [push_cast];done)
  refine zL fun K hK=> ?_
  refine za false zQ zO ?_ rfl ?_
  ·kernel_rfl
  all_goals refine zo 3 fun K9 hK9=> ?_
  all_goals simp only [push_cast,↓zK,↓zJ,↓reduceIte,zA,zB,zC,zD,zE,zF,zG,zH,zI,reduceCtorEq]
  all_goals repeat'(first|(apply zP<;>(intro hg;(try simp only [push_cast]at hg)))|(refine⟨_,_,hP,?_⟩;(try simp only [push_cast,↓zK,↓zJ,↓reduceIte,zA,zB,zC,zD,zE,zF,zG,zH,zI,reduceCtorEq]))|apply And.intro|(intro hg;(try simp only [push_cast]at hg)))
  all_goals try exact gA
  all_goals first|(refine hK9 _ ?_;clear hK9 K9)|(simp only [push_cast];done)
  all_goals simp only [push_cast,↓zK,↓zJ,↓reduceIte,zA,zB,zC,zD,zE,zF,zG,zH,zI,reduceCtorEq]
  all_goals repeat'(first|(apply zP<;>(intro hg;(try simp only [push_cast]at hg)))|(refine⟨_,_,hP,?_⟩;(try simp only [push_cast,↓zK,↓zJ,↓reduceIte,zA,zB,zC,zD,zE,zF,zG,zH,zI,reduceCtorEq]))|apply And.intro|(intro hg;(try simp only [push_cast]at hg)))
  all_goals try exact gA
  all_goals first|(refine hK _ ?_;clear hK K)|(simp only [push_cast];done)
  refine zL fun K hK=> ?_
  refine za false zQ zO ?_ rfl ?_
  ·kernel_rfl
  all_goals refine zo 3 fun K9 hK9=> ?_
  all_goals simp only [push_cast,↓zK,↓zJ,↓reduceIte,zA,zB,zC,zD,zE,zF,zG,zH,zI,reduceCtorEq]
  all_goals repeat'(first|(apply zP<;>(intro hg;(try simp only [push_cast]at hg)))|(refine⟨_,_,hD2,?_⟩;(try simp only [push_cast,↓zK,↓zJ,↓reduceIte,zA,zB,zC,zD,zE,zF,zG,zH,zI,reduceCtorEq]))|apply And.intro|(intro hg;(try simp only [push_cast]at hg)))
  all_goals try exact gA
  all_goals first|(refine hK9 _ ?_;clear hK9 K9)|(simp only [push_cast];done)
  all_goals simp only [push_cast,↓zK,↓zJ,↓reduceIte,zA,zB,zC,zD,zE,zF,zG,zH,zI,reduceCtorEq]
  all_goals repeat'(first|(apply zP<;>(intro hg;(try simp only [push_cast]at hg)))|(refine⟨_,_,hD2,?_⟩;(try simp only [push_cast,↓zK,↓zJ,↓reduceIte,zA,zB,zC,zD,zE,zF,zG,zH,zI,reduceCtorEq]))|apply And.intro|(intro hg;(try simp only [push_cast]at hg)))
  all_goals try exact gA
  all_goals first|(refine hK _ ?_;clear hK K)|(simp only [push_cast];done)
  refine zL fun K hK=> ?_
  refine yB false zQ zO xW ?_ rfl ?_
  ·kernel_rfl
  intro E hE
  all_goals refine yP 2 (by decide) fun K9 hK9=> ?_
  all_goals simp only [push_cast,↓zK,↓zJ,↓reduceIte,zA,zB,zC,zD,zE,zF,zG,zH,zI,reduceCtorEq]
  all_goals repeat'(first|(apply zP<;>(intro hg;(try simp only [push_cast]at hg)))|(refine⟨_,hCp,?_⟩;simp only [push_cast,↓zK,↓zJ,↓reduceIte,zA,zB,zC,zD,zE,zF,zG,zH,zI,reduceCtorEq])|(refine⟨_,_,hP0,?_⟩;(try simp only [push_cast,↓zK,↓zJ,↓reduceIte,zA,zB,zC,zD,zE,zF,zG,zH,zI,reduceCtorEq]))|(refine⟨_,hPM,?_⟩;simp only [push_cast,↓zK,↓zJ,↓reduceIte,zA,zB,zC,zD,zE,zF,zG,zH,zI,reduceCtorEq])|apply And.intro|(intro hg;(try simp only [push_cast]at hg)))
  all_goals try exact gA
  all_goals first|(refine hK9 _ _ ?_;clear hK9 K9)|(simp only [push_cast];done)
  all_goals refine yP 3 (by decide) fun K9 hK9=> ?_
  all_goals simp only [push_cast,↓zK,↓zJ,↓reduceIte,zA,zB,zC,zD,zE,zF,zG,zH,zI,reduceCtorEq]
  all_goals repeat'(first|(apply zP<;>(intro hg;(try simp only [push_cast]at hg)))|(refine⟨_,hCp,?_⟩;simp only [push_cast,↓zK,↓zJ,↓reduceIte,zA,zB,zC,zD,zE,zF,zG,zH,zI,reduceCtorEq])|(refine⟨_,_,hP0,?_⟩;(try simp only [push_cast,↓zK,↓zJ,↓reduceIte,zA,zB,zC,zD,zE,zF,zG,zH,zI,reduceCtorEq]))|(refine⟨_,hPM,?_⟩;simp only [push_cast,↓zK,↓zJ,↓reduceIte,zA,zB,zC,zD,zE,zF,zG,zH,zI,reduceCtorEq])|apply And.intro|(intro hg;(try simp only [push_cast]at hg)))
  all_goals try exact gA
  all_goals first|(refine hK9 _ _ ?_;clear hK9 K9)|(simp only [push_cast];done)
  all_goals refine yP 1 (by decide) fun K9 hK9=> ?_
  all_goals simp only [push_cast,↓zK,↓zJ,↓reduceIte,zA,zB,zC,zD,zE,zF,zG,zH,zI,reduceCtorEq]
  all_goals repeat'(first|(apply zP<;>(intro hg;(try simp only [push_cast]at hg)))|(refine⟨_,hCp,?_⟩;simp only [push_cast,↓zK,↓zJ,↓reduceIte,zA,zB,zC,zD,zE,zF,zG,zH,zI,reduceCtorEq])|(refine⟨_,_,hP0,?_⟩;(try simp only [push_cast,↓zK,↓zJ,↓reduceIte,zA,zB,zC,zD,zE,zF,zG,zH,zI,reduceCtorEq]))|(refine⟨_,hPM,?_⟩;simp only [push_cast,↓zK,↓zJ,↓reduceIte,zA,zB,zC,zD,zE,zF,zG,zH,zI,reduceCtorEq])|apply And.intro|(intro hg;(try simp only [push_cast]at hg)))
  all_goals try exact gA
  all_goals first|(refine hK9 _ _ ?_;clear hK9 K9)|(simp only [push_cast];done)
  all_goals simp only [push_cast,↓zK,↓zJ,↓reduceIte,zA,zB,zC,zD,zE,zF,zG,zH,zI,reduceCtorEq]
  all_goals repeat'(first|(apply zP<;>(intro hg;(try simp only [push_cast]at hg)))|(refine⟨_,hCp,?_⟩;simp only [push_cast,↓zK,↓zJ,↓reduceIte,zA,zB,zC,zD,zE,zF,zG,zH,zI,reduceCtorEq])|(refine⟨_,_,hP0,?_⟩;(try simp only [push_cast,↓zK,↓zJ,↓reduceIte,zA,zB,zC,zD,zE,zF,zG,zH,zI,reduceCtorEq]))|(refine⟨_,hPM,?_⟩;simp only [push_cast,↓zK,↓zJ,↓reduceIte,zA,zB,zC,zD,zE,zF,zG,zH,zI,reduceCtorEq])|apply And.intro|(intro hg;(try simp only [push_cast]at hg)))
  all_goals first|exact gA|(refine hE _ _ ?_ ?_;kernel_rfl)|skip
  all_goals clear hE E
  all_goals first|(refine hK _ ?_;clear hK K)|(simp only [push_cast];done)
  refine zL fun K2 hK2=> ?_
  refine qT [.sl 22, .sl 22] 8 ?_
  simp only [push_cast,↓zK,↓zJ,↓reduceIte,zA,zB,zC,zD,zE,zF,zG,zH,zI,reduceCtorEq]
  refine zL fun K hK=> ?_
  refine za false zQ zO ?_ rfl ?_
  ·kernel_rfl
  all_goals simp only [push_cast,↓zK,↓zJ,↓reduceIte,zA,zB,zC,zD,zE,zF,zG,zH,zI,reduceCtorEq]
  all_goals repeat'(first|(apply zP<;>(intro hg;(try simp only [push_cast]at hg)))|apply And.intro|(intro hg;(try simp only [push_cast]at hg)))
  all_goals try exact gA
  all_goals first|(refine hK _ ?_;clear hK K)|(simp only [push_cast];done)
  all_goals(
    refine zU rfl (fun hc=> ?_) (fun hc=> ?_)
    skip
    ·exfalso;first|(cases hc;done)|(simp only [push_cast]at hc;done)|(simp only [push_cast]at hc;omega)|omega
    refine zV ?_
    (try simp only [zR,zS,reduceIte,zF]);refine hK2 _ ?_
    refine zL fun K hK=> ?_
    refine yB false zQ zO xW ?_ rfl ?_
    ·kernel_rfl
    intro E hE
    all_goals refine yP 2 (by decide) fun K9 hK9=> ?_
    all_goals simp only [push_cast,↓zK,↓zJ,↓reduceIte,zA,zB,zC,zD,zE,zF,zG,zH,zI,reduceCtorEq]
    all_goals repeat'(first|(apply zP<;>(intro hg;(try simp only [push_cast]at hg)))|(refine⟨_,hCp,?_⟩;simp only [push_cast,↓zK,↓zJ,↓reduceIte,zA,zB,zC,zD,zE,zF,zG,zH,zI,reduceCtorEq])|(refine⟨_,hMW,?_⟩;simp only [push_cast,↓zK,↓zJ,↓reduceIte,zA,zB,zC,zD,zE,zF,zG,zH,zI,reduceCtorEq])|apply And.intro|(intro hg;(try simp only [push_cast]at hg)))
    all_goals try exact gA
    all_goals first|(refine hK9 _ _ ?_;clear hK9 K9)|(simp only [push_cast];done)
    all_goals refine yP 4 (by decide) fun K9 hK9=> ?_
    all_goals simp only [push_cast,↓zK,↓zJ,↓reduceIte,zA,zB,zC,zD,zE,zF,zG,zH,zI,reduceCtorEq]
    all_goals repeat'(first|(apply zP<;>(intro hg;(try simp only [push_cast]at hg)))|(refine⟨_,hCp,?_⟩;simp only [push_cast,↓zK,↓zJ,↓reduceIte,zA,zB,zC,zD,zE,zF,zG,zH,zI,reduceCtorEq])|(refine⟨_,hMW,?_⟩;simp only [push_cast,↓zK,↓zJ,↓reduceIte,zA,zB,zC,zD,zE,zF,zG,zH,zI,reduceCtorEq])|apply And.intro|(intro hg;(try simp only [push_cast]at hg)))
    all_goals try exact gA
    all_goals first|(refine hK9 _ _ ?_;clear hK9 K9)|(simp only [push_cast];done)
    all_goals simp only [push_cast,↓zK,↓zJ,↓reduceIte,zA,zB,zC,zD,zE,zF,zG,zH,zI,reduceCtorEq]
    all_goals repeat'(first|(apply zP<;>(intro hg;(try simp only [push_cast]at hg)))|(refine⟨_,hCp,?_⟩;simp only [push_cast,↓zK,↓zJ,↓reduceIte,zA,zB,zC,zD,zE,zF,zG,zH,zI,reduceCtorEq])|(refine⟨_,hMW,?_⟩;simp only [push_cast,↓zK,↓zJ,↓reduceIte,zA,zB,zC,zD,zE,zF,zG,zH,zI,reduceCtorEq])|apply And.intro|(intro hg;(try simp only [push_cast]at hg)))
    all_goals first|exact gA|(refine hE _ _ ?_ ?_;kernel_rfl)|skip
    all_goals clear hE E
    all_goals first|(refine hK _ ?_;clear hK K)|(simp only [push_cast];done)
    refine zL fun K hK=> ?_
    refine yB false zQ zO xW ?_ rfl ?_
    ·kernel_rfl
    intro E hE
    all_goals refine yP 6 (by decide) fun K9 hK9=> ?_
    all_goals simp only [push_cast,↓zK,↓zJ,↓reduceIte,zA,zB,zC,zD,zE,zF,zG,zH,zI,reduceCtorEq]
    all_goals repeat'(first|(apply zP<;>(intro hg;(try simp only [push_cast]at hg)))|(refine⟨_,hFB,?_⟩;simp only [push_cast,↓zK,↓zJ,↓reduceIte,zA,zB,zC,zD,zE,zF,zG,zH,zI,reduceCtorEq])|apply And.intro|(intro hg;(try simp only [push_cast]at hg)))
    all_goals try exact gA
    all_goals first|(refine hK9 _ _ ?_;clear hK9 K9)|(simp only [push_cast];done)
    all_goals simp only [push_cast,↓zK,↓zJ,↓reduceIte,zA,zB,zC,zD,zE,zF,zG,zH,zI,reduceCtorEq]
    all_goals repeat'(first|(apply zP<;>(intro hg;(try simp only [push_cast]at hg)))|(refine⟨_,hFB,?_⟩;simp only [push_cast,↓zK,↓zJ,↓reduceIte,zA,zB,zC,zD,zE,zF,zG,zH,zI,reduceCtorEq])|apply And.intro|(intro hg;(try simp only [push_cast]at hg)))
    all_goals first|exact gA|(refine hE _ _ ?_ ?_;kernel_rfl)|skip
    all_goals clear hE E
    all_goals first|(refine hK _ ?_;clear hK K)|(simp only [push_cast];done)
    refine qT [.sl 2, .sl 22] 11 ?_
    simp only [push_cast,↓zK,↓zJ,↓reduceIte,zA,zB,zC,zD,zE,zF,zG,zH,zI,reduceCtorEq]
    refine zL fun K hK=> ?_
    refine yB false zQ zO xW ?_ rfl ?_
    ·kernel_rfl
    intro E hE
    all_goals refine yP 2 (by decide) fun K9 hK9=> ?_
    all_goals simp only [push_cast,↓zK,↓zJ,↓reduceIte,zA,zB,zC,zD,zE,zF,zG,zH,zI,reduceCtorEq]
    all_goals repeat'(first|(apply zP<;>(intro hg;(try simp only [push_cast]at hg)))|(refine⟨_,hCp,?_⟩;simp only [push_cast,↓zK,↓zJ,↓reduceIte,zA,zB,zC,zD,zE,zF,zG,zH,zI,reduceCtorEq])|(refine⟨_,_,hP1,?_⟩;(try simp only [push_cast,↓zK,↓zJ,↓reduceIte,zA,zB,zC,zD,zE,zF,zG,zH,zI,reduceCtorEq]))|(refine⟨_,hMP,?_⟩;simp only [push_cast,↓zK,↓zJ,↓reduceIte,zA,zB,zC,zD,zE,zF,zG,zH,zI,reduceCtorEq])|apply And.intro|(intro hg;(try simp only [push_cast]at hg)))
    all_goals try exact gA
    all_goals first|(refine hK9 _ _ ?_;clear hK9 K9)|(simp only [push_cast];done)
    all_goals refine yP 4 (by decide) fun K9 hK9=> ?_
    all_goals simp only [push_cast,↓zK,↓zJ,↓reduceIte,zA,zB,zC,zD,zE,zF,zG,zH,zI,reduceCtorEq]
    all_goals repeat'(first|(apply zP<;>(intro hg;(try simp only [push_cast]at hg)))|(refine⟨_,hCp,?_⟩;simp only [push_cast,↓zK,↓zJ,↓reduceIte,zA,zB,zC,zD,zE,zF,zG,zH,zI,reduceCtorEq])|(refine⟨_,_,hP1,?_⟩;(try simp only [push_cast,↓zK,↓zJ,↓reduceIte,zA,zB,zC,zD,zE,zF,zG,zH,zI,reduceCtorEq]))|(refine⟨_,hMP,?_⟩;simp only [push_cast,↓zK,↓zJ,↓reduceIte,zA,zB,zC,zD,zE,zF,zG,zH,zI,reduceCtorEq])|apply And.intro|(intro hg;(try simp only [push_cast]at hg)))
    all_goals try exact gA
    all_goals first|(refine hK9 _ _ ?_;clear hK9 K9)|(simp only [push_cast];done)
    all_goals refine yP 2 (by decide) fun K9 hK9=> ?_
    all_goals simp only [push_cast,↓zK,↓zJ,↓reduceIte,zA,zB,zC,zD,zE,zF,zG,zH,zI,reduceCtorEq]
    all_goals repeat'(first|(apply zP<;>(intro hg;(try simp only [push_cast]at hg)))|(refine⟨_,hCp,?_⟩;simp only [push_cast,↓zK,↓zJ,↓reduceIte,zA,zB,zC,zD,zE,zF,zG,zH,zI,reduceCtorEq])|(refine⟨_,_,hP1,?_⟩;(try simp only [push_cast,↓zK,↓zJ,↓reduceIte,zA,zB,zC,zD,zE,zF,zG,zH,zI,reduceCtorEq]))|(refine⟨_,hMP,?_⟩;simp only [push_cast,↓zK,↓zJ,↓reduceIte,zA,zB,zC,zD,zE,zF,zG,zH,zI,reduceCtorEq])|apply And.intro|(intro hg;(try simp only [push_cast]at hg)))
    all_goals try exact gA
    all_goals first|(refine hK9 _ _ ?_;clear hK9 K9)|(simp only [push_cast];done)
    all_goals simp only [push_cast,↓zK,↓zJ,↓reduceIte,zA,zB,zC,zD,zE,zF,zG,zH,zI,reduceCtorEq]
    all_goals repeat'(first|(apply zP<;>(intro hg;(try simp only [push_cast]at hg)))|(refine⟨_,hCp,?_⟩;simp only [push_cast,↓zK,↓zJ,↓reduceIte,zA,zB,zC,zD,zE,zF,zG,zH,zI,reduceCtorEq])|(refine⟨_,_,hP1,?_⟩;(try simp only [push_cast,↓zK,↓zJ,↓reduceIte,zA,zB,zC,zD,zE,zF,zG,zH,zI,reduceCtorEq]))|(refine⟨_,hMP,?_⟩;simp only [push_cast,↓zK,↓zJ,↓reduceIte,zA,zB,zC,zD,zE,zF,zG,zH,zI,reduceCtorEq])|apply And.intro|(intro hg;(try simp only [push_cast]at hg)))
    all_goals first|exact gA|(refine hE _ _ ?_ ?_;kernel_rfl)|skip
    all_goals clear hE E
    all_goals first|(refine hK _ ?_;clear hK K)|(simp only [push_cast];done)
    refine qT [.sl 2, .sl 2] 13 ?_
    simp only [push_cast,↓zK,↓zJ,↓reduceIte,zA,zB,zC,zD,zE,zF,zG,zH,zI,reduceCtorEq]
    refine zL fun K hK=> ?_
    refine za false zQ zO ?_ rfl ?_
    ·kernel_rfl
    all_goals refine zo 9 fun K9 hK9=> ?_
    all_goals simp only [push_cast,↓zK,↓zJ,↓reduceIte,zA,zB,zC,zD,zE,zF,zG,zH,zI,reduceCtorEq]
    all_goals repeat'(first|(apply zP<;>(intro hg;(try simp only [push_cast]at hg)))|(refine⟨_,hBF,?_⟩;simp only [push_cast,↓zK,↓zJ,↓reduceIte,zA,zB,zC,zD,zE,zF,zG,zH,zI,reduceCtorEq])|apply And.intro|(intro hg;(try simp only [push_cast]at hg)))
    all_goals try exact gA
    all_goals first|(refine hK9 _ ?_;clear hK9 K9)|(simp only [push_cast];done)
    all_goals refine zo 2 fun K9 hK9=> ?_
    all_goals simp only [push_cast,↓zK,↓zJ,↓reduceIte,zA,zB,zC,zD,zE,zF,zG,zH,zI,reduceCtorEq]
    all_goals repeat'(first|(apply zP<;>(intro hg;(try simp only [push_cast]at hg)))|(refine⟨_,hHas,?_⟩;simp only [push_cast,↓zK,↓zJ,↓reduceIte,zA,zB,zC,zD,zE,zF,zG,zH,zI,reduceCtorEq])|apply And.intro|(intro hg;(try simp only [push_cast]at hg)))
    all_goals try exact gA
    all_goals first|(refine hK9 _ ?_;clear hK9 K9)|(simp only [push_cast];done)
    all_goals refine zo 11 fun K9 hK9=> ?_
    all_goals simp only [push_cast,↓zK,↓zJ,↓reduceIte,zA,zB,zC,zD,zE,zF,zG,zH,zI,reduceCtorEq]
    all_goals repeat'(first|(apply zP<;>(intro hg;(try simp only [push_cast]at hg)))|(refine⟨_,hLW,?_⟩;simp only [push_cast,↓zK,↓zJ,↓reduceIte,zA,zB,zC,zD,zE,zF,zG,zH,zI,reduceCtorEq])|apply And.intro|(intro hg;(try simp only [push_cast]at hg)))
    all_goals try exact gA
    all_goals first|(refine hK9 _ ?_;clear hK9 K9)|(simp only [push_cast];done)
    all_goals simp only [push_cast,↓zK,↓zJ,↓reduceIte,zA,zB,zC,zD,zE,zF,zG,zH,zI,reduceCtorEq]
    all_goals repeat'(first|(apply zP<;>(intro hg;(try simp only [push_cast]at hg)))|(refine⟨_,hBF,?_⟩;simp only [push_cast,↓zK,↓zJ,↓reduceIte,zA,zB,zC,zD,zE,zF,zG,zH,zI,reduceCtorEq])|(refine⟨_,hHas,?_⟩;simp only [push_cast,↓zK,↓zJ,↓reduceIte,zA,zB,zC,zD,zE,zF,zG,zH,zI,reduceCtorEq])|(refine⟨_,hLW,?_⟩;simp only [push_cast,↓zK,↓zJ,↓reduceIte,zA,zB,zC,zD,zE,zF,zG,zH,zI,reduceCtorEq])|apply And.intro|(intro hg;(try simp only [push_cast]at hg)))
    all_goals try exact gA
    all_goals first|(refine hK _ ?_;clear hK K)|(simp only [push_cast];done)
    all_goals(
      refine zc ?_
      (try simp only [zR,zS])
      refine⟨Or.inl rfl,?_⟩
      simp only [zi,push_cast,↓zK,↓zJ,↓reduceIte,zA,zB,zC,zD,zE,zF,zG,zH,zI,reduceCtorEq]
      all_goals first|exact hT3 (by with_reducible assumption)|rfl|skip))
set_option maxRecDepth 100000 in
theorem Vt (os:Os)(started:os.Started)(H:Type)(enc:TypeId×Value→H):
  ReturnsInHanded {} Try.checked os 4 .any (Rows.fnMemoryTellsSpec.pre6 enc Try.prog Try.f4 Rows.fnMemoryTellsRow.domain false) (Rows.fnMemoryTellsSpec.post enc Try.prog Try.f4 false true false false):=by
 refine returnsInHanded_of_change (C:=Try.checked) own_law started (by kernel_rfl) Try.func4
  (ChangeSpec.witness6 (enc:=enc) (C:=Try.checked) false ⟨#[],#[.slice none 0 0],[]⟩ 8 (by kernel_rfl) (by kernel_rfl) (by kernel_rfl) (by kernel_rfl)) ?_
 intro W base args ds gs before hval0 hW hcnd _
 have hval: ∀(j:Nat) t v,Try.f4.params[j]? =some t→args[j]? =some v→Value.okWide Try.prog W .any base t v:=hval0
 have hW0:=hW
 obtain⟨p,q,hA0,hV,rfl,hfz,hnd⟩:=hW
 have hA:DataW.TrodAll enc Try.prog W 0 (fun _=>true) true Try.f4.params.toList args.toList ds p:=hA0
 obtain⟨rfl,rfl⟩:=trodVars_none hV
 have hlt: ∀x∈p,x.block<W.heap.size:=fun x hx=>hW0.lt x (by simp [hx])
 rw [Try.params4]at hA hval
 clear hA0 hval0 hV
 obtain⟨v0,vs0,d0,ds0,p0,q0,hargs,rfl,rfl,h0,r0⟩:=trodAll_cons hA
 obtain⟨rfl,rfl,rfl⟩:=trodAll_nil r0
 obtain rfl:args= #[v0]:=by cases args;simp_all
 obtain⟨a0,w0,g0,m0⟩:=arg_U (lo:=W.heap.size) (hval 0 _ v0 rfl rfl) h0
 have hL:=law a0 m0 g0
 refine(zG4 (cargs:= [v0]) hL (by simp only [vo];exact⟨v0,_,rfl,w0,rfl⟩)).mono fun e W' he=> ?_
 obtain⟨rfl,hb⟩:=he
 exact⟨_,rfl,zG3 lay_law (by rw [Try.params4];decide+kernel) (by kernel_rfl) Try.underlying4 rfl hW0 rfl rfl rfl hb (fun W'=>okWide_bool_mk Try.underlying4 true)⟩
theorem Jt :Rows.fnMemoryTellsRow.holds Try.pinned (OpenSpec.ofChange Rows.fnMemoryTellsSpec):=
 OpenClaim.holds_of_wide 4 Try.f4 rfl rfl rfl rfl rfl rfl rfl ⟨rfl,rfl,rfl,rfl,rfl⟩ rfl rfl rfl rfl rfl (by kernel_rfl) Try.func4 (by kernel_rfl)
  (of_decide_eq_true (by kernel_rfl)) (by unfold Func.isWrapper;first|(rw [if_pos (by decide+kernel)];kernel_rfl)|(rw [if_neg (by decide+kernel)];exact⟨rfl,rfl⟩))
  (fun os started H enc _=>Vt os started H enc)
theorem MemoryTells_holds :Rows.FnMemoryTellsSaid:=Jt
end lawFnMemoryTells
end Go.Proofs.Ytggpbepdeilpgaa
