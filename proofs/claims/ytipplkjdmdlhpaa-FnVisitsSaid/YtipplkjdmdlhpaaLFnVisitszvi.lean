/- The statement on FnVisits: along every play of places the greatest priority is even just if what is met belongs to the family. -/
import Derived.Test.YtipplkjdmdlhpaaB6zvi
import Derived.Test.YtipplkjdmdlhpaaB7zvi
import Derived.Test.YtipplkjdmdlhpaaB14zvi
import Derived.Test.YtipplkjdmdlhpaaB16zvi
import Derived.Test.YtipplkjdmdlhpaaB17zvi
import Derived.Test.YtipplkjdmdlhpaaGWzvi
namespace Go.Proofs.Ytipplkjdmdlhpaa
open Nat renaming reduceMod → zA, reduceMul → zB, reduceDiv → zC, reduceAdd → zD, reduceSub → zE, reduceEqDiff → zF, reduceBEq → zG, reduceLT → zH, reduceLeDiff → zI
open Go.RowKit
set_option linter.unusedVariables false
set_option linter.unusedSimpArgs false
attribute [-push_cast] rm
namespace lawFnVisits
open Go.ChangeShapes Go.WideShapes Go.ChangeAt Go.Joins
theorem own_law :ownKnob Try.prog.godebug=none:=by kernel_rfl
theorem lay_law :laidOutB Try.prog=true:=by kernel_rfl
set_option maxRecDepth 20000 in
set_option maxHeartbeats 8000000 in
theorem law (code:List Int)(hl:code.length≤9223372036854775807)(hbt: ∀k,k<code.length→0≤gi code k∧gi code k≤255):Fn Try.prog tyT 4 [.c (.lst 5 (dU code))] [.c (.bool true)]:=by
 have hBig:=zIB code hl
 refine yB (fn:=Try.f4) (ts:= [2]) Try.func4 (by kernel_rfl) rfl rfl (by rw [Try.ntmps4];exact Nat.le_of_ble_eq_true rfl) rfl (by simp only [szA,List.mem_cons,List.not_mem_nil,or_false,forall_eq_or_imp,forall_eq,VT.cells,szL];try decide) ?_
 rw [Try.ntmps4]
 simp only [push_cast,↓zK,↓zJ,↓reduceIte,zA,zB,zC,zD,zE,zF,zG,zH,zI,reduceCtorEq]
 refine zL fun K hK=> ?_
 refine zM zP zN [] rfl ?_
 all_goals simp only [push_cast,↓zK,↓zJ,↓reduceIte,zA,zB,zC,zD,zE,zF,zG,zH,zI,reduceCtorEq]
 all_goals repeat'(first|(apply zO<;>(intro hg;(try simp only [push_cast]at hg)))|apply And.intro|(intro hg;(try simp only [push_cast]at hg)))
 all_goals first|exact gA|(exact zl (by omega))|skip
 all_goals first|(refine hK _ ?_;clear hK K)|(simp only [push_cast];done)
 refine zL fun K1 hK1=> ?_
 refine zL fun K hK=> ?_
 refine zM zP zN [] rfl ?_
 all_goals refine zx 2 fun K9 hK9=> ?_
 all_goals simp only [push_cast,↓zK,↓zJ,↓reduceIte,zA,zB,zC,zD,zE,zF,zG,zH,zI,reduceCtorEq]
 all_goals repeat'(first|(apply zO<;>(intro hg;(try simp only [push_cast]at hg)))|(refine⟨_,hBig,?_⟩;simp only [push_cast,↓zK,↓zJ,↓reduceIte,zA,zB,zC,zD,zE,zF,zG,zH,zI,reduceCtorEq])|apply And.intro|(intro hg;(try simp only [push_cast]at hg)))
 all_goals first|exact gA|(exact zl (by omega))|skip
 all_goals first|(refine hK9 _ ?_;clear hK9 K9)|(simp only [push_cast];done)
 all_goals simp only [push_cast,↓zK,↓zJ,↓reduceIte,zA,zB,zC,zD,zE,zF,zG,zH,zI,reduceCtorEq]
 all_goals repeat'(first|(apply zO<;>(intro hg;(try simp only [push_cast]at hg)))|(refine⟨_,hBig,?_⟩;simp only [push_cast,↓zK,↓zJ,↓reduceIte,zA,zB,zC,zD,zE,zF,zG,zH,zI,reduceCtorEq])|apply And.intro|(intro hg;(try simp only [push_cast]at hg)))
 all_goals first|exact gA|(exact zl (by omega))|skip
 all_goals first|(refine hK _ ?_;clear hK K)|(simp only [push_cast];done)
 refine zT rfl (fun hc=> ?_) (fun hc=> ?_)<;>(try simp only [push_cast]at hc)
 ·
  refine zL fun K hK=> ?_
  refine zM zP zN [] rfl ?_
  all_goals simp only [push_cast,↓zK,↓zJ,↓reduceIte,zA,zB,zC,zD,zE,zF,zG,zH,zI,reduceCtorEq]
  all_goals repeat'(first|(apply zO<;>(intro hg;(try simp only [push_cast]at hg)))|apply And.intro|(intro hg;(try simp only [push_cast]at hg)))
  all_goals first|exact gA|(exact zl (by omega))|skip
  all_goals first|(refine hK _ ?_;clear hK K)|(simp only [push_cast];done)
  refine zX ?_
  (try simp only [zR,zS])
  refine⟨Or.inl rfl,?_⟩
  simp only [zb,push_cast,↓zK,↓zJ,↓reduceIte,zA,zB,zC,zD,zE,zF,zG,zH,zI,reduceCtorEq]
 ·
  refine zU ?_
  (try simp only [zR,zS,reduceIte,zF]);refine hK1 _ ?_
  have hby:xe code:=⟨by omega,hbt⟩
  have hR:=zF7 code hby 24 (by omega)
  have hA:=zDR code hby 24 0 6 (by omega)
  have hao:=zH8 hby 24 0 (most:=6) (by omega)
  have hno:(arA code 24 0 6).owner.length≤6:=by have h1:=(zBr (code:=code) (seed:=24) (j:=0) (most:=6)).1;have h2:=zDm hby 24 0 (most:=6) (by omega);omega
  generalize arA code 24 0 6=a at hA hao hno
  generalize arJ code 24 0 6=j1 at hA
  have hal:=yT hao
  have haL:=zIA hao
  have hP:=zDS code hby 24 j1 a.owner.length (by omega) 1 (by decide)
  have hpn:=zJE hby 24 j1 (n:=a.owner.length) (by omega) (most:=1) (by decide)
  generalize wpP code 24 a.owner.length j1 1=ps at hP hpn
  generalize wpJ code 24 a.owner.length j1 1=j2 at hP
  have hli:=Zh ps
  have hFO:=UF ps hpn.1 (a.owner.length:Int)
  have hf0:=zD0 ps (a.owner.length:Int)
  generalize YC ps (a.owner.length:Int)=f0 at hFO hf0
  generalize vC ps (a.owner.length:Int)=b0 at hFO
  have hD0:=vd hby 24 j2 2 (by decide)
  have hr0:=wM hby 24 j2 (n:=2) (by decide)
  obtain⟨hf1,hf2⟩:=hf0
  have hf3:=hf2.1
  unfold LnI at hf1
  unfold dAr at hA
  unfold dFm at hFO
  refine zL fun K hK=> ?_
  refine zBE 23 zP zN [] rfl ?_
  simp only [push_cast,↓zK,↓zJ,↓reduceIte,zA,zB,zC,zD,zE,zF,zG,zH,zI,reduceCtorEq]
  all_goals repeat'(first|(apply zO<;>(intro hg;(try simp only [push_cast]at hg)))|(refine⟨_,hR,?_⟩;simp only [push_cast,↓zK,↓zJ,↓reduceIte,zA,zB,zC,zD,zE,zF,zG,zH,zI,reduceCtorEq])|apply And.intro|(intro hg;(try simp only [push_cast]at hg)))
  all_goals first|exact gA|(exact zl (by omega))|skip
  all_goals first|(refine hK _ ?_;clear hK K)|(simp only [push_cast];done)
  refine zL fun K hK=> ?_
  refine zd false zP zN ?_ rfl ?_
  ·kernel_rfl
  all_goals refine zj 2 fun K9 hK9=> ?_
  all_goals simp only [push_cast,↓zK,↓zJ,↓reduceIte,zA,zB,zC,zD,zE,zF,zG,zH,zI,reduceCtorEq]
  all_goals repeat'(first|(apply zO<;>(intro hg;(try simp only [push_cast]at hg)))|(refine⟨_,_,hA,?_⟩;(try simp only [push_cast,↓zK,↓zJ,↓reduceIte,zA,zB,zC,zD,zE,zF,zG,zH,zI,reduceCtorEq]))|apply And.intro|(intro hg;(try simp only [push_cast]at hg)))
  all_goals first|exact gA|(exact zl (by omega))|skip
  all_goals first|(refine hK9 _ ?_;clear hK9 K9)|(simp only [push_cast];done)
  all_goals simp only [push_cast,↓zK,↓zJ,↓reduceIte,zA,zB,zC,zD,zE,zF,zG,zH,zI,reduceCtorEq]
  all_goals repeat'(first|(apply zO<;>(intro hg;(try simp only [push_cast]at hg)))|(refine⟨_,_,hA,?_⟩;(try simp only [push_cast,↓zK,↓zJ,↓reduceIte,zA,zB,zC,zD,zE,zF,zG,zH,zI,reduceCtorEq]))|apply And.intro|(intro hg;(try simp only [push_cast]at hg)))
  all_goals first|exact gA|(exact zl (by omega))|skip
  all_goals first|(refine hK _ ?_;clear hK K)|(simp only [push_cast];done)
  refine yv [.sl 2, .sl 27] 4 ?_
  simp only [push_cast,↓zK,↓zJ,↓reduceIte,zA,zB,zC,zD,zE,zF,zG,zH,zI,reduceCtorEq]
  refine zL fun K hK=> ?_
  refine zM zP zN [] rfl ?_
  all_goals simp only [push_cast,↓zK,↓zJ,↓reduceIte,zA,zB,zC,zD,zE,zF,zG,zH,zI,reduceCtorEq]
  all_goals repeat'(first|(apply zO<;>(intro hg;(try simp only [push_cast]at hg)))|apply And.intro|(intro hg;(try simp only [push_cast]at hg)))
  all_goals first|exact gA|(exact zl (by omega))|skip
  all_goals first|(refine hK _ ?_;clear hK K)|(simp only [push_cast];done)
  refine zL fun K hK=> ?_
  refine zd false zP zN ?_ rfl ?_
  ·kernel_rfl
  all_goals refine zj 3 fun K9 hK9=> ?_
  all_goals simp only [push_cast,↓zK,↓zJ,↓reduceIte,zA,zB,zC,zD,zE,zF,zG,zH,zI,reduceCtorEq]
  all_goals repeat'(first|(apply zO<;>(intro hg;(try simp only [push_cast]at hg)))|(refine⟨_,_,hP,?_⟩;(try simp only [push_cast,↓zK,↓zJ,↓reduceIte,zA,zB,zC,zD,zE,zF,zG,zH,zI,reduceCtorEq]))|(refine⟨_,hFO,?_⟩;simp only [push_cast,↓zK,↓zJ,↓reduceIte,zA,zB,zC,zD,zE,zF,zG,zH,zI,reduceCtorEq])|apply And.intro|(intro hg;(try simp only [push_cast]at hg)))
  all_goals first|exact gA|(exact zl (by omega))|skip
  all_goals first|(refine hK9 _ ?_;clear hK9 K9)|(simp only [push_cast];done)
  all_goals refine zj 2 fun K9 hK9=> ?_
  all_goals simp only [push_cast,↓zK,↓zJ,↓reduceIte,zA,zB,zC,zD,zE,zF,zG,zH,zI,reduceCtorEq]
  all_goals repeat'(first|(apply zO<;>(intro hg;(try simp only [push_cast]at hg)))|(refine⟨_,_,hP,?_⟩;(try simp only [push_cast,↓zK,↓zJ,↓reduceIte,zA,zB,zC,zD,zE,zF,zG,zH,zI,reduceCtorEq]))|(refine⟨_,hFO,?_⟩;simp only [push_cast,↓zK,↓zJ,↓reduceIte,zA,zB,zC,zD,zE,zF,zG,zH,zI,reduceCtorEq])|apply And.intro|(intro hg;(try simp only [push_cast]at hg)))
  all_goals first|exact gA|(exact zl (by omega))|skip
  all_goals first|(refine hK9 _ ?_;clear hK9 K9)|(simp only [push_cast];done)
  all_goals simp only [push_cast,↓zK,↓zJ,↓reduceIte,zA,zB,zC,zD,zE,zF,zG,zH,zI,reduceCtorEq]
  all_goals repeat'(first|(apply zO<;>(intro hg;(try simp only [push_cast]at hg)))|(refine⟨_,_,hP,?_⟩;(try simp only [push_cast,↓zK,↓zJ,↓reduceIte,zA,zB,zC,zD,zE,zF,zG,zH,zI,reduceCtorEq]))|(refine⟨_,hFO,?_⟩;simp only [push_cast,↓zK,↓zJ,↓reduceIte,zA,zB,zC,zD,zE,zF,zG,zH,zI,reduceCtorEq])|apply And.intro|(intro hg;(try simp only [push_cast]at hg)))
  all_goals first|exact gA|(exact zl (by omega))|skip
  all_goals first|(refine hK _ ?_;clear hK K)|(simp only [push_cast];done)
  refine yv [.sl 2, .sl 27] 6 ?_
  simp only [push_cast,↓zK,↓zJ,↓reduceIte,zA,zB,zC,zD,zE,zF,zG,zH,zI,reduceCtorEq]
  refine kc [4,6,8,9,23,37,38,39,40,41,42,43,44,45,46,47,48,49,50,51,52,53,54,55,56,57,58,59,60,61,62,63,64,65,66,67,68,69,70,71,72,73,74] [64,65,96,97] (fun(p:Fm×Nat)=> [(4, .bp 4 0),(6, .bp 6 0)]) (fun p=> [(6,[.sl 96 [] 0 p.1.names.length 2, .sl 97 [] 0 p.1.sets.length 27]),(23,[.sl 0 [] 0 code.length 5, .int .i64 (nI code (p.2)), .int .u64 (nH code 24 (p.2))]),(4,[.sl 64 [] 0 a.owner.length 2, .sl 65 [] 0 a.next.length 27])]) (fun p=> [(96,⟨.ex,2,dI p.1.names,none⟩),(97,⟨.ex,27,dII p.1.sets,none⟩),(64,⟨.ex,2,dI a.owner,none⟩),(65,⟨.ex,27,dII a.next,none⟩)]) (fun p=>p.1.Ln 1048576) ?_ ?_
  ·
   intro K2 hK2
   refine zL fun K hK=> ?_
   refine zd false zP zN ?_ rfl ?_
   ·kernel_rfl
   all_goals refine zj 2 fun K9 hK9=> ?_
   all_goals simp only [push_cast,↓zK,↓zJ,↓reduceIte,zA,zB,zC,zD,zE,zF,zG,zH,zI,reduceCtorEq]
   all_goals repeat'(first|(apply zO<;>(intro hg;(try simp only [push_cast]at hg)))|(refine⟨_,_,hD0,?_⟩;(try simp only [push_cast,↓zK,↓zJ,↓reduceIte,zA,zB,zC,zD,zE,zF,zG,zH,zI,reduceCtorEq]))|apply And.intro|(intro hg;(try simp only [push_cast]at hg)))
   all_goals first|exact gA|(exact zl (by omega))|skip
   all_goals first|(refine hK9 _ ?_;clear hK9 K9)|(simp only [push_cast];done)
   all_goals simp only [push_cast,↓zK,↓zJ,↓reduceIte,zA,zB,zC,zD,zE,zF,zG,zH,zI,reduceCtorEq]
   all_goals repeat'(first|(apply zO<;>(intro hg;(try simp only [push_cast]at hg)))|(refine⟨_,_,hD0,?_⟩;(try simp only [push_cast,↓zK,↓zJ,↓reduceIte,zA,zB,zC,zD,zE,zF,zG,zH,zI,reduceCtorEq]))|apply And.intro|(intro hg;(try simp only [push_cast]at hg)))
   all_goals first|exact gA|(exact zl (by omega))|skip
   all_goals first|(refine hK _ ?_;clear hK K)|(simp only [push_cast];done)
   refine zT rfl (fun hc=> ?_) (fun hc=> ?_)<;>(try simp only [push_cast]at hc)
   ·
    have hS:=KM code hby 24 (j2+1) a.owner.length (by omega)
    have hwl:=XG code 24 (j2+1) a.owner.length
    generalize wsL code 24 (j2+1) a.owner.length=ws at hS hwl
    refine zL fun K hK=> ?_
    refine zd false zP zN ?_ rfl ?_
    ·kernel_rfl
    all_goals refine zj 3 fun K9 hK9=> ?_
    all_goals simp only [push_cast,↓zK,↓zJ,↓reduceIte,zA,zB,zC,zD,zE,zF,zG,zH,zI,reduceCtorEq]
    all_goals repeat'(first|(apply zO<;>(intro hg;(try simp only [push_cast]at hg)))|(refine⟨_,_,hS,?_⟩;(try simp only [push_cast,↓zK,↓zJ,↓reduceIte,zA,zB,zC,zD,zE,zF,zG,zH,zI,reduceCtorEq]))|apply And.intro|(intro hg;(try simp only [push_cast]at hg)))
    all_goals first|exact gA|(exact zl (by omega))|skip
    all_goals first|(refine hK9 _ ?_;clear hK9 K9)|(simp only [push_cast];done)
    all_goals simp only [push_cast,↓zK,↓zJ,↓reduceIte,zA,zB,zC,zD,zE,zF,zG,zH,zI,reduceCtorEq]
    all_goals repeat'(first|(apply zO<;>(intro hg;(try simp only [push_cast]at hg)))|(refine⟨_,_,hS,?_⟩;(try simp only [push_cast,↓zK,↓zJ,↓reduceIte,zA,zB,zC,zD,zE,zF,zG,zH,zI,reduceCtorEq]))|apply And.intro|(intro hg;(try simp only [push_cast]at hg)))
    all_goals first|exact gA|(exact zl (by omega))|skip
    all_goals first|(refine hK _ ?_;clear hK K)|(simp only [push_cast];done)
    refine yv [.sl 2, .sl 27] 6 ?_
    simp only [push_cast,↓zK,↓zJ,↓reduceIte,zA,zB,zC,zD,zE,zF,zG,zH,zI,reduceCtorEq]
    refine kc [4,6,23,44,45,46,47,48,49,50,51] [64,65,96,97] (fun(p:List Int×Nat)=> [(4, .bp 4 0),(6, .bp 6 0)]) (fun p=> [(6,[.sl 96 [] 0 p.2 2, .sl 97 [] 0 0 27]),(23,[.sl 0 [] 0 code.length 5, .int .i64 (nI code (j2+1+a.owner.length)), .int .u64 (nH code 24 (j2+1+a.owner.length))]),(4,[.sl 64 [] 0 a.owner.length 2, .sl 65 [] 0 a.next.length 27])]) (fun p=> [(96,⟨.ex,2,dI p.1,none⟩),(97,⟨.ex,27,[],none⟩),(64,⟨.ex,2,dI a.owner,none⟩),(65,⟨.ex,27,dII a.next,none⟩)]) (fun p=>p.2≤p.1.length∧p.1.length≤256) ?_ ?_
    ·
     intro K3 hK3
     refine zL fun K hK=> ?_
     refine zM zP zN [] rfl ?_
     all_goals simp only [push_cast,↓zK,↓zJ,↓reduceIte,zA,zB,zC,zD,zE,zF,zG,zH,zI,reduceCtorEq]
     all_goals repeat'(first|(apply zO<;>(intro hg;(try simp only [push_cast]at hg)))|apply And.intro|(intro hg;(try simp only [push_cast]at hg)))
     all_goals first|exact gA|(exact zl (by omega))|skip
     all_goals first|(refine hK _ ?_;clear hK K)|(simp only [push_cast];done)
     refine zT rfl (fun hc=> ?_) (fun hc=> ?_)<;>(try simp only [push_cast]at hc)
     ·
      refine zM zP zN [] rfl ?_
      all_goals simp only [push_cast,↓zK,↓zJ,↓reduceIte,zA,zB,zC,zD,zE,zF,zG,zH,zI,reduceCtorEq]
      all_goals repeat'(first|(apply zO<;>(intro hg;(try simp only [push_cast]at hg)))|apply And.intro|(intro hg;(try simp only [push_cast]at hg)))
      all_goals first|exact gA|(exact zl (by omega))|skip
      (try simp only [zR,zS,reduceIte,zF])
      refine hK3 _ ⟨(ws,4),⟨by dsimp only;omega,by dsimp only;omega⟩,?_⟩
      dsimp only
      refine zY rfl ?_ ?_ ?_<;>simp only [zf,ze,push_cast,↓zK,↓zJ,↓reduceIte,zA,zB,zC,zD,zE,zF,zG,zH,zI,reduceCtorEq]
      all_goals first|rfl|exact⟨rfl,rfl⟩|skip
     ·
      refine zU ?_
      (try simp only [zR,zS,reduceIte,zF])
      refine hK3 _ ⟨(ws,ws.length),⟨by dsimp only;omega,by dsimp only;omega⟩,?_⟩
      dsimp only
      refine zY rfl ?_ ?_ ?_<;>simp only [zf,ze,push_cast,↓zK,↓zJ,↓reduceIte,zA,zB,zC,zD,zE,zF,zG,zH,zI,reduceCtorEq]
      all_goals first|rfl|exact⟨rfl,rfl⟩|skip
    ·
     rintro⟨ns,m⟩ ⟨hm,hns⟩
     dsimp only at hm hns
     have hO:=KO ⟨ns.take m,[]⟩ ⟨by show(ns.take m).length≤_;rw [List.length_take];omega,⟨by simp,by simp⟩⟩
     have hoL:=Uz (f:=⟨ns.take m,[]⟩) ⟨by show(ns.take m).length≤_;rw [List.length_take];omega,⟨by simp,by simp⟩⟩
     generalize vv ⟨ns.take m,[]⟩=fo at hO hoL
     have hos:=hoL.sets.1
     have hon:=hoL.names
     have hor: ∀v,(gl fo.sets v).length≤1048576:=fun v=>qt hoL.sets v
     unfold LnI at hon
     obtain⟨j3,hj3⟩: ∃j3,j3=j2+1+a.owner.length:=⟨_,rfl⟩
     rw [←hj3]
     have hD1:=fun i=>vd hby 24 (j3+i) 2 (by decide)
     have hrD:=fun i=>wM hby 24 (j3+i) (n:=2) (by decide)
     unfold dFm at hO
     simp only [push_cast,↓zK,↓zJ,↓reduceIte,zA,zB,zC,zD,zE,zF,zG,zH,zI,reduceCtorEq]
     refine zL fun K hK=> ?_
     refine zM zP zN [] rfl ?_
     all_goals refine zx 2 fun K9 hK9=> ?_
     all_goals simp only [push_cast,↓zK,↓zJ,↓reduceIte,zA,zB,zC,zD,zE,zF,zG,zH,zI,reduceCtorEq]
     all_goals repeat'(first|(apply zO<;>(intro hg;(try simp only [push_cast]at hg)))|(refine⟨_,hO,?_⟩;simp only [push_cast,↓zK,↓zJ,↓reduceIte,zA,zB,zC,zD,zE,zF,zG,zH,zI,reduceCtorEq])|apply And.intro|(intro hg;(try simp only [push_cast]at hg)))
     all_goals first|exact gA|(exact zl (by omega))|skip
     all_goals first|(refine hK9 _ ?_;clear hK9 K9)|(simp only [push_cast];done)
     all_goals simp only [push_cast,↓zK,↓zJ,↓reduceIte,zA,zB,zC,zD,zE,zF,zG,zH,zI,reduceCtorEq]
     all_goals repeat'(first|(apply zO<;>(intro hg;(try simp only [push_cast]at hg)))|(refine⟨_,hO,?_⟩;simp only [push_cast,↓zK,↓zJ,↓reduceIte,zA,zB,zC,zD,zE,zF,zG,zH,zI,reduceCtorEq])|apply And.intro|(intro hg;(try simp only [push_cast]at hg)))
     all_goals first|exact gA|(exact zl (by omega))|skip
     all_goals first|(refine hK _ ?_;clear hK K)|(simp only [push_cast];done)
     refine Uh 848 [0] [.sl 2, .sl 27] 6 ?_
     simp only [push_cast,↓zK,↓zJ,↓reduceIte,zA,zB,zC,zD,zE,zF,zG,zH,zI,reduceCtorEq]
     refine zL fun K hK=> ?_
     refine zd false zP zN ?_ rfl ?_
     ·kernel_rfl
     simp only [push_cast,↓zK,↓zJ,↓reduceIte,zA,zB,zC,zD,zE,zF,zG,zH,zI,reduceCtorEq]
     all_goals repeat'(first|(apply zO<;>(intro hg;(try simp only [push_cast]at hg)))|apply And.intro|(intro hg;(try simp only [push_cast]at hg)))
     all_goals first|exact gA|(exact zl (by omega))|skip
     all_goals first|(refine hK _ ?_;clear hK K)|(simp only [push_cast];done)
     refine zL fun K4 hK4=> ?_
     refine qb 27 8 (Nat.le_of_ble_eq_true rfl) ?_
     simp only [push_cast,↓zK,↓zJ,↓reduceIte,zA,zB,zC,zD,zE,zF,zG,zH,zI,reduceCtorEq]
     refine zL fun K hK=> ?_
     refine zM zP zN [] rfl ?_
     all_goals simp only [push_cast,↓zK,↓zJ,↓reduceIte,zA,zB,zC,zD,zE,zF,zG,zH,zI,reduceCtorEq]
     all_goals repeat'(first|(apply zO<;>(intro hg;(try simp only [push_cast]at hg)))|apply And.intro|(intro hg;(try simp only [push_cast]at hg)))
     all_goals first|exact gA|(exact zl (by omega))|skip
     all_goals first|(refine hK _ ?_;clear hK K)|(simp only [push_cast];done)
     refine zV ?_
     refine zh [4,6,8,9,23,55,56,57,58,59,60,61,62,63,64,65,66,67,68,69,70,71,72] [64,65,848,849,128] (fun(i:Nat)=> [(9, .int .i64 i),(8, .sl 128 [] 0 (kpL (fun i9=>decide (dv code 24 (j3+i9) 2=0)) fo.sets i).length 27),(4, .bp 4 0),(6, .bp 6 0)]) (fun i=> [(6,[.sl 848 [] 0 fo.names.length 2, .sl 849 [] 0 fo.sets.length 27]),(23,[.sl 0 [] 0 code.length 5, .int .i64 (nI code (j3+i)), .int .u64 (nH code 24 (j3+i))]),(4,[.sl 64 [] 0 a.owner.length 2, .sl 65 [] 0 a.next.length 27])]) (fun i=> [(848,⟨.ex,2,dI fo.names,none⟩),(849,⟨.ex,27,vy (fun i9=>decide (dv code 24 (j3+i9) 2=0)) fo.sets i,none⟩),(128,⟨.ex,27,dII (kpL (fun i9=>decide (dv code 24 (j3+i9) 2=0)) fo.sets i),none⟩),(64,⟨.ex,2,dI a.owner,none⟩),(65,⟨.ex,27,dII a.next,none⟩)]) (fun i=>i≤fo.sets.length) (fun i=>fo.sets.length - i) 0 ?_ (by omega) ?_
     ·
      rw [kpL_0,zIl,show dII []= []from rfl]
      refine zY rfl ?_ ?_ ?_<;>simp only [zf,ze,push_cast,↓zK,↓zJ,↓reduceIte,zA,zB,zC,zD,zE,zF,zG,zH,zI,reduceCtorEq]
     ·rintro i hi KL0 hL0
      have hkl:=zER (fun i9=>decide (dv code 24 (j3+i9) 2=0)) fo.sets i
      have hhl:=zFj (q:=(fun i9=>decide (dv code 24 (j3+i9) 2=0))) hi
      have hri:=hor i
      simp only [push_cast,↓zK,↓zJ,↓reduceIte,zA,zB,zC,zD,zE,zF,zG,zH,zI,reduceCtorEq]
      refine zL fun K5 hK5=> ?_
      refine zL fun K hK=> ?_
      refine zM zP zN [] rfl ?_
      all_goals simp only [push_cast,↓zK,↓zJ,↓reduceIte,zA,zB,zC,zD,zE,zF,zG,zH,zI,reduceCtorEq]
      all_goals repeat'(first|(apply zO<;>(intro hg;(try simp only [push_cast]at hg)))|apply And.intro|(intro hg;(try simp only [push_cast]at hg)))
      all_goals first|exact gA|(exact zl (by omega))|skip
      all_goals first|(refine hK _ ?_;clear hK K)|(simp only [push_cast];done)
      refine zT rfl (fun hc=> ?_) (fun hc=> ?_)<;>(try simp only [push_cast]at hc)
      ·
       refine zU ?_
       (try simp only [zR,zS,reduceIte,zF]);refine hK5 _ ?_
       refine zL fun K6 hK6=> ?_
       refine zV ?_
       have hr1:=hrD i
       refine zL fun K hK=> ?_
       refine zd false zP zN ?_ rfl ?_
       ·kernel_rfl
       all_goals refine zj 2 fun K9 hK9=> ?_
       all_goals simp only [push_cast,↓zK,↓zJ,↓reduceIte,zA,zB,zC,zD,zE,zF,zG,zH,zI,reduceCtorEq]
       all_goals repeat'(first|(apply zO<;>(intro hg;(try simp only [push_cast]at hg)))|(refine⟨_,_,hD1 i,?_⟩;(try simp only [push_cast,↓zK,↓zJ,↓reduceIte,zA,zB,zC,zD,zE,zF,zG,zH,zI,reduceCtorEq]))|apply And.intro|(intro hg;(try simp only [push_cast]at hg)))
       all_goals first|exact gA|(exact zl (by omega))|skip
       all_goals first|(refine hK9 _ ?_;clear hK9 K9)|(simp only [push_cast];done)
       all_goals simp only [push_cast,↓zK,↓zJ,↓reduceIte,zA,zB,zC,zD,zE,zF,zG,zH,zI,reduceCtorEq]
       all_goals repeat'(first|(apply zO<;>(intro hg;(try simp only [push_cast]at hg)))|(refine⟨_,_,hD1 i,?_⟩;(try simp only [push_cast,↓zK,↓zJ,↓reduceIte,zA,zB,zC,zD,zE,zF,zG,zH,zI,reduceCtorEq]))|apply And.intro|(intro hg;(try simp only [push_cast]at hg)))
       all_goals first|exact gA|(exact zl (by omega))|skip
       all_goals first|(refine hK _ ?_;clear hK K)|(simp only [push_cast];done)
       refine zT rfl (fun hc=> ?_) (fun hc=> ?_)<;>(try simp only [push_cast]at hc)
       ·
        refine zd false zP zN ?_ rfl ?_
        ·kernel_rfl
        simp only [push_cast,↓zK,↓zJ,↓reduceIte,zA,zB,zC,zD,zE,zF,zG,zH,zI,reduceCtorEq]
        all_goals repeat'(first|(apply zO<;>(intro hg;(try simp only [push_cast]at hg)))|apply And.intro|(intro hg;(try simp only [push_cast]at hg)))
        all_goals first|exact gA|(exact zl (by omega))|skip
        (try simp only [zR,zS,reduceIte,zF]);refine hK6 _ ?_
        refine qb 27 8 (Nat.le_of_ble_eq_true rfl) ?_
        simp only [push_cast,↓zK,↓zJ,↓reduceIte,zA,zB,zC,zD,zE,zF,zG,zH,zI,reduceCtorEq]
        refine zM zP zN [] rfl ?_
        all_goals simp only [push_cast,↓zK,↓zJ,↓reduceIte,zA,zB,zC,zD,zE,zF,zG,zH,zI,reduceCtorEq]
        all_goals repeat'(first|(apply zO<;>(intro hg;(try simp only [push_cast]at hg)))|apply And.intro|(intro hg;(try simp only [push_cast]at hg)))
        all_goals first|exact gA|(exact zl (by omega))|skip
        refine hL0 _ ⟨i+1,by omega,by omega,?_⟩
        rw [zHN (decide_eq_true hc),←zFc (by omega) (decide_eq_true hc)]
        refine zY rfl ?_ ?_ ?_<;>simp only [zf,ze,push_cast,↓zK,↓zJ,↓reduceIte,zA,zB,zC,zD,zE,zF,zG,zH,zI,reduceCtorEq]
        all_goals first|exact rfl|exact⟨rfl,rfl⟩|(rw [List.length_append];rfl)|skip
       ·
        refine zU ?_
        (try simp only [zR,zS,reduceIte,zF]);refine hK6 _ ?_
        refine qb 27 8 (Nat.le_of_ble_eq_true rfl) ?_
        simp only [push_cast,↓zK,↓zJ,↓reduceIte,zA,zB,zC,zD,zE,zF,zG,zH,zI,reduceCtorEq]
        refine zM zP zN [] rfl ?_
        all_goals simp only [push_cast,↓zK,↓zJ,↓reduceIte,zA,zB,zC,zD,zE,zF,zG,zH,zI,reduceCtorEq]
        all_goals repeat'(first|(apply zO<;>(intro hg;(try simp only [push_cast]at hg)))|apply And.intro|(intro hg;(try simp only [push_cast]at hg)))
        all_goals first|exact gA|(exact zl (by omega))|skip
        refine hL0 _ ⟨i+1,by omega,by omega,?_⟩
        rw [zIs (decide_eq_false hc),←zEM (by omega) (decide_eq_false hc)]
        refine zY rfl ?_ ?_ ?_<;>simp only [zf,ze,push_cast,↓zK,↓zJ,↓reduceIte,zA,zB,zC,zD,zE,zF,zG,zH,zI,reduceCtorEq]
        all_goals first|exact rfl|exact⟨rfl,rfl⟩|(rw [List.length_append];rfl)|skip
      ·
       refine zk ?_
       have hii:i=fo.sets.length:=by omega
       subst hii
       (try simp only [zR,zS,reduceIte,zF]);refine hK4 _ ?_
       refine Ug [849] [.sl 2, .sl 27] 6 ?_
       simp only [push_cast,↓zK,↓zJ,↓reduceIte,zA,zB,zC,zD,zE,zF,zG,zH,zI,reduceCtorEq]
       refine zCe 27 8 97 (Nat.le_of_ble_eq_true rfl) ?_
       simp only [push_cast,↓zK,↓zJ,↓reduceIte,zA,zB,zC,zD,zE,zF,zG,zH,zI,reduceCtorEq]
       refine zM zP zN [] rfl ?_
       all_goals simp only [push_cast,↓zK,↓zJ,↓reduceIte,zA,zB,zC,zD,zE,zF,zG,zH,zI,reduceCtorEq]
       all_goals repeat'(first|(apply zO<;>(intro hg;(try simp only [push_cast]at hg)))|apply And.intro|(intro hg;(try simp only [push_cast]at hg)))
       all_goals first|exact gA|(exact zl (by omega))|skip
       (try simp only [zR,zS,reduceIte,zF])
       refine hK2 _ ⟨(⟨fo.names,kpL (fun i9=>decide (dv code 24 (j3+i9) 2=0)) fo.sets fo.sets.length⟩,j3+fo.sets.length),⟨hoL.names,zIr hoL.sets hos⟩,?_⟩
       dsimp only
       refine zY rfl ?_ ?_ ?_<;>simp only [zf,ze,push_cast,↓zK,↓zJ,↓reduceIte,zA,zB,zC,zD,zE,zF,zG,zH,zI,reduceCtorEq]
       all_goals first|rfl|exact⟨rfl,rfl⟩|skip
   ·
    refine zU ?_
    (try simp only [zR,zS,reduceIte,zF])
    refine hK2 _ ⟨(f0,j2+1),⟨hf1,hf2⟩,?_⟩
    dsimp only
    refine zY rfl ?_ ?_ ?_<;>simp only [zf,ze,push_cast,↓zK,↓zJ,↓reduceIte,zA,zB,zC,zD,zE,zF,zG,zH,zI,reduceCtorEq]
    all_goals first|rfl|exact⟨rfl,rfl⟩|skip
  ·
   rintro⟨f,j⟩ hfL
   dsimp only at hfL
   have hfn:=hfL.names
   have hfs:=hfL.sets.1
   unfold LnI at hfn
   simp only [push_cast,↓zK,↓zJ,↓reduceIte,zA,zB,zC,zD,zE,zF,zG,zH,zI,reduceCtorEq]
   have hD2:=vd hby 24 j (a.owner.length:Int) (by omega)
   have hr2:=wM hby 24 j (n:=(a.owner.length:Int)) (by omega)
   generalize dv code 24 j (a.owner.length:Int)=s at hD2 hr2
   have hCp:=zE4 a haL
   have hG:=jZ a haL f hfL s
   have hGS:=ja a haL f hfL s
   unfold dAr at hCp hG hGS
   unfold dFm at hG hGS
   unfold dPa at hG hGS
   refine zL fun K hK=> ?_
   refine zd false zP zN ?_ rfl ?_
   ·kernel_rfl
   all_goals refine zj 3 fun K9 hK9=> ?_
   all_goals simp only [push_cast,↓zK,↓zJ,↓reduceIte,zA,zB,zC,zD,zE,zF,zG,zH,zI,reduceCtorEq]
   all_goals repeat'(first|(apply zO<;>(intro hg;(try simp only [push_cast]at hg)))|(refine⟨_,_,hD2,?_⟩;(try simp only [push_cast,↓zK,↓zJ,↓reduceIte,zA,zB,zC,zD,zE,zF,zG,zH,zI,reduceCtorEq]))|apply And.intro|(intro hg;(try simp only [push_cast]at hg)))
   all_goals first|exact gA|(exact zl (by omega))|skip
   all_goals first|(refine hK9 _ ?_;clear hK9 K9)|(simp only [push_cast];done)
   all_goals simp only [push_cast,↓zK,↓zJ,↓reduceIte,zA,zB,zC,zD,zE,zF,zG,zH,zI,reduceCtorEq]
   all_goals repeat'(first|(apply zO<;>(intro hg;(try simp only [push_cast]at hg)))|(refine⟨_,_,hD2,?_⟩;(try simp only [push_cast,↓zK,↓zJ,↓reduceIte,zA,zB,zC,zD,zE,zF,zG,zH,zI,reduceCtorEq]))|apply And.intro|(intro hg;(try simp only [push_cast]at hg)))
   all_goals first|exact gA|(exact zl (by omega))|skip
   all_goals first|(refine hK _ ?_;clear hK K)|(simp only [push_cast];done)
   refine zL fun K hK=> ?_
   refine zw false zP zN yj ?_ rfl ?_
   ·kernel_rfl
   intro E hE
   all_goals refine yJ 2 (by decide) fun K9 hK9=> ?_
   all_goals simp only [push_cast,↓zK,↓zJ,↓reduceIte,zA,zB,zC,zD,zE,zF,zG,zH,zI,reduceCtorEq]
   all_goals repeat'(first|(apply zO<;>(intro hg;(try simp only [push_cast]at hg)))|(refine⟨_,hCp,?_⟩;simp only [push_cast,↓zK,↓zJ,↓reduceIte,zA,zB,zC,zD,zE,zF,zG,zH,zI,reduceCtorEq])|(refine⟨_,hG,?_⟩;simp only [push_cast,↓zK,↓zJ,↓reduceIte,zA,zB,zC,zD,zE,zF,zG,zH,zI,reduceCtorEq])|apply And.intro|(intro hg;(try simp only [push_cast]at hg)))
   all_goals first|exact gA|(exact zl (by omega))|skip
   all_goals first|(refine hK9 _ _ ?_;clear hK9 K9)|(simp only [push_cast];done)
   all_goals refine yJ 3 (by decide) fun K9 hK9=> ?_
   all_goals simp only [push_cast,↓zK,↓zJ,↓reduceIte,zA,zB,zC,zD,zE,zF,zG,zH,zI,reduceCtorEq]
   all_goals repeat'(first|(apply zO<;>(intro hg;(try simp only [push_cast]at hg)))|(refine⟨_,hCp,?_⟩;simp only [push_cast,↓zK,↓zJ,↓reduceIte,zA,zB,zC,zD,zE,zF,zG,zH,zI,reduceCtorEq])|(refine⟨_,hG,?_⟩;simp only [push_cast,↓zK,↓zJ,↓reduceIte,zA,zB,zC,zD,zE,zF,zG,zH,zI,reduceCtorEq])|apply And.intro|(intro hg;(try simp only [push_cast]at hg)))
   all_goals first|exact gA|(exact zl (by omega))|skip
   all_goals first|(refine hK9 _ _ ?_;clear hK9 K9)|(simp only [push_cast];done)
   all_goals simp only [push_cast,↓zK,↓zJ,↓reduceIte,zA,zB,zC,zD,zE,zF,zG,zH,zI,reduceCtorEq]
   all_goals repeat'(first|(apply zO<;>(intro hg;(try simp only [push_cast]at hg)))|(refine⟨_,hCp,?_⟩;simp only [push_cast,↓zK,↓zJ,↓reduceIte,zA,zB,zC,zD,zE,zF,zG,zH,zI,reduceCtorEq])|(refine⟨_,hG,?_⟩;simp only [push_cast,↓zK,↓zJ,↓reduceIte,zA,zB,zC,zD,zE,zF,zG,zH,zI,reduceCtorEq])|apply And.intro|(intro hg;(try simp only [push_cast]at hg)))
   all_goals first|exact gA|(refine hE _ _ ?_ ?_;kernel_rfl)|(exact zl (by omega))|skip
   all_goals clear hE E
   all_goals first|(refine hK _ ?_;clear hK K)|(simp only [push_cast];done)
   refine zL fun K hK=> ?_
   refine zM zP zN [] rfl ?_
   all_goals refine zx 4 fun K9 hK9=> ?_
   all_goals simp only [push_cast,↓zK,↓zJ,↓reduceIte,zA,zB,zC,zD,zE,zF,zG,zH,zI,reduceCtorEq]
   all_goals repeat'(first|(apply zO<;>(intro hg;(try simp only [push_cast]at hg)))|(refine⟨_,hGS,?_⟩;simp only [push_cast,↓zK,↓zJ,↓reduceIte,zA,zB,zC,zD,zE,zF,zG,zH,zI,reduceCtorEq])|apply And.intro|(intro hg;(try simp only [push_cast]at hg)))
   all_goals first|exact gA|(exact zl (by omega))|skip
   all_goals first|(refine hK9 _ ?_;clear hK9 K9)|(simp only [push_cast];done)
   all_goals simp only [push_cast,↓zK,↓zJ,↓reduceIte,zA,zB,zC,zD,zE,zF,zG,zH,zI,reduceCtorEq]
   all_goals repeat'(first|(apply zO<;>(intro hg;(try simp only [push_cast]at hg)))|(refine⟨_,hGS,?_⟩;simp only [push_cast,↓zK,↓zJ,↓reduceIte,zA,zB,zC,zD,zE,zF,zG,zH,zI,reduceCtorEq])|apply And.intro|(intro hg;(try simp only [push_cast]at hg)))
   all_goals first|exact gA|(exact zl (by omega))|skip
   all_goals first|(refine hK _ ?_;clear hK K)|(simp only [push_cast];done)
   refine zL fun K7 hK7=> ?_
   refine zL fun K hK=> ?_
   refine zd false zP zN ?_ rfl ?_
   ·kernel_rfl
   all_goals simp only [push_cast,↓zK,↓zJ,↓reduceIte,zA,zB,zC,zD,zE,zF,zG,zH,zI,reduceCtorEq]
   all_goals repeat'(first|(apply zO<;>(intro hg;(try simp only [push_cast]at hg)))|apply And.intro|(intro hg;(try simp only [push_cast]at hg)))
   all_goals first|exact gA|(exact zl (by omega))|skip
   all_goals first|(refine hK _ ?_;clear hK K)|(simp only [push_cast];done)
   all_goals refine zT rfl (fun hc=> ?_) (fun hc=> ?_)
   all_goals(first|(cases hc;done)|skip)
   all_goals(try simp only [push_cast]at hc)
   all_goals try(
     refine zL fun K hK=> ?_
     refine zM zP zN [] rfl ?_
     all_goals simp only [push_cast,↓zK,↓zJ,↓reduceIte,zA,zB,zC,zD,zE,zF,zG,zH,zI,reduceCtorEq]
     all_goals repeat'(first|(apply zO<;>(intro hg;(try simp only [push_cast]at hg)))|apply And.intro|(intro hg;(try simp only [push_cast]at hg)))
     all_goals first|exact gA|(exact zl (by omega))|skip
     all_goals first|(refine hK _ ?_;clear hK K)|(simp only [push_cast];done)
     refine zX ?_
     (try simp only [zR,zS])
     refine⟨Or.inl rfl,?_⟩
     simp only [zb,push_cast,↓zK,↓zJ,↓reduceIte,zA,zB,zC,zD,zE,zF,zG,zH,zI,reduceCtorEq]
     done)
   refine zU ?_
   (try simp only [zR,zS,reduceIte,zF]);refine hK7 _ ?_
   refine zL fun K8 hK8=> ?_
   have hok:fgB a f s=true:=hc
   have hgp:=zD6 hok
   have hgl:=zG7 (a:=a) (f:=f) (s:=s)
   have hpl:=zG8 hok
   have hga:=(Yy hgp).1
   have hlaw:=fun l hl=>zDQ (l:=l) hok hl
   have hSame:=KU (fgG a f s) hgl hgp
   generalize fgG a f s=g at*
   generalize fgP a f s=pls at*
   unfold dPa at hSame
   have hql:=hpl.1
   refine zL fun K hK=> ?_
   refine zd false zP zN ?_ rfl ?_
   ·kernel_rfl
   all_goals refine zj 3 fun K9 hK9=> ?_
   all_goals simp only [push_cast,↓zK,↓zJ,↓reduceIte,zA,zB,zC,zD,zE,zF,zG,zH,zI,reduceCtorEq]
   all_goals repeat'(first|(apply zO<;>(intro hg;(try simp only [push_cast]at hg)))|(refine⟨_,hSame,?_⟩;simp only [push_cast,↓zK,↓zJ,↓reduceIte,zA,zB,zC,zD,zE,zF,zG,zH,zI,reduceCtorEq])|apply And.intro|(intro hg;(try simp only [push_cast]at hg)))
   all_goals first|exact gA|(exact zl (by omega))|skip
   all_goals first|(refine hK9 _ ?_;clear hK9 K9)|(simp only [push_cast];done)
   all_goals simp only [push_cast,↓zK,↓zJ,↓reduceIte,zA,zB,zC,zD,zE,zF,zG,zH,zI,reduceCtorEq]
   all_goals repeat'(first|(apply zO<;>(intro hg;(try simp only [push_cast]at hg)))|(refine⟨_,hSame,?_⟩;simp only [push_cast,↓zK,↓zJ,↓reduceIte,zA,zB,zC,zD,zE,zF,zG,zH,zI,reduceCtorEq])|apply And.intro|(intro hg;(try simp only [push_cast]at hg)))
   all_goals first|exact gA|(exact zl (by omega))|skip
   all_goals first|(refine hK _ ?_;clear hK K)|(simp only [push_cast];done)
   all_goals(
     refine zT rfl (fun hc=> ?_) (fun hc=> ?_)
     skip
     ·exfalso;first|(cases hc;done)|(simp only [push_cast]at hc;done)|(simp only [push_cast]at hc;omega)|omega
     refine zU ?_
     (try simp only [zR,zS,reduceIte,zF]);refine hK8 _ ?_
     have hgn:=yT hga
     have hP0:=uY code hby 24 (j+1) g.a hga 0
     have hP1:=uY code hby 24 (pJ g.a 0 (j+1) g.a.owner.length) g.a hga 1
     have hfl0:=zCA hby 24 hga 0 (j+1)
     have hfl1:=zCA hby 24 hga 1 (pJ g.a 0 (j+1) g.a.owner.length)
     have hp0l:=QP code 24 g.a 0 (j+1) g.a.owner.length
     have hp1l:=QP code 24 g.a 1 (pJ g.a 0 (j+1) g.a.owner.length) g.a.owner.length
     have hPl:=zDZ g.a hgl.a hga _ _ hfl0 hfl1 0 (by omega)
     have hPP:=(zCD hga hfl0 hfl1 (v0:=0) (by omega)).ok
     have hlL:=zEl g.a (pL code 24 g.a 0 (j+1) g.a.owner.length) (pL code 24 g.a 1 (pJ g.a 0 (j+1) g.a.owner.length) g.a.owner.length) 0
     clear hfl0 hfl1
     generalize pL code 24 g.a 1 (pJ g.a 0 (j+1) g.a.owner.length) g.a.owner.length=odd at*
     generalize pJ g.a 1 (pJ g.a 0 (j+1) g.a.owner.length) g.a.owner.length=j6 at*
     generalize pL code 24 g.a 0 (j+1) g.a.owner.length=even at*
     generalize pJ g.a 0 (j+1) g.a.owner.length=j5 at*
     generalize VE g.a even odd 0=l at*
     unfold dAr at hP0 hP1 hPl
     unfold dLs at hPl
     have hll:=wa hPP
     refine zL fun K hK=> ?_
     refine zw false zP zN yj ?_ rfl ?_
     ·kernel_rfl
     intro E hE
     all_goals refine yJ 6 (by decide) fun K9 hK9=> ?_
     all_goals simp only [push_cast,↓zK,↓zJ,↓reduceIte,zA,zB,zC,zD,zE,zF,zG,zH,zI,reduceCtorEq]
     all_goals repeat'(first|(apply zO<;>(intro hg;(try simp only [push_cast]at hg)))|(refine⟨_,_,hP0,?_⟩;(try simp only [push_cast,↓zK,↓zJ,↓reduceIte,zA,zB,zC,zD,zE,zF,zG,zH,zI,reduceCtorEq]))|(refine⟨_,_,hP1,?_⟩;(try simp only [push_cast,↓zK,↓zJ,↓reduceIte,zA,zB,zC,zD,zE,zF,zG,zH,zI,reduceCtorEq]))|(refine⟨_,hPl,?_⟩;simp only [push_cast,↓zK,↓zJ,↓reduceIte,zA,zB,zC,zD,zE,zF,zG,zH,zI,reduceCtorEq])|apply And.intro|(intro hg;(try simp only [push_cast]at hg)))
     all_goals first|exact gA|(exact zl (by omega))|skip
     all_goals first|(refine hK9 _ _ ?_;clear hK9 K9)|(simp only [push_cast];done)
     all_goals refine yJ 4 (by decide) fun K9 hK9=> ?_
     all_goals simp only [push_cast,↓zK,↓zJ,↓reduceIte,zA,zB,zC,zD,zE,zF,zG,zH,zI,reduceCtorEq]
     all_goals repeat'(first|(apply zO<;>(intro hg;(try simp only [push_cast]at hg)))|(refine⟨_,_,hP0,?_⟩;(try simp only [push_cast,↓zK,↓zJ,↓reduceIte,zA,zB,zC,zD,zE,zF,zG,zH,zI,reduceCtorEq]))|(refine⟨_,_,hP1,?_⟩;(try simp only [push_cast,↓zK,↓zJ,↓reduceIte,zA,zB,zC,zD,zE,zF,zG,zH,zI,reduceCtorEq]))|(refine⟨_,hPl,?_⟩;simp only [push_cast,↓zK,↓zJ,↓reduceIte,zA,zB,zC,zD,zE,zF,zG,zH,zI,reduceCtorEq])|apply And.intro|(intro hg;(try simp only [push_cast]at hg)))
     all_goals first|exact gA|(exact zl (by omega))|skip
     all_goals first|(refine hK9 _ _ ?_;clear hK9 K9)|(simp only [push_cast];done)
     all_goals refine yJ 1 (by decide) fun K9 hK9=> ?_
     all_goals simp only [push_cast,↓zK,↓zJ,↓reduceIte,zA,zB,zC,zD,zE,zF,zG,zH,zI,reduceCtorEq]
     all_goals repeat'(first|(apply zO<;>(intro hg;(try simp only [push_cast]at hg)))|(refine⟨_,_,hP0,?_⟩;(try simp only [push_cast,↓zK,↓zJ,↓reduceIte,zA,zB,zC,zD,zE,zF,zG,zH,zI,reduceCtorEq]))|(refine⟨_,_,hP1,?_⟩;(try simp only [push_cast,↓zK,↓zJ,↓reduceIte,zA,zB,zC,zD,zE,zF,zG,zH,zI,reduceCtorEq]))|(refine⟨_,hPl,?_⟩;simp only [push_cast,↓zK,↓zJ,↓reduceIte,zA,zB,zC,zD,zE,zF,zG,zH,zI,reduceCtorEq])|apply And.intro|(intro hg;(try simp only [push_cast]at hg)))
     all_goals first|exact gA|(exact zl (by omega))|skip
     all_goals first|(refine hK9 _ _ ?_;clear hK9 K9)|(simp only [push_cast];done)
     all_goals simp only [push_cast,↓zK,↓zJ,↓reduceIte,zA,zB,zC,zD,zE,zF,zG,zH,zI,reduceCtorEq]
     all_goals repeat'(first|(apply zO<;>(intro hg;(try simp only [push_cast]at hg)))|(refine⟨_,_,hP0,?_⟩;(try simp only [push_cast,↓zK,↓zJ,↓reduceIte,zA,zB,zC,zD,zE,zF,zG,zH,zI,reduceCtorEq]))|(refine⟨_,_,hP1,?_⟩;(try simp only [push_cast,↓zK,↓zJ,↓reduceIte,zA,zB,zC,zD,zE,zF,zG,zH,zI,reduceCtorEq]))|(refine⟨_,hPl,?_⟩;simp only [push_cast,↓zK,↓zJ,↓reduceIte,zA,zB,zC,zD,zE,zF,zG,zH,zI,reduceCtorEq])|apply And.intro|(intro hg;(try simp only [push_cast]at hg)))
     all_goals first|exact gA|(refine hE _ _ ?_ ?_;kernel_rfl)|(exact zl (by omega))|skip
     all_goals clear hE E
     all_goals first|(refine hK _ ?_;clear hK K)|(simp only [push_cast];done)
     obtain⟨⟨hL1,hL2⟩,hL3,hL4⟩:=hlaw l hPP
     have hPL:=jb pls hpl l (by omega) (by omega) hL1 hL2
     have hsl:=qk pls l.stem
     have hol:=qk pls l.loop
     have hLO:=zA3 a ⟨atL pls l.stem,atL pls l.loop⟩ haL ⟨by show(atL pls l.stem).length≤_;omega,by show(atL pls l.loop).length≤_;omega⟩
     rw [hao,hL3]at hLO
     have hPW:=zA5 g hgl hgp l hlL hPP
     have hMt:=zGM a.owner.length (by omega) (atL pls l.loop) (by omega)
     have hml:=jx (atL pls l.loop) a.owner.length
     have hFM:=ub f hfL (vV (atL pls l.loop) a.owner.length) (by omega)
     clear hL1 hL2 hL3 hlaw
     generalize vV (atL pls l.loop) a.owner.length=met9 at*
     generalize atL pls l.stem=st9 at*
     generalize atL pls l.loop=lo9 at*
     generalize wD g l.loop l.loop.length=top9 at*
     generalize ZP f met9=fm9 at*
     unfold dLs at hPL hLO hPW
     unfold dAr at hLO
     unfold dPa at hPW
     unfold dFm at hFM
     refine zL fun K hK=> ?_
     refine zM zP zN [] rfl ?_
     all_goals refine zx 3 fun K9 hK9=> ?_
     all_goals simp only [push_cast,↓zK,↓zJ,↓reduceIte,zA,zB,zC,zD,zE,zF,zG,zH,zI,reduceCtorEq]
     all_goals repeat'(first|(apply zO<;>(intro hg;(try simp only [push_cast]at hg)))|(refine⟨_,hPL,?_⟩;simp only [push_cast,↓zK,↓zJ,↓reduceIte,zA,zB,zC,zD,zE,zF,zG,zH,zI,reduceCtorEq])|apply And.intro|(intro hg;(try simp only [push_cast]at hg)))
     all_goals first|exact gA|(exact zl (by omega))|skip
     all_goals first|(refine hK9 _ ?_;clear hK9 K9)|(simp only [push_cast];done)
     all_goals simp only [push_cast,↓zK,↓zJ,↓reduceIte,zA,zB,zC,zD,zE,zF,zG,zH,zI,reduceCtorEq]
     all_goals repeat'(first|(apply zO<;>(intro hg;(try simp only [push_cast]at hg)))|(refine⟨_,hPL,?_⟩;simp only [push_cast,↓zK,↓zJ,↓reduceIte,zA,zB,zC,zD,zE,zF,zG,zH,zI,reduceCtorEq])|apply And.intro|(intro hg;(try simp only [push_cast]at hg)))
     all_goals first|exact gA|(exact zl (by omega))|skip
     all_goals first|(refine hK _ ?_;clear hK K)|(simp only [push_cast];done)
     refine zL fun K hK=> ?_
     refine zw false zP zN yj ?_ rfl ?_
     ·kernel_rfl
     intro E hE
     all_goals refine yJ 3 (by decide) fun K9 hK9=> ?_
     all_goals simp only [push_cast,↓zK,↓zJ,↓reduceIte,zA,zB,zC,zD,zE,zF,zG,zH,zI,reduceCtorEq]
     all_goals repeat'(first|(apply zO<;>(intro hg;(try simp only [push_cast]at hg)))|(refine⟨_,hLO,?_⟩;simp only [push_cast,↓zK,↓zJ,↓reduceIte,zA,zB,zC,zD,zE,zF,zG,zH,zI,reduceCtorEq])|apply And.intro|(intro hg;(try simp only [push_cast]at hg)))
     all_goals first|exact gA|(exact zl (by omega))|skip
     all_goals first|(refine hK9 _ _ ?_;clear hK9 K9)|(simp only [push_cast];done)
     all_goals refine yJ 4 (by decide) fun K9 hK9=> ?_
     all_goals simp only [push_cast,↓zK,↓zJ,↓reduceIte,zA,zB,zC,zD,zE,zF,zG,zH,zI,reduceCtorEq]
     all_goals repeat'(first|(apply zO<;>(intro hg;(try simp only [push_cast]at hg)))|(refine⟨_,hPW,?_⟩;simp only [push_cast,↓zK,↓zJ,↓reduceIte,zA,zB,zC,zD,zE,zF,zG,zH,zI,reduceCtorEq])|apply And.intro|(intro hg;(try simp only [push_cast]at hg)))
     all_goals first|exact gA|(exact zl (by omega))|skip
     all_goals first|(refine hK9 _ _ ?_;clear hK9 K9)|(simp only [push_cast];done)
     all_goals refine yJ 6 (by decide) fun K9 hK9=> ?_
     all_goals simp only [push_cast,↓zK,↓zJ,↓reduceIte,zA,zB,zC,zD,zE,zF,zG,zH,zI,reduceCtorEq]
     all_goals repeat'(first|(apply zO<;>(intro hg;(try simp only [push_cast]at hg)))|(refine⟨_,hMt,?_⟩;simp only [push_cast,↓zK,↓zJ,↓reduceIte,zA,zB,zC,zD,zE,zF,zG,zH,zI,reduceCtorEq])|apply And.intro|(intro hg;(try simp only [push_cast]at hg)))
     all_goals first|exact gA|(exact zl (by omega))|skip
     all_goals first|(refine hK9 _ _ ?_;clear hK9 K9)|(simp only [push_cast];done)
     all_goals refine yJ 1 (by decide) fun K9 hK9=> ?_
     all_goals simp only [push_cast,↓zK,↓zJ,↓reduceIte,zA,zB,zC,zD,zE,zF,zG,zH,zI,reduceCtorEq]
     all_goals repeat'(first|(apply zO<;>(intro hg;(try simp only [push_cast]at hg)))|(refine⟨_,hFM,?_⟩;simp only [push_cast,↓zK,↓zJ,↓reduceIte,zA,zB,zC,zD,zE,zF,zG,zH,zI,reduceCtorEq])|apply And.intro|(intro hg;(try simp only [push_cast]at hg)))
     all_goals first|exact gA|(exact zl (by omega))|skip
     all_goals first|(refine hK9 _ _ ?_;clear hK9 K9)|(simp only [push_cast];done)
     all_goals simp only [push_cast,↓zK,↓zJ,↓reduceIte,zA,zB,zC,zD,zE,zF,zG,zH,zI,reduceCtorEq]
     all_goals repeat'(first|(apply zO<;>(intro hg;(try simp only [push_cast]at hg)))|(refine⟨_,hLO,?_⟩;simp only [push_cast,↓zK,↓zJ,↓reduceIte,zA,zB,zC,zD,zE,zF,zG,zH,zI,reduceCtorEq])|(refine⟨_,hPW,?_⟩;simp only [push_cast,↓zK,↓zJ,↓reduceIte,zA,zB,zC,zD,zE,zF,zG,zH,zI,reduceCtorEq])|(refine⟨_,hMt,?_⟩;simp only [push_cast,↓zK,↓zJ,↓reduceIte,zA,zB,zC,zD,zE,zF,zG,zH,zI,reduceCtorEq])|(refine⟨_,hFM,?_⟩;simp only [push_cast,↓zK,↓zJ,↓reduceIte,zA,zB,zC,zD,zE,zF,zG,zH,zI,reduceCtorEq])|apply And.intro|(intro hg;(try simp only [push_cast]at hg)))
     all_goals first|exact gA|(refine hE _ _ ?_ ?_;kernel_rfl)|(exact zl (by omega))|skip
     all_goals clear hE E
     all_goals first|(refine hK _ ?_;clear hK K)|(simp only [push_cast];done)
     all_goals(
       refine zX ?_
       (try simp only [zR,zS])
       refine⟨Or.inl rfl,?_⟩
       simp only [zb,push_cast,↓zK,↓zJ,↓reduceIte,zA,zB,zC,zD,zE,zF,zG,zH,zI,reduceCtorEq]
       all_goals(rw [Bool.eq_iff_iff,beq_iff_eq];exact hL4)))
set_option maxRecDepth 100000 in
theorem uc (os:Os)(started:os.Started)(H:Type)(enc:TypeId×Value→H):
  ReturnsInHanded {} Try.checked os 4 .any (Rows.fnVisitsSpec.pre6 enc Try.prog Try.f4 Rows.fnVisitsRow.domain false) (Rows.fnVisitsSpec.post enc Try.prog Try.f4 false true false false):=by
 refine returnsInHanded_of_change (C:=Try.checked) own_law started (by kernel_rfl) Try.func4
  (ChangeSpec.witness6 (enc:=enc) (C:=Try.checked) false ⟨#[],#[.slice none 0 0],[]⟩ 8 (by kernel_rfl) (by kernel_rfl) (by kernel_rfl) (by kernel_rfl)) ?_
 intro W base args ds gs before hval0 hW hcnd _
 have hval: ∀(j:Nat) t v,Try.f4.params[j]? =some t→args[j]? =some v→Value.okWide Try.prog W .any base t v:=hval0
 have hW0:=hW
 obtain⟨p,q,hA0,hV,rfl,hfz,hnd⟩:=hW
 have hA:DataW.TrodAll enc Try.prog W 0 (fun _=>true) true Try.f4.params.toList args.toList ds p:=hA0
 obtain⟨rfl,rfl⟩:=trodVars_none hV
 have hlt: ∀x∈p,x.block<W.heap.size:=fun x hx=>hW0.lt x (by simp [hx])
 rw [Try.params4]at hA hval
 clear hA0 hval0 hV
 obtain⟨v0,vs0,d0,ds0,p0,q0,hargs,rfl,rfl,h0,r0⟩:=trodAll_cons hA
 obtain⟨rfl,rfl,rfl⟩:=trodAll_nil r0
 obtain rfl:args= #[v0]:=by cases args;simp_all
 obtain⟨a0,w0,g0,m0⟩:=arg_U (lo:=W.heap.size) (hval 0 _ v0 rfl rfl) h0
 have hL:=law a0 m0 g0
 refine(zFi (cargs:= [v0]) hL (by simp only [vi];exact⟨v0,_,rfl,w0,rfl⟩)).mono fun e W' he=> ?_
 obtain⟨rfl,hb⟩:=he
 exact⟨_,rfl,zFh lay_law (by rw [Try.params4];decide+kernel) (by kernel_rfl) Try.underlying4 rfl hW0 rfl rfl rfl hb (fun W'=>okWide_bool_mk Try.underlying4 true)⟩
theorem zA9 :Rows.fnVisitsRow.holds Try.pinned (OpenSpec.ofChange Rows.fnVisitsSpec):=
 OpenClaim.holds_of_wide 4 Try.f4 rfl rfl rfl rfl rfl rfl rfl ⟨rfl,rfl,rfl,rfl,rfl⟩ rfl rfl rfl rfl rfl (by kernel_rfl) Try.func4 (by kernel_rfl)
  (of_decide_eq_true (by kernel_rfl)) (by unfold Func.isWrapper;first|(rw [if_pos (by decide+kernel)];kernel_rfl)|(rw [if_neg (by decide+kernel)];exact⟨rfl,rfl⟩))
  (fun os started H enc _=>uc os started H enc)
theorem Visits_holds :Rows.FnVisitsSaid:=zA9
end lawFnVisits
end Go.Proofs.Ytipplkjdmdlhpaa
