/- records of pairs: the priority of a visit -/
import Derived.Test.YthepmdkpbjfdcaaB15zpw
namespace Go.Proofs.Ythepmdkpbjfdcaa
open Nat renaming reduceMod → zA, reduceMul → zB, reduceDiv → zC, reduceAdd → zD, reduceSub → zE, reduceEqDiff → zF, reduceBEq → zG, reduceLT → zH, reduceLeDiff → zI
open Go.RowKit
set_option linter.unusedVariables false
set_option linter.unusedSimpArgs false
attribute [-push_cast] rm
def akB (ps:List Pr)(r:List Int)(v:Int)(i:Nat):Bool:=yD (gp ps (gi r i).toNat).ask v
def akI (ps:List Pr)(r:List Int)(v:Int):Nat→Int
 |0=> -1
 |i+1=>if akB ps r v i=true then(i:Int)else akI ps r v i
def gvI (ps:List Pr)(r:List Int)(v:Int):Nat→Int
 |0=> -1
 |i+1=>if gvB ps r v i=true then(i:Int)else gvI ps r v i
theorem QO {ps:List Pr}{r:List Int}{v:Int}{i:Nat}(h:akB ps r v i=true):akI ps r v (i+1)=i:=if_pos h
theorem Vt {ps:List Pr}{r:List Int}{v:Int}{i:Nat}(h:akB ps r v i=false):akI ps r v (i+1)=akI ps r v i:=if_neg (by rw [h];decide)
theorem QU {ps:List Pr}{r:List Int}{v:Int}{i:Nat}(h:gvB ps r v i=true):gvI ps r v (i+1)=i:=if_pos h
theorem WM {ps:List Pr}{r:List Int}{v:Int}{i:Nat}(h:gvB ps r v i=false):gvI ps r v (i+1)=gvI ps r v i:=if_neg (by rw [h];decide)
theorem Kl (ps:List Pr)(r:List Int)(v:Int): ∀i,-1≤akI ps r v i∧akI ps r v i<i
 |0=>by show(-1:Int)≤ -1∧(-1:Int)<0;omega
 |i+1=>by
  have h:=Kl ps r v i
  cases hb:akB ps r v i with
  |true=>rw [QO hb];omega
  |false=>rw [Vt hb];omega
theorem jC (ps:List Pr)(r:List Int)(v:Int): ∀i,-1≤gvI ps r v i∧gvI ps r v i<i
 |0=>by show(-1:Int)≤ -1∧(-1:Int)<0;omega
 |i+1=>by
  have h:=jC ps r v i
  cases hb:gvB ps r v i with
  |true=>rw [QU hb];omega
  |false=>rw [WM hb];omega
def prV (a g:Int):Int:=if a<0∧g<0 then 0 else if g<a then 2*a+1 else 2*g+2
set_option maxRecDepth 20000 in
set_option maxHeartbeats 4000000 in
theorem zBj (ps:List Pr)(ha:PLn 1048576 ps)(r:List Int)(hr:r.length≤1048576)(hrr: ∀i,i<r.length→0≤gi r i∧gi r i<(ps.length:Int))(v:Int):Fn Try.prog tyT 111 [.c (.lst 90 (dII (ilv ps))), .c (DI r), .c (.int .i64 v)] [.c (.int .i64 (prV (akI ps r v r.length) (gvI ps r v r.length)))]:=by
 have hl:=ha.1
 have hg:=fun k=>Yb ha k
 have hga: ∀k,(gp ps k).ask.length≤1048576:=fun k=>(hg k).ask
 have hgg: ∀k,(gp ps k).give.length≤1048576:=fun k=>(hg k).give
 have hli:=xx ps
 have har:=Kl ps r v
 have hgr:=jC ps r v
 refine zw (fn:=Try.f111) (ts:= [6]) Try.func111 (by kernel_rfl) rfl rfl (by rw [Try.ntmps111];exact Nat.le_of_ble_eq_true rfl) rfl (by simp only [szA,List.mem_cons,List.not_mem_nil,or_false,forall_eq_or_imp,forall_eq,VT.cells,szL];try decide) ?_
 rw [Try.ntmps111]
 simp only [push_cast,↓zK,↓zJ,↓reduceIte,zA,zB,zC,zD,zE,zF,zG,zH,zI,reduceCtorEq]
 refine zL fun K hK=> ?_
 refine zM zO zN [] rfl ?_
 all_goals simp only [push_cast,↓zK,↓zJ,↓reduceIte,zA,zB,zC,zD,zE,zF,zG,zH,zI,reduceCtorEq]
 all_goals repeat'(first|(apply zP<;>(intro hg;(try simp only [push_cast]at hg)))|apply And.intro|(intro hg;(try simp only [push_cast]at hg)))
 all_goals first|exact gA|(exact zQ (by simp only [push_cast];omega))|(exact zQ (by omega))|skip
 all_goals first|(refine hK _ ?_;clear hK K)|(simp only [push_cast];done)
 refine zL fun K hK=> ?_
 refine zM zO zN [] rfl ?_
 all_goals simp only [push_cast,↓zK,↓zJ,↓reduceIte,zA,zB,zC,zD,zE,zF,zG,zH,zI,reduceCtorEq]
 all_goals repeat'(first|(apply zP<;>(intro hg;(try simp only [push_cast]at hg)))|apply And.intro|(intro hg;(try simp only [push_cast]at hg)))
 all_goals first|exact gA|(exact zQ (by simp only [push_cast];omega))|(exact zQ (by omega))|skip
 all_goals first|(refine hK _ ?_;clear hK K)|(simp only [push_cast];done)
 refine zL fun K1 hK1=> ?_
 refine zL fun K hK=> ?_
 refine zM zO zN [] rfl ?_
 all_goals simp only [push_cast,↓zK,↓zJ,↓reduceIte,zA,zB,zC,zD,zE,zF,zG,zH,zI,reduceCtorEq]
 all_goals repeat'(first|(apply zP<;>(intro hg;(try simp only [push_cast]at hg)))|apply And.intro|(intro hg;(try simp only [push_cast]at hg)))
 all_goals first|exact gA|(exact zQ (by simp only [push_cast];omega))|(exact zQ (by omega))|skip
 all_goals first|(refine hK _ ?_;clear hK K)|(simp only [push_cast];done)
 refine zW ?_
 refine zi [7,8,9,10,13,14,15,16,17,18,19,20,21,22,23,24,25,26,27,28,29,30,31,32,33,34] [] (fun(k:Nat)=> [(13, .int .i64 k),(7, .int .i64 (akI ps r v k)),(8, .int .i64 (gvI ps r v k))]) (fun k=> []) (fun k=> []) (fun k=>k≤r.length) (fun k=>r.length - k) 0 ?_ (by omega) ?_
 ·
  rw [show akI ps r v 0= -1 from rfl,show gvI ps r v 0= -1 from rfl]
  refine zY rfl ?_ ?_ ?_<;>simp only [zf,ze,push_cast,↓zK,↓zJ,↓reduceIte,zA,zB,zC,zD,zE,zF,zG,zH,zI,reduceCtorEq]
 ·rintro k hk KL0 hL0
  simp only [push_cast,↓zK,↓zJ,↓reduceIte,zA,zB,zC,zD,zE,zF,zG,zH,zI,reduceCtorEq]
  refine zL fun K hK=> ?_
  refine zM zO zN [] rfl ?_
  all_goals simp only [push_cast,↓zK,↓zJ,↓reduceIte,zA,zB,zC,zD,zE,zF,zG,zH,zI,reduceCtorEq]
  all_goals repeat'(first|(apply zP<;>(intro hg;(try simp only [push_cast]at hg)))|apply And.intro|(intro hg;(try simp only [push_cast]at hg)))
  all_goals first|exact gA|(exact zQ (by simp only [push_cast];omega))|(exact zQ (by omega))|skip
  all_goals first|(refine hK _ ?_;clear hK K)|(simp only [push_cast];done)
  refine zL fun K2 hK2=> ?_
  refine zU rfl (fun hc=> ?_) (fun hc=> ?_)<;>(try simp only [push_cast]at hc)
  ·
   refine zV ?_
   (try simp only [zR,zS,reduceIte,zF]);refine hK2 _ ?_
   refine zL fun K3 hK3=> ?_
   refine zW ?_
   have hrk:=hrr k (by omega)
   refine zL fun K hK=> ?_
   refine zM zO zN [] rfl ?_
   all_goals simp only [push_cast,↓zK,↓zJ,↓reduceIte,zA,zB,zC,zD,zE,zF,zG,zH,zI,reduceCtorEq]
   all_goals repeat'(first|(apply zP<;>(intro hg;(try simp only [push_cast]at hg)))|apply And.intro|(intro hg;(try simp only [push_cast]at hg)))
   all_goals first|exact gA|(exact zQ (by simp only [push_cast];omega))|(exact zQ (by omega))|skip
   all_goals first|(refine hK _ ?_;clear hK K)|(simp only [push_cast];done)
   refine zL fun K4 hK4=> ?_
   refine zL fun K hK=> ?_
   refine zM zO zN [] rfl ?_
   all_goals refine zo 7 fun K9 hK9=> ?_
   all_goals simp only [push_cast,↓zK,↓zJ,↓reduceIte,zA,zB,zC,zD,zE,zF,zG,zH,zI,reduceCtorEq]
   all_goals repeat'(first|(apply zP<;>(intro hg;(try simp only [push_cast]at hg)))|(refine⟨_,qN (gp ps (gi r k).toNat).ask v (hga _),?_⟩;simp only [push_cast,↓zK,↓zJ,↓reduceIte,zA,zB,zC,zD,zE,zF,zG,zH,zI,reduceCtorEq])|apply And.intro|(intro hg;(try simp only [push_cast]at hg)))
   all_goals first|exact gA|(exact zQ (by simp only [push_cast];omega))|(exact zQ (by omega))|skip
   all_goals first|(refine hK9 _ ?_;clear hK9 K9)|(simp only [push_cast];done)
   all_goals simp only [push_cast,↓zK,↓zJ,↓reduceIte,zA,zB,zC,zD,zE,zF,zG,zH,zI,reduceCtorEq]
   all_goals repeat'(first|(apply zP<;>(intro hg;(try simp only [push_cast]at hg)))|(refine⟨_,qN (gp ps (gi r k).toNat).ask v (hga _),?_⟩;simp only [push_cast,↓zK,↓zJ,↓reduceIte,zA,zB,zC,zD,zE,zF,zG,zH,zI,reduceCtorEq])|apply And.intro|(intro hg;(try simp only [push_cast]at hg)))
   all_goals first|exact gA|(exact zQ (by simp only [push_cast];omega))|(exact zQ (by omega))|skip
   all_goals first|(refine hK _ ?_;clear hK K)|(simp only [push_cast];done)
   refine zU rfl (fun hc=> ?_) (fun hc=> ?_)<;>(try simp only [push_cast]at hc)
   ·
    refine zM zO zN [] rfl ?_
    all_goals simp only [push_cast,↓zK,↓zJ,↓reduceIte,zA,zB,zC,zD,zE,zF,zG,zH,zI,reduceCtorEq]
    all_goals repeat'(first|(apply zP<;>(intro hg;(try simp only [push_cast]at hg)))|apply And.intro|(intro hg;(try simp only [push_cast]at hg)))
    all_goals first|exact gA|(exact zQ (by simp only [push_cast];omega))|(exact zQ (by omega))|skip
    (try simp only [zR,zS,reduceIte,zF]);refine hK4 _ ?_
    refine zL fun K hK=> ?_
    refine zM zO zN [] rfl ?_
    all_goals refine zo 7 fun K9 hK9=> ?_
    all_goals simp only [push_cast,↓zK,↓zJ,↓reduceIte,zA,zB,zC,zD,zE,zF,zG,zH,zI,reduceCtorEq]
    all_goals repeat'(first|(apply zP<;>(intro hg;(try simp only [push_cast]at hg)))|(refine⟨_,qN (gp ps (gi r k).toNat).give v (hgg _),?_⟩;simp only [push_cast,↓zK,↓zJ,↓reduceIte,zA,zB,zC,zD,zE,zF,zG,zH,zI,reduceCtorEq])|apply And.intro|(intro hg;(try simp only [push_cast]at hg)))
    all_goals first|exact gA|(exact zQ (by simp only [push_cast];omega))|(exact zQ (by omega))|skip
    all_goals first|(refine hK9 _ ?_;clear hK9 K9)|(simp only [push_cast];done)
    all_goals simp only [push_cast,↓zK,↓zJ,↓reduceIte,zA,zB,zC,zD,zE,zF,zG,zH,zI,reduceCtorEq]
    all_goals repeat'(first|(apply zP<;>(intro hg;(try simp only [push_cast]at hg)))|(refine⟨_,qN (gp ps (gi r k).toNat).give v (hgg _),?_⟩;simp only [push_cast,↓zK,↓zJ,↓reduceIte,zA,zB,zC,zD,zE,zF,zG,zH,zI,reduceCtorEq])|apply And.intro|(intro hg;(try simp only [push_cast]at hg)))
    all_goals first|exact gA|(exact zQ (by simp only [push_cast];omega))|(exact zQ (by omega))|skip
    all_goals first|(refine hK _ ?_;clear hK K)|(simp only [push_cast];done)
    refine zU rfl (fun hc=> ?_) (fun hc=> ?_)<;>(try simp only [push_cast]at hc)
    ·
     refine zM zO zN [] rfl ?_
     all_goals simp only [push_cast,↓zK,↓zJ,↓reduceIte,zA,zB,zC,zD,zE,zF,zG,zH,zI,reduceCtorEq]
     all_goals repeat'(first|(apply zP<;>(intro hg;(try simp only [push_cast]at hg)))|apply And.intro|(intro hg;(try simp only [push_cast]at hg)))
     all_goals first|exact gA|(exact zQ (by simp only [push_cast];omega))|(exact zQ (by omega))|skip
     (try simp only [zR,zS,reduceIte,zF]);refine hK3 _ ?_
     refine zM zO zN [] rfl ?_
     all_goals simp only [push_cast,↓zK,↓zJ,↓reduceIte,zA,zB,zC,zD,zE,zF,zG,zH,zI,reduceCtorEq]
     all_goals repeat'(first|(apply zP<;>(intro hg;(try simp only [push_cast]at hg)))|apply And.intro|(intro hg;(try simp only [push_cast]at hg)))
     all_goals first|exact gA|(exact zQ (by simp only [push_cast];omega))|(exact zQ (by omega))|skip
     refine hL0 _ ⟨k+1,by omega,by omega,?_⟩
     rw [QO (by unfold akB;with_reducible assumption),QU (by unfold gvB;with_reducible assumption)]
     refine zY rfl ?_ ?_ ?_<;>simp only [zf,ze,push_cast,↓zK,↓zJ,↓reduceIte,zA,zB,zC,zD,zE,zF,zG,zH,zI,reduceCtorEq]
    ·
     refine zV ?_
     (try simp only [zR,zS,reduceIte,zF]);refine hK3 _ ?_
     refine zM zO zN [] rfl ?_
     all_goals simp only [push_cast,↓zK,↓zJ,↓reduceIte,zA,zB,zC,zD,zE,zF,zG,zH,zI,reduceCtorEq]
     all_goals repeat'(first|(apply zP<;>(intro hg;(try simp only [push_cast]at hg)))|apply And.intro|(intro hg;(try simp only [push_cast]at hg)))
     all_goals first|exact gA|(exact zQ (by simp only [push_cast];omega))|(exact zQ (by omega))|skip
     refine hL0 _ ⟨k+1,by omega,by omega,?_⟩
     rw [QO (by unfold akB;with_reducible assumption),WM (by unfold gvB;with_reducible assumption)]
     refine zY rfl ?_ ?_ ?_<;>simp only [zf,ze,push_cast,↓zK,↓zJ,↓reduceIte,zA,zB,zC,zD,zE,zF,zG,zH,zI,reduceCtorEq]
   ·
    refine zV ?_
    (try simp only [zR,zS,reduceIte,zF]);refine hK4 _ ?_
    refine zL fun K hK=> ?_
    refine zM zO zN [] rfl ?_
    all_goals refine zo 7 fun K9 hK9=> ?_
    all_goals simp only [push_cast,↓zK,↓zJ,↓reduceIte,zA,zB,zC,zD,zE,zF,zG,zH,zI,reduceCtorEq]
    all_goals repeat'(first|(apply zP<;>(intro hg;(try simp only [push_cast]at hg)))|(refine⟨_,qN (gp ps (gi r k).toNat).give v (hgg _),?_⟩;simp only [push_cast,↓zK,↓zJ,↓reduceIte,zA,zB,zC,zD,zE,zF,zG,zH,zI,reduceCtorEq])|apply And.intro|(intro hg;(try simp only [push_cast]at hg)))
    all_goals first|exact gA|(exact zQ (by simp only [push_cast];omega))|(exact zQ (by omega))|skip
    all_goals first|(refine hK9 _ ?_;clear hK9 K9)|(simp only [push_cast];done)
    all_goals simp only [push_cast,↓zK,↓zJ,↓reduceIte,zA,zB,zC,zD,zE,zF,zG,zH,zI,reduceCtorEq]
    all_goals repeat'(first|(apply zP<;>(intro hg;(try simp only [push_cast]at hg)))|(refine⟨_,qN (gp ps (gi r k).toNat).give v (hgg _),?_⟩;simp only [push_cast,↓zK,↓zJ,↓reduceIte,zA,zB,zC,zD,zE,zF,zG,zH,zI,reduceCtorEq])|apply And.intro|(intro hg;(try simp only [push_cast]at hg)))
    all_goals first|exact gA|(exact zQ (by simp only [push_cast];omega))|(exact zQ (by omega))|skip
    all_goals first|(refine hK _ ?_;clear hK K)|(simp only [push_cast];done)
    refine zU rfl (fun hc=> ?_) (fun hc=> ?_)<;>(try simp only [push_cast]at hc)
    ·
     refine zM zO zN [] rfl ?_
     all_goals simp only [push_cast,↓zK,↓zJ,↓reduceIte,zA,zB,zC,zD,zE,zF,zG,zH,zI,reduceCtorEq]
     all_goals repeat'(first|(apply zP<;>(intro hg;(try simp only [push_cast]at hg)))|apply And.intro|(intro hg;(try simp only [push_cast]at hg)))
     all_goals first|exact gA|(exact zQ (by simp only [push_cast];omega))|(exact zQ (by omega))|skip
     (try simp only [zR,zS,reduceIte,zF]);refine hK3 _ ?_
     refine zM zO zN [] rfl ?_
     all_goals simp only [push_cast,↓zK,↓zJ,↓reduceIte,zA,zB,zC,zD,zE,zF,zG,zH,zI,reduceCtorEq]
     all_goals repeat'(first|(apply zP<;>(intro hg;(try simp only [push_cast]at hg)))|apply And.intro|(intro hg;(try simp only [push_cast]at hg)))
     all_goals first|exact gA|(exact zQ (by simp only [push_cast];omega))|(exact zQ (by omega))|skip
     refine hL0 _ ⟨k+1,by omega,by omega,?_⟩
     rw [Vt (by unfold akB;with_reducible assumption),QU (by unfold gvB;with_reducible assumption)]
     refine zY rfl ?_ ?_ ?_<;>simp only [zf,ze,push_cast,↓zK,↓zJ,↓reduceIte,zA,zB,zC,zD,zE,zF,zG,zH,zI,reduceCtorEq]
    ·
     refine zV ?_
     (try simp only [zR,zS,reduceIte,zF]);refine hK3 _ ?_
     refine zM zO zN [] rfl ?_
     all_goals simp only [push_cast,↓zK,↓zJ,↓reduceIte,zA,zB,zC,zD,zE,zF,zG,zH,zI,reduceCtorEq]
     all_goals repeat'(first|(apply zP<;>(intro hg;(try simp only [push_cast]at hg)))|apply And.intro|(intro hg;(try simp only [push_cast]at hg)))
     all_goals first|exact gA|(exact zQ (by simp only [push_cast];omega))|(exact zQ (by omega))|skip
     refine hL0 _ ⟨k+1,by omega,by omega,?_⟩
     rw [Vt (by unfold akB;with_reducible assumption),WM (by unfold gvB;with_reducible assumption)]
     refine zY rfl ?_ ?_ ?_<;>simp only [zf,ze,push_cast,↓zK,↓zJ,↓reduceIte,zA,zB,zC,zD,zE,zF,zG,zH,zI,reduceCtorEq]
  ·
   refine zk ?_
   have hkk:k=r.length:=by omega
   subst hkk
   have har9:=har r.length
   have hgr9:=hgr r.length
   (try simp only [zR,zS,reduceIte,zF]);refine hK1 _ ?_
   refine zL fun K5 hK5=> ?_
   refine zW ?_
   refine zL fun K hK=> ?_
   refine zj false zO zN ?_ rfl ?_
   ·kernel_rfl
   all_goals simp only [push_cast,↓zK,↓zJ,↓reduceIte,zA,zB,zC,zD,zE,zF,zG,zH,zI,reduceCtorEq]
   all_goals repeat'(first|(apply zP<;>(intro hg;(try simp only [push_cast]at hg)))|apply And.intro|(intro hg;(try simp only [push_cast]at hg)))
   all_goals first|exact gA|(exact zQ (by simp only [push_cast];omega))|(exact zQ (by omega))|skip
   all_goals first|(refine hK _ ?_;clear hK K)|(simp only [push_cast];done)
   all_goals refine zU rfl (fun hc=> ?_) (fun hc=> ?_)
   all_goals(first|(cases hc;done)|skip)
   all_goals(try simp only [push_cast]at hc)
   all_goals first
    |(
      refine zL fun K hK=> ?_
      refine zM zO zN [] rfl ?_
      all_goals simp only [push_cast,↓zK,↓zJ,↓reduceIte,zA,zB,zC,zD,zE,zF,zG,zH,zI,reduceCtorEq]
      all_goals repeat'(first|(apply zP<;>(intro hg;(try simp only [push_cast]at hg)))|apply And.intro|(intro hg;(try simp only [push_cast]at hg)))
      all_goals first|exact gA|(exact zQ (by simp only [push_cast];omega))|(exact zQ (by omega))|skip
      all_goals first|(refine hK _ ?_;clear hK K)|(simp only [push_cast];done)
      all_goals refine zU rfl (fun hc=> ?_) (fun hc=> ?_)
      all_goals(first|(cases hc;done)|skip)
      all_goals(try simp only [push_cast]at hc)
      all_goals(first|(exfalso;omega)|skip)
      all_goals first
       |(
         refine zV ?_
         (try simp only [zR,zS,reduceIte,zF]);refine hK5 _ ?_
         refine zL fun K hK=> ?_
         refine zM zO zN [] rfl ?_
         all_goals simp only [push_cast,↓zK,↓zJ,↓reduceIte,zA,zB,zC,zD,zE,zF,zG,zH,zI,reduceCtorEq]
         all_goals repeat'(first|(apply zP<;>(intro hg;(try simp only [push_cast]at hg)))|apply And.intro|(intro hg;(try simp only [push_cast]at hg)))
         all_goals first|exact gA|(exact zQ (by simp only [push_cast];omega))|(exact zQ (by omega))|skip
         all_goals first|(refine hK _ ?_;clear hK K)|(simp only [push_cast];done)
         refine zX ?_
         (try simp only [zR,zS])
         refine⟨Or.inl rfl,?_⟩
         simp only [zd,push_cast,↓zK,↓zJ,↓reduceIte,zA,zB,zC,zD,zE,zF,zG,zH,zI,reduceCtorEq]
         all_goals(unfold prV;split<;>(try split)<;>omega)
         done)
       |(
         refine zL fun K hK=> ?_
         refine zM zO zN [] rfl ?_
         all_goals simp only [push_cast,↓zK,↓zJ,↓reduceIte,zA,zB,zC,zD,zE,zF,zG,zH,zI,reduceCtorEq]
         all_goals repeat'(first|(apply zP<;>(intro hg;(try simp only [push_cast]at hg)))|apply And.intro|(intro hg;(try simp only [push_cast]at hg)))
         all_goals first|exact gA|(exact zQ (by simp only [push_cast];omega))|(exact zQ (by omega))|skip
         all_goals first|(refine hK _ ?_;clear hK K)|(simp only [push_cast];done)
         refine zX ?_
         (try simp only [zR,zS])
         refine⟨Or.inl rfl,?_⟩
         simp only [zd,push_cast,↓zK,↓zJ,↓reduceIte,zA,zB,zC,zD,zE,zF,zG,zH,zI,reduceCtorEq]
         all_goals(unfold prV;split<;>(try split)<;>omega)
         done)
      done)
    |(
      refine zL fun K hK=> ?_
      refine zM zO zN [] rfl ?_
      all_goals simp only [push_cast,↓zK,↓zJ,↓reduceIte,zA,zB,zC,zD,zE,zF,zG,zH,zI,reduceCtorEq]
      all_goals repeat'(first|(apply zP<;>(intro hg;(try simp only [push_cast]at hg)))|apply And.intro|(intro hg;(try simp only [push_cast]at hg)))
      all_goals first|exact gA|(exact zQ (by simp only [push_cast];omega))|(exact zQ (by omega))|skip
      all_goals first|(refine hK _ ?_;clear hK K)|(simp only [push_cast];done)
      refine zX ?_
      (try simp only [zR,zS])
      refine⟨Or.inl rfl,?_⟩
      simp only [zd,push_cast,↓zK,↓zJ,↓reduceIte,zA,zB,zC,zD,zE,zF,zG,zH,zI,reduceCtorEq]
      all_goals(unfold prV;split<;>(try split)<;>omega)
      done)
set_option maxRecDepth 20000 in
set_option maxHeartbeats 4000000 in
theorem zC9 (ps:List Pr)(ha:PLn 1048576 ps)(r:List Int)(hr:r.length≤1048576)(hrr: ∀i,i<r.length→0≤gi r i∧gi r i<(ps.length:Int))(v:Int):Fn Try.prog tyT 101 [.c (.lst 90 (dII (ilv ps))), .c (DI r), .c (.int .i64 v)] [.c (.int .i64 (prV (akI ps r v r.length) (gvI ps r v r.length)))]:=by
 have hl:=ha.1
 have hg:=fun k=>Yb ha k
 have hga: ∀k,(gp ps k).ask.length≤1048576:=fun k=>(hg k).ask
 have hgg: ∀k,(gp ps k).give.length≤1048576:=fun k=>(hg k).give
 have hli:=xx ps
 have har:=Kl ps r v
 have hgr:=jC ps r v
 refine zw (fn:=Try.f101) (ts:= [6]) Try.func101 (by kernel_rfl) rfl rfl (by rw [Try.ntmps101];exact Nat.le_of_ble_eq_true rfl) rfl (by simp only [szA,List.mem_cons,List.not_mem_nil,or_false,forall_eq_or_imp,forall_eq,VT.cells,szL];try decide) ?_
 rw [Try.ntmps101]
 simp only [push_cast,↓zK,↓zJ,↓reduceIte,zA,zB,zC,zD,zE,zF,zG,zH,zI,reduceCtorEq]
 refine zL fun K hK=> ?_
 refine zM zO zN [] rfl ?_
 all_goals simp only [push_cast,↓zK,↓zJ,↓reduceIte,zA,zB,zC,zD,zE,zF,zG,zH,zI,reduceCtorEq]
 all_goals repeat'(first|(apply zP<;>(intro hg;(try simp only [push_cast]at hg)))|apply And.intro|(intro hg;(try simp only [push_cast]at hg)))
 all_goals first|exact gA|(exact zQ (by simp only [push_cast];omega))|(exact zQ (by omega))|skip
 all_goals first|(refine hK _ ?_;clear hK K)|(simp only [push_cast];done)
 refine zL fun K hK=> ?_
 refine zM zO zN [] rfl ?_
 all_goals simp only [push_cast,↓zK,↓zJ,↓reduceIte,zA,zB,zC,zD,zE,zF,zG,zH,zI,reduceCtorEq]
 all_goals repeat'(first|(apply zP<;>(intro hg;(try simp only [push_cast]at hg)))|apply And.intro|(intro hg;(try simp only [push_cast]at hg)))
 all_goals first|exact gA|(exact zQ (by simp only [push_cast];omega))|(exact zQ (by omega))|skip
 all_goals first|(refine hK _ ?_;clear hK K)|(simp only [push_cast];done)
 refine zL fun K hK=> ?_
 refine zM zO zN [] rfl ?_
 all_goals simp only [push_cast,↓zK,↓zJ,↓reduceIte,zA,zB,zC,zD,zE,zF,zG,zH,zI,reduceCtorEq]
 all_goals repeat'(first|(apply zP<;>(intro hg;(try simp only [push_cast]at hg)))|apply And.intro|(intro hg;(try simp only [push_cast]at hg)))
 all_goals first|exact gA|(exact zQ (by simp only [push_cast];omega))|(exact zQ (by omega))|skip
 all_goals first|(refine hK _ ?_;clear hK K)|(simp only [push_cast];done)
 refine zL fun K1 hK1=> ?_
 refine zL fun K hK=> ?_
 refine zM zO zN [] rfl ?_
 all_goals simp only [push_cast,↓zK,↓zJ,↓reduceIte,zA,zB,zC,zD,zE,zF,zG,zH,zI,reduceCtorEq]
 all_goals repeat'(first|(apply zP<;>(intro hg;(try simp only [push_cast]at hg)))|apply And.intro|(intro hg;(try simp only [push_cast]at hg)))
 all_goals first|exact gA|(exact zQ (by simp only [push_cast];omega))|(exact zQ (by omega))|skip
 all_goals first|(refine hK _ ?_;clear hK K)|(simp only [push_cast];done)
 refine zW ?_
 refine zi [7,8,9,10,11,12,13,14,15,16,17,18,19,20,21,22,23,24,25,26,27,28,29,30,31,32,33,34,35,36,37] [] (fun(k:Nat)=> [(9, .int .i64 k),(7, .int .i64 (akI ps r v k)),(8, .int .i64 (gvI ps r v k))]) (fun k=> []) (fun k=> []) (fun k=>k≤r.length) (fun k=>r.length - k) 0 ?_ (by omega) ?_
 ·
  rw [show akI ps r v 0= -1 from rfl,show gvI ps r v 0= -1 from rfl]
  refine zY rfl ?_ ?_ ?_<;>simp only [zf,ze,push_cast,↓zK,↓zJ,↓reduceIte,zA,zB,zC,zD,zE,zF,zG,zH,zI,reduceCtorEq]
 ·rintro k hk KL0 hL0
  simp only [push_cast,↓zK,↓zJ,↓reduceIte,zA,zB,zC,zD,zE,zF,zG,zH,zI,reduceCtorEq]
  refine zL fun K2 hK2=> ?_
  refine zL fun K hK=> ?_
  refine zM zO zN [] rfl ?_
  all_goals simp only [push_cast,↓zK,↓zJ,↓reduceIte,zA,zB,zC,zD,zE,zF,zG,zH,zI,reduceCtorEq]
  all_goals repeat'(first|(apply zP<;>(intro hg;(try simp only [push_cast]at hg)))|apply And.intro|(intro hg;(try simp only [push_cast]at hg)))
  all_goals first|exact gA|(exact zQ (by simp only [push_cast];omega))|(exact zQ (by omega))|skip
  all_goals first|(refine hK _ ?_;clear hK K)|(simp only [push_cast];done)
  refine zU rfl (fun hc=> ?_) (fun hc=> ?_)<;>(try simp only [push_cast]at hc)
  ·
   refine zV ?_
   (try simp only [zR,zS,reduceIte,zF]);refine hK2 _ ?_
   refine zL fun K3 hK3=> ?_
   refine zW ?_
   refine zL fun K4 hK4=> ?_
   have hrk:=hrr k (by omega)
   refine zL fun K hK=> ?_
   refine zM zO zN [] rfl ?_
   all_goals refine zo 10 fun K9 hK9=> ?_
   all_goals simp only [push_cast,↓zK,↓zJ,↓reduceIte,zA,zB,zC,zD,zE,zF,zG,zH,zI,reduceCtorEq]
   all_goals repeat'(first|(apply zP<;>(intro hg;(try simp only [push_cast]at hg)))|(refine⟨_,vQ (gp ps (gi r k).toNat).ask v (hga _),?_⟩;simp only [push_cast,↓zK,↓zJ,↓reduceIte,zA,zB,zC,zD,zE,zF,zG,zH,zI,reduceCtorEq])|apply And.intro|(intro hg;(try simp only [push_cast]at hg)))
   all_goals first|exact gA|(exact zQ (by simp only [push_cast];omega))|(exact zQ (by omega))|skip
   all_goals first|(refine hK9 _ ?_;clear hK9 K9)|(simp only [push_cast];done)
   all_goals simp only [push_cast,↓zK,↓zJ,↓reduceIte,zA,zB,zC,zD,zE,zF,zG,zH,zI,reduceCtorEq]
   all_goals repeat'(first|(apply zP<;>(intro hg;(try simp only [push_cast]at hg)))|(refine⟨_,vQ (gp ps (gi r k).toNat).ask v (hga _),?_⟩;simp only [push_cast,↓zK,↓zJ,↓reduceIte,zA,zB,zC,zD,zE,zF,zG,zH,zI,reduceCtorEq])|apply And.intro|(intro hg;(try simp only [push_cast]at hg)))
   all_goals first|exact gA|(exact zQ (by simp only [push_cast];omega))|(exact zQ (by omega))|skip
   all_goals first|(refine hK _ ?_;clear hK K)|(simp only [push_cast];done)
   refine zU rfl (fun hc=> ?_) (fun hc=> ?_)<;>(try simp only [push_cast]at hc)
   ·
    refine zM zO zN [] rfl ?_
    all_goals simp only [push_cast,↓zK,↓zJ,↓reduceIte,zA,zB,zC,zD,zE,zF,zG,zH,zI,reduceCtorEq]
    all_goals repeat'(first|(apply zP<;>(intro hg;(try simp only [push_cast]at hg)))|apply And.intro|(intro hg;(try simp only [push_cast]at hg)))
    all_goals first|exact gA|(exact zQ (by simp only [push_cast];omega))|(exact zQ (by omega))|skip
    (try simp only [zR,zS,reduceIte,zF]);refine hK4 _ ?_
    refine zL fun K hK=> ?_
    refine zM zO zN [] rfl ?_
    all_goals refine zo 10 fun K9 hK9=> ?_
    all_goals simp only [push_cast,↓zK,↓zJ,↓reduceIte,zA,zB,zC,zD,zE,zF,zG,zH,zI,reduceCtorEq]
    all_goals repeat'(first|(apply zP<;>(intro hg;(try simp only [push_cast]at hg)))|(refine⟨_,vQ (gp ps (gi r k).toNat).give v (hgg _),?_⟩;simp only [push_cast,↓zK,↓zJ,↓reduceIte,zA,zB,zC,zD,zE,zF,zG,zH,zI,reduceCtorEq])|apply And.intro|(intro hg;(try simp only [push_cast]at hg)))
    all_goals first|exact gA|(exact zQ (by simp only [push_cast];omega))|(exact zQ (by omega))|skip
    all_goals first|(refine hK9 _ ?_;clear hK9 K9)|(simp only [push_cast];done)
    all_goals simp only [push_cast,↓zK,↓zJ,↓reduceIte,zA,zB,zC,zD,zE,zF,zG,zH,zI,reduceCtorEq]
    all_goals repeat'(first|(apply zP<;>(intro hg;(try simp only [push_cast]at hg)))|(refine⟨_,vQ (gp ps (gi r k).toNat).give v (hgg _),?_⟩;simp only [push_cast,↓zK,↓zJ,↓reduceIte,zA,zB,zC,zD,zE,zF,zG,zH,zI,reduceCtorEq])|apply And.intro|(intro hg;(try simp only [push_cast]at hg)))
    all_goals first|exact gA|(exact zQ (by simp only [push_cast];omega))|(exact zQ (by omega))|skip
    all_goals first|(refine hK _ ?_;clear hK K)|(simp only [push_cast];done)
    refine zU rfl (fun hc=> ?_) (fun hc=> ?_)<;>(try simp only [push_cast]at hc)
    ·
     refine zM zO zN [] rfl ?_
     all_goals simp only [push_cast,↓zK,↓zJ,↓reduceIte,zA,zB,zC,zD,zE,zF,zG,zH,zI,reduceCtorEq]
     all_goals repeat'(first|(apply zP<;>(intro hg;(try simp only [push_cast]at hg)))|apply And.intro|(intro hg;(try simp only [push_cast]at hg)))
     all_goals first|exact gA|(exact zQ (by simp only [push_cast];omega))|(exact zQ (by omega))|skip
     (try simp only [zR,zS,reduceIte,zF]);refine hK3 _ ?_
     refine zM zO zN [] rfl ?_
     all_goals simp only [push_cast,↓zK,↓zJ,↓reduceIte,zA,zB,zC,zD,zE,zF,zG,zH,zI,reduceCtorEq]
     all_goals repeat'(first|(apply zP<;>(intro hg;(try simp only [push_cast]at hg)))|apply And.intro|(intro hg;(try simp only [push_cast]at hg)))
     all_goals first|exact gA|(exact zQ (by simp only [push_cast];omega))|(exact zQ (by omega))|skip
     refine hL0 _ ⟨k+1,by omega,by omega,?_⟩
     rw [QO (by unfold akB;with_reducible assumption),QU (by unfold gvB;with_reducible assumption)]
     refine zY rfl ?_ ?_ ?_<;>simp only [zf,ze,push_cast,↓zK,↓zJ,↓reduceIte,zA,zB,zC,zD,zE,zF,zG,zH,zI,reduceCtorEq]
    ·
     refine zV ?_
     (try simp only [zR,zS,reduceIte,zF]);refine hK3 _ ?_
     refine zM zO zN [] rfl ?_
     all_goals simp only [push_cast,↓zK,↓zJ,↓reduceIte,zA,zB,zC,zD,zE,zF,zG,zH,zI,reduceCtorEq]
     all_goals repeat'(first|(apply zP<;>(intro hg;(try simp only [push_cast]at hg)))|apply And.intro|(intro hg;(try simp only [push_cast]at hg)))
     all_goals first|exact gA|(exact zQ (by simp only [push_cast];omega))|(exact zQ (by omega))|skip
     refine hL0 _ ⟨k+1,by omega,by omega,?_⟩
     rw [QO (by unfold akB;with_reducible assumption),WM (by unfold gvB;with_reducible assumption)]
     refine zY rfl ?_ ?_ ?_<;>simp only [zf,ze,push_cast,↓zK,↓zJ,↓reduceIte,zA,zB,zC,zD,zE,zF,zG,zH,zI,reduceCtorEq]
   ·
    refine zV ?_
    (try simp only [zR,zS,reduceIte,zF]);refine hK4 _ ?_
    refine zL fun K hK=> ?_
    refine zM zO zN [] rfl ?_
    all_goals refine zo 10 fun K9 hK9=> ?_
    all_goals simp only [push_cast,↓zK,↓zJ,↓reduceIte,zA,zB,zC,zD,zE,zF,zG,zH,zI,reduceCtorEq]
    all_goals repeat'(first|(apply zP<;>(intro hg;(try simp only [push_cast]at hg)))|(refine⟨_,vQ (gp ps (gi r k).toNat).give v (hgg _),?_⟩;simp only [push_cast,↓zK,↓zJ,↓reduceIte,zA,zB,zC,zD,zE,zF,zG,zH,zI,reduceCtorEq])|apply And.intro|(intro hg;(try simp only [push_cast]at hg)))
    all_goals first|exact gA|(exact zQ (by simp only [push_cast];omega))|(exact zQ (by omega))|skip
    all_goals first|(refine hK9 _ ?_;clear hK9 K9)|(simp only [push_cast];done)
    all_goals simp only [push_cast,↓zK,↓zJ,↓reduceIte,zA,zB,zC,zD,zE,zF,zG,zH,zI,reduceCtorEq]
    all_goals repeat'(first|(apply zP<;>(intro hg;(try simp only [push_cast]at hg)))|(refine⟨_,vQ (gp ps (gi r k).toNat).give v (hgg _),?_⟩;simp only [push_cast,↓zK,↓zJ,↓reduceIte,zA,zB,zC,zD,zE,zF,zG,zH,zI,reduceCtorEq])|apply And.intro|(intro hg;(try simp only [push_cast]at hg)))
    all_goals first|exact gA|(exact zQ (by simp only [push_cast];omega))|(exact zQ (by omega))|skip
    all_goals first|(refine hK _ ?_;clear hK K)|(simp only [push_cast];done)
    refine zU rfl (fun hc=> ?_) (fun hc=> ?_)<;>(try simp only [push_cast]at hc)
    ·
     refine zM zO zN [] rfl ?_
     all_goals simp only [push_cast,↓zK,↓zJ,↓reduceIte,zA,zB,zC,zD,zE,zF,zG,zH,zI,reduceCtorEq]
     all_goals repeat'(first|(apply zP<;>(intro hg;(try simp only [push_cast]at hg)))|apply And.intro|(intro hg;(try simp only [push_cast]at hg)))
     all_goals first|exact gA|(exact zQ (by simp only [push_cast];omega))|(exact zQ (by omega))|skip
     (try simp only [zR,zS,reduceIte,zF]);refine hK3 _ ?_
     refine zM zO zN [] rfl ?_
     all_goals simp only [push_cast,↓zK,↓zJ,↓reduceIte,zA,zB,zC,zD,zE,zF,zG,zH,zI,reduceCtorEq]
     all_goals repeat'(first|(apply zP<;>(intro hg;(try simp only [push_cast]at hg)))|apply And.intro|(intro hg;(try simp only [push_cast]at hg)))
     all_goals first|exact gA|(exact zQ (by simp only [push_cast];omega))|(exact zQ (by omega))|skip
     refine hL0 _ ⟨k+1,by omega,by omega,?_⟩
     rw [Vt (by unfold akB;with_reducible assumption),QU (by unfold gvB;with_reducible assumption)]
     refine zY rfl ?_ ?_ ?_<;>simp only [zf,ze,push_cast,↓zK,↓zJ,↓reduceIte,zA,zB,zC,zD,zE,zF,zG,zH,zI,reduceCtorEq]
    ·
     refine zV ?_
     (try simp only [zR,zS,reduceIte,zF]);refine hK3 _ ?_
     refine zM zO zN [] rfl ?_
     all_goals simp only [push_cast,↓zK,↓zJ,↓reduceIte,zA,zB,zC,zD,zE,zF,zG,zH,zI,reduceCtorEq]
     all_goals repeat'(first|(apply zP<;>(intro hg;(try simp only [push_cast]at hg)))|apply And.intro|(intro hg;(try simp only [push_cast]at hg)))
     all_goals first|exact gA|(exact zQ (by simp only [push_cast];omega))|(exact zQ (by omega))|skip
     refine hL0 _ ⟨k+1,by omega,by omega,?_⟩
     rw [Vt (by unfold akB;with_reducible assumption),WM (by unfold gvB;with_reducible assumption)]
     refine zY rfl ?_ ?_ ?_<;>simp only [zf,ze,push_cast,↓zK,↓zJ,↓reduceIte,zA,zB,zC,zD,zE,zF,zG,zH,zI,reduceCtorEq]
  ·
   refine zk ?_
   have hkk:k=r.length:=by omega
   subst hkk
   have har9:=har r.length
   have hgr9:=hgr r.length
   (try simp only [zR,zS,reduceIte,zF]);refine hK1 _ ?_
   refine zL fun K5 hK5=> ?_
   refine zW ?_
   refine zL fun K hK=> ?_
   refine zj false zO zN ?_ rfl ?_
   ·kernel_rfl
   all_goals simp only [push_cast,↓zK,↓zJ,↓reduceIte,zA,zB,zC,zD,zE,zF,zG,zH,zI,reduceCtorEq]
   all_goals repeat'(first|(apply zP<;>(intro hg;(try simp only [push_cast]at hg)))|apply And.intro|(intro hg;(try simp only [push_cast]at hg)))
   all_goals first|exact gA|(exact zQ (by simp only [push_cast];omega))|(exact zQ (by omega))|skip
   all_goals first|(refine hK _ ?_;clear hK K)|(simp only [push_cast];done)
   all_goals refine zU rfl (fun hc=> ?_) (fun hc=> ?_)
   all_goals(first|(cases hc;done)|skip)
   all_goals(try simp only [push_cast]at hc)
   all_goals first
    |(
      refine zL fun K hK=> ?_
      refine zM zO zN [] rfl ?_
      all_goals simp only [push_cast,↓zK,↓zJ,↓reduceIte,zA,zB,zC,zD,zE,zF,zG,zH,zI,reduceCtorEq]
      all_goals repeat'(first|(apply zP<;>(intro hg;(try simp only [push_cast]at hg)))|apply And.intro|(intro hg;(try simp only [push_cast]at hg)))
      all_goals first|exact gA|(exact zQ (by simp only [push_cast];omega))|(exact zQ (by omega))|skip
      all_goals first|(refine hK _ ?_;clear hK K)|(simp only [push_cast];done)
      all_goals refine zU rfl (fun hc=> ?_) (fun hc=> ?_)
      all_goals(first|(cases hc;done)|skip)
      all_goals(try simp only [push_cast]at hc)
      all_goals(first|(exfalso;omega)|skip)
      all_goals first
       |(
         refine zV ?_
         (try simp only [zR,zS,reduceIte,zF]);refine hK5 _ ?_
         refine zL fun K hK=> ?_
         refine zM zO zN [] rfl ?_
         all_goals simp only [push_cast,↓zK,↓zJ,↓reduceIte,zA,zB,zC,zD,zE,zF,zG,zH,zI,reduceCtorEq]
         all_goals repeat'(first|(apply zP<;>(intro hg;(try simp only [push_cast]at hg)))|apply And.intro|(intro hg;(try simp only [push_cast]at hg)))
         all_goals first|exact gA|(exact zQ (by simp only [push_cast];omega))|(exact zQ (by omega))|skip
         all_goals first|(refine hK _ ?_;clear hK K)|(simp only [push_cast];done)
         refine zX ?_
         (try simp only [zR,zS])
         refine⟨Or.inl rfl,?_⟩
         simp only [zd,push_cast,↓zK,↓zJ,↓reduceIte,zA,zB,zC,zD,zE,zF,zG,zH,zI,reduceCtorEq]
         all_goals(unfold prV;split<;>(try split)<;>omega)
         done)
       |(
         refine zL fun K hK=> ?_
         refine zM zO zN [] rfl ?_
         all_goals simp only [push_cast,↓zK,↓zJ,↓reduceIte,zA,zB,zC,zD,zE,zF,zG,zH,zI,reduceCtorEq]
         all_goals repeat'(first|(apply zP<;>(intro hg;(try simp only [push_cast]at hg)))|apply And.intro|(intro hg;(try simp only [push_cast]at hg)))
         all_goals first|exact gA|(exact zQ (by simp only [push_cast];omega))|(exact zQ (by omega))|skip
         all_goals first|(refine hK _ ?_;clear hK K)|(simp only [push_cast];done)
         refine zX ?_
         (try simp only [zR,zS])
         refine⟨Or.inl rfl,?_⟩
         simp only [zd,push_cast,↓zK,↓zJ,↓reduceIte,zA,zB,zC,zD,zE,zF,zG,zH,zI,reduceCtorEq]
         all_goals(unfold prV;split<;>(try split)<;>omega)
         done)
      done)
    |(
      refine zL fun K hK=> ?_
      refine zM zO zN [] rfl ?_
      all_goals simp only [push_cast,↓zK,↓zJ,↓reduceIte,zA,zB,zC,zD,zE,zF,zG,zH,zI,reduceCtorEq]
      all_goals repeat'(first|(apply zP<;>(intro hg;(try simp only [push_cast]at hg)))|apply And.intro|(intro hg;(try simp only [push_cast]at hg)))
      all_goals first|exact gA|(exact zQ (by simp only [push_cast];omega))|(exact zQ (by omega))|skip
      all_goals first|(refine hK _ ?_;clear hK K)|(simp only [push_cast];done)
      refine zX ?_
      (try simp only [zR,zS])
      refine⟨Or.inl rfl,?_⟩
      simp only [zd,push_cast,↓zK,↓zJ,↓reduceIte,zA,zB,zC,zD,zE,zF,zG,zH,zI,reduceCtorEq]
      all_goals(unfold prV;split<;>(try split)<;>omega)
      done)
attribute [-push_cast] rm
theorem zCE {s:List Int}{x:Int}:yD s x=true↔∃j,j<s.length∧gi s j=x:=by
 unfold yD
 rw [decide_eq_true_eq]
 constructor
 ·intro h;exact⟨_,h,zD4 h⟩
 ·rintro⟨j,hj,e⟩
  rcases Nat.lt_or_ge (qJ s x) s.length with h|h
  ·exact h
  ·exact absurd e (zBV (by have :=zB9 s x;omega))
theorem zGh {s:List Int}{j k:Nat}(h:j<k):gi (s.take k) j=gi s j:=by
 unfold gi
 rw [List.getD_eq_getElem?_getD,List.getD_eq_getElem?_getD,List.getElem?_take_of_lt h]
def JP (r:List Int)(n:Int)(i:Nat):Bool:=decide (0≤gi r i∧gi r i<n)&& !yD (r.take i) (gi r i)
def vO (r:List Int)(n:Int):Bool:=decide ((0≤n∧n≤4)∧(r.length:Int)=n)&&YO r.length (JP r n)
theorem zEc {r:List Int}{n:Int}{i:Nat}(h:0≤gi r i∧gi r i<n)(h2:yD (r.take i) (gi r i)=false):JP r n i=true:=by unfold JP;rw [decide_eq_true h,h2];rfl
theorem zGF {r:List Int}{n:Int}{i:Nat}(h:JP r n i=true):(0≤gi r i∧gi r i<n)∧yD (r.take i) (gi r i)=false:=by
 unfold JP at h
 rw [Bool.and_eq_true,decide_eq_true_eq,Bool.not_eq_true']at h
 exact h
theorem zGG {r:List Int}{n:Int}(h:(0≤n∧n≤4)∧(r.length:Int)=n)(h2: ∀i,i<r.length→JP r n i=true):vO r n=true:=by unfold vO;rw [decide_eq_true h,vp h2];rfl
theorem qu {r:List Int}{n:Int}(h:vO r n=true):((0≤n∧n≤4)∧(r.length:Int)=n)∧∀i,i<r.length→(0≤gi r i∧gi r i<n)∧∀j,j<i→gi r j≠gi r i:=by
 unfold vO at h
 rw [Bool.and_eq_true,decide_eq_true_eq]at h
 refine⟨h.1,fun i hi=> ?_⟩
 have h1:=zGF (vI h.2 hi)
 refine⟨h1.1,fun j hj e=> ?_⟩
 have h2:yD (r.take i) (gi r i)=true:=zCE.2 ⟨j,by rw [List.length_take];omega,by rw [zGh hj];exact e⟩
 rw [h1.2]at h2
 cases h2
attribute [-push_cast] rm
def gvP (ps:List Pr)(v x:Int):Bool:=yD (gp ps x.toNat).give v
def nxL (ps:List Pr)(r:List Int)(v:Int):List Int:=nrF ps r v r.length++nrR ps r v r.length
theorem zGx {r:List Int}{k:Nat}(h:k<r.length):r.take (k+1)=r.take k++ [gi r k]:=by
 rw [List.take_succ_eq_append_getElem h]
 unfold gi
 rw [List.getD_eq_getElem?_getD,List.getElem?_eq_getElem h]
 rfl
theorem zAe (ps:List Pr)(r:List Int)(v:Int): ∀k,k≤r.length→nrF ps r v k=(r.take k).filter (gvP ps v)
 |0,_=>by rw [List.take_zero];rfl
 |k+1,h=>by
  have ih:=zAe ps r v k (by omega)
  rw [zGx (by omega),List.filter_append]
  cases hb:gvB ps r v k with
  |true=>rw [JL hb,ih,List.filter_cons,if_pos (show gvP ps v (gi r k)=true from hb)];rfl
  |false=>rw [jM hb,ih,List.filter_cons,if_neg (show ¬gvP ps v (gi r k)=true from (by rw [show gvP ps v (gi r k)=false from hb];decide))];simp
theorem zAf (ps:List Pr)(r:List Int)(v:Int): ∀k,k≤r.length→nrR ps r v k=(r.take k).filter (fun x=> !gvP ps v x)
 |0,_=>by rw [List.take_zero];rfl
 |k+1,h=>by
  have ih:=zAf ps r v k (by omega)
  rw [zGx (by omega),List.filter_append]
  cases hb:gvB ps r v k with
  |true=>rw [JM hb,ih,List.filter_cons,if_neg (show ¬(!gvP ps v (gi r k))=true from (by rw [show gvP ps v (gi r k)=true from hb];decide))];simp
  |false=>rw [jN hb,ih,List.filter_cons,if_pos (show(!gvP ps v (gi r k))=true from (by rw [show gvP ps v (gi r k)=false from hb];rfl))];rfl
theorem zJa (ps:List Pr)(r:List Int)(v:Int):nxL ps r v=r.filter (gvP ps v)++r.filter (fun x=> !gvP ps v x):=by
 unfold nxL
 rw [zAe ps r v _ (Nat.le_refl _),zAf ps r v _ (Nat.le_refl _),List.take_length]
theorem zFz (ps:List Pr)(r:List Int)(v:Int):(nxL ps r v).Perm r:=by
 rw [zJa]
 exact List.filter_append_perm _ _
theorem zHe {r:List Int}{i:Nat}(h:i<r.length):gi r i∈r:=by
 unfold gi
 rw [List.getD_eq_getElem?_getD,List.getElem?_eq_getElem h]
 exact List.getElem_mem h
theorem zHs {r:List Int}{x:Int}(h:x∈r): ∃i,i<r.length∧gi r i=x:=by
 obtain⟨i,hi,e⟩:=List.mem_iff_getElem.1 h
 refine⟨i,hi,?_⟩
 unfold gi
 rw [List.getD_eq_getElem?_getD,List.getElem?_eq_getElem hi]
 exact e
theorem JB {r:List Int}{i:Nat}(h:i<r.length):gi r i=r[i]:=by
 unfold gi
 rw [List.getD_eq_getElem?_getD,List.getElem?_eq_getElem h]
 rfl
theorem zEd {r:List Int}{n:Int}(h:vO r n=true):((0≤n∧n≤4)∧(r.length:Int)=n)∧(∀x∈r,0≤x∧x<n)∧r.Nodup:=by
 have hf:=qu h
 refine⟨hf.1,fun x hx=> ?_,?_⟩
 ·obtain⟨i,hi,rfl⟩:=zHs hx
  exact(hf.2 i hi).1
 ·rw [List.Nodup,List.pairwise_iff_getElem]
  intro i j hi hj hij
  rw [←JB hi,←JB hj]
  exact(hf.2 j hj).2 i hij
theorem zEe {r:List Int}{n:Int}(h1:(0≤n∧n≤4)∧(r.length:Int)=n)(h2: ∀x∈r,0≤x∧x<n)(h3:r.Nodup):vO r n=true:=by
 refine zGG h1 fun i hi=>zEc (h2 _ (zHe hi)) ?_
 cases hb:yD (r.take i) (gi r i)with
 |false=>rfl
 |true=>
  obtain⟨j,hj,e⟩:=zCE.1 hb
  rw [List.length_take]at hj
  rw [zGh (by omega),JB (by omega),JB hi]at e
  have :=(List.pairwise_iff_getElem.1 h3) j i (by omega) hi (by omega)
  exact absurd e this
theorem zGH {ps:List Pr}{r:List Int}{n v:Int}(h:vO r n=true):vO (nxL ps r v) n=true:=by
 have hf:=zEd h
 have hp:=zFz ps r v
 refine zEe ⟨hf.1.1,?_⟩ (fun x hx=>hf.2.1 x (hp.mem_iff.1 hx)) (hp.nodup_iff.2 hf.2.2)
 rw [hp.length_eq]
 exact hf.1.2
def qt (ps:List Pr)(r:List Int)(v:Int):Int:=prV (akI ps r v r.length) (gvI ps r v r.length)
theorem zF9 (ps:List Pr)(r:List Int)(v:Int): -1<qt ps r v∧qt ps r v≤2*r.length:=by
 have h1:=Kl ps r v r.length
 have h2:=jC ps r v r.length
 unfold qt prV
 split
 ·omega
 ·split<;>omega
attribute [irreducible] nxL qt
def zT (k:Nat):List Int:=(List.range k).map Int.ofNat
theorem zEH (k:Nat):zT (k+1)=zT k++ [(k:Int)]:=by unfold zT;rw [List.range_succ,List.map_append];rfl
theorem VG (k:Nat):(zT k).length=k:=by simp [zT]
theorem zFe {k:Nat}(h:k≤4):vO (zT k) (k:Int)=true:=by
 refine zEe ⟨⟨by omega,by omega⟩,by rw [VG]⟩ (fun x hx=> ?_) ?_
 ·unfold zT at hx
  obtain⟨j,hj,rfl⟩:=List.mem_map.1 hx
  have :=List.mem_range.1 hj
  show 0≤(j:Int)∧(j:Int)<k
  omega
 ·unfold zT
  rw [List.Nodup,List.pairwise_map]
  exact List.Pairwise.imp (fun{a b} h e=>h (Int.ofNat.inj e)) List.nodup_range
def rcR (ps:List Pr)(p:Plc):List Int:=nxL ps p.record p.at_
def prR (ps:List Pr)(p:Plc):Int:=qt ps p.record p.at_
def rgC (a:Ar)(ps:List Pr)(s:Int):Bool:=yc a&&(arB ps a.owner.length&&decide (0≤s∧s≤(a.owner.length:Int) - 1))
def rgB (a:Ar)(ps:List Pr)(s:Int):Bool:=rgC a ps s&&okQ (usA a) (rcR ps) ⟨s,zT ps.length⟩
def rgG (a:Ar)(ps:List Pr)(s:Int):Pa:=gmR a (rcR ps) (prR ps) ⟨s,zT ps.length⟩ (rgC a ps s)
def rgP (a:Ar)(ps:List Pr)(s:Int):List Plc:=plR a (rcR ps) ⟨s,zT ps.length⟩ (rgC a ps s)
theorem zIn {ps:List Pr}{n:Int}(h:arB ps n=true):ps.length≤4:=by
 unfold arB at h
 rw [Bool.and_eq_true,decide_eq_true_eq]at h
 exact h.1
theorem wE {a:Ar}{ps:List Pr}{s:Int}(h:rgC a ps s=true):yc a=true∧ps.length≤4∧Qp a (rcR ps) ⟨s,zT ps.length⟩ (fun r=>vO r ps.length=true) 4:=by
 unfold rgC at h
 rw [Bool.and_eq_true,Bool.and_eq_true,decide_eq_true_eq]at h
 obtain⟨h1,h2,h3⟩:=h
 have h4:=zIn h2
 exact⟨h1,h4,⟨⟨h3.1,by show s<_;omega,zFe h4⟩,fun p _ _ h=>zGH h,fun r hr=>by have :=(qu hr).1;omega⟩⟩
theorem kN {a:Ar}{ps:List Pr}{s:Int}:(rgG a ps s).Ln 1048576:=zJI (V:=fun r=>vO r ps.length=true) (B:=4) fun h=>⟨(wE h).1,(wE h).2.2⟩
theorem zCU {a:Ar}{ps:List Pr}{s:Int}:QLn 1048576 (rgP a ps s):=zJd (V:=fun r=>vO r ps.length=true) (B:=4) (by decide) fun h=>⟨(wE h).1,(wE h).2.2⟩
theorem zJm {a:Ar}{ps:List Pr}{s:Int}(h:rgC a ps s=false):rgB a ps s=false∧rgG a ps s=⟨⟨[],[]⟩,[]⟩∧rgP a ps s= []:=by
 have :(rgC a ps s&&okQ (usA a) (rcR ps) ⟨s,zT ps.length⟩)=false:=by rw [h];rfl
 exact⟨this,zAM this,zAk this⟩
theorem zEh {a:Ar}{ps:List Pr}{s:Int}(h:okQ (usA a) (rcR ps) ⟨s,zT ps.length⟩=false):rgB a ps s=false∧rgG a ps s=⟨⟨[],[]⟩,[]⟩∧rgP a ps s= []:=by
 have :(rgC a ps s&&okQ (usA a) (rcR ps) ⟨s,zT ps.length⟩)=false:=by rw [h,Bool.and_false]
 exact⟨this,zAM this,zAk this⟩
theorem zCQ {a:Ar}{ps:List Pr}{s:Int}(h:yc a=false):rgC a ps s=false:=by unfold rgC;rw [h];rfl
theorem zCR {a:Ar}{ps:List Pr}{s:Int}(h:arB ps a.owner.length=false):rgC a ps s=false:=by unfold rgC;rw [h,Bool.false_and,Bool.and_false]
theorem zCS {a:Ar}{ps:List Pr}{s:Int}(h: ¬(0≤s∧s≤(a.owner.length:Int) - 1)):rgC a ps s=false:=by unfold rgC;rw [decide_eq_false h,Bool.and_false,Bool.and_false]
theorem zCT {a:Ar}{ps:List Pr}{s:Int}(h1:yc a=true)(h2:arB ps a.owner.length=true)(h3:0≤s∧s≤(a.owner.length:Int) - 1):rgC a ps s=true:=by unfold rgC;rw [h1,h2,decide_eq_true h3];rfl
end Go.Proofs.Ythepmdkpbjfdcaa
