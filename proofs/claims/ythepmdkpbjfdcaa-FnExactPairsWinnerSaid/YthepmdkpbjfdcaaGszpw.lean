/- Recorded: the reference's side -/
import Derived.Test.YthepmdkpbjfdcaaB16zpw
import Derived.Test.YthepmdkpbjfdcaaB15zpw
namespace Go.Proofs.Ythepmdkpbjfdcaa
open Nat renaming reduceMod → zA, reduceMul → zB, reduceDiv → zC, reduceAdd → zD, reduceSub → zE, reduceEqDiff → zF, reduceBEq → zG, reduceLT → zH, reduceLeDiff → zI
open Go.RowKit
set_option linter.unusedVariables false
set_option linter.unusedSimpArgs false
set_option maxRecDepth 20000 in
set_option maxHeartbeats 4000000 in
theorem zC8 (ps:List Pr)(ha:PLn 1048576 ps)(r:List Int)(hr:r.length≤1048576)(hrr: ∀i,i<r.length→0≤gi r i∧gi r i<(ps.length:Int))(v:Int):Fn Try.prog tyT 98 [.c (.lst 90 (dII (ilv ps))), .c (DI r), .c (.int .i64 v)] [.c (DI (nrF ps r v r.length++nrR ps r v r.length))]:=by
 have hl:=ha.1
 have hg:=fun k=>Yb ha k
 have hgg: ∀k,(gp ps k).give.length≤1048576:=fun k=>(hg k).give
 have hli:=xx ps
 have hnl:=zAg ps r v
 refine zw (fn:=Try.f98) (ts:= [6]) Try.func98 (by kernel_rfl) rfl rfl (by rw [Try.ntmps98];exact Nat.le_of_ble_eq_true rfl) rfl (by simp only [szA,List.mem_cons,List.not_mem_nil,or_false,forall_eq_or_imp,forall_eq,VT.cells,szL];try decide) ?_
 rw [Try.ntmps98]
 simp only [push_cast,↓zK,↓zJ,↓reduceIte,zA,zB,zC,zD,zE,zF,zG,zH,zI,reduceCtorEq]
 refine zL fun K hK=> ?_
 refine zM zO zN [] rfl ?_
 all_goals simp only [push_cast,↓zK,↓zJ,↓reduceIte,zA,zB,zC,zD,zE,zF,zG,zH,zI,reduceCtorEq]
 all_goals repeat'(first|(apply zP<;>(intro hg;(try simp only [push_cast]at hg)))|apply And.intro|(intro hg;(try simp only [push_cast]at hg)))
 all_goals first|exact gA|(exact zQ (by simp only [push_cast];omega))|(exact zQ (by omega))|skip
 all_goals first|(refine hK _ ?_;clear hK K)|(simp only [push_cast];done)
 refine zL fun K hK=> ?_
 refine zM zO zN [] rfl ?_
 all_goals simp only [push_cast,↓zK,↓zJ,↓reduceIte,zA,zB,zC,zD,zE,zF,zG,zH,zI,reduceCtorEq]
 all_goals repeat'(first|(apply zP<;>(intro hg;(try simp only [push_cast]at hg)))|apply And.intro|(intro hg;(try simp only [push_cast]at hg)))
 all_goals first|exact gA|(exact zQ (by simp only [push_cast];omega))|(exact zQ (by omega))|skip
 all_goals first|(refine hK _ ?_;clear hK K)|(simp only [push_cast];done)
 refine zL fun K hK=> ?_
 refine zM zO zN [] rfl ?_
 all_goals simp only [push_cast,↓zK,↓zJ,↓reduceIte,zA,zB,zC,zD,zE,zF,zG,zH,zI,reduceCtorEq]
 all_goals repeat'(first|(apply zP<;>(intro hg;(try simp only [push_cast]at hg)))|apply And.intro|(intro hg;(try simp only [push_cast]at hg)))
 all_goals first|exact gA|(exact zQ (by simp only [push_cast];omega))|(exact zQ (by omega))|skip
 all_goals first|(refine hK _ ?_;clear hK K)|(simp only [push_cast];done)
 refine zL fun K1 hK1=> ?_
 refine zL fun K hK=> ?_
 refine zM zO zN [] rfl ?_
 all_goals simp only [push_cast,↓zK,↓zJ,↓reduceIte,zA,zB,zC,zD,zE,zF,zG,zH,zI,reduceCtorEq]
 all_goals repeat'(first|(apply zP<;>(intro hg;(try simp only [push_cast]at hg)))|apply And.intro|(intro hg;(try simp only [push_cast]at hg)))
 all_goals first|exact gA|(exact zQ (by simp only [push_cast];omega))|(exact zQ (by omega))|skip
 all_goals first|(refine hK _ ?_;clear hK K)|(simp only [push_cast];done)
 refine zW ?_
 refine zi [7,8,9,12,13,14,15,16,17,18,19,20,21,22,23,24,25,26,27,28,29,30,31,32,33,34,35,36,37,38,39,40,41] [112,128] (fun(k:Nat)=> [(9, .int .i64 k),(7, .sl 112 [] 0 (nrF ps r v k).length 2),(8, .sl 128 [] 0 (nrR ps r v k).length 2)]) (fun k=> []) (fun k=> [(112,⟨.ex,2,dI (nrF ps r v k),none⟩),(128,⟨.ex,2,dI (nrR ps r v k),none⟩)]) (fun k=>k≤r.length) (fun k=>r.length - k) 0 ?_ (by omega) ?_
 ·
  rw [show nrF ps r v 0= []from rfl,show nrR ps r v 0= []from rfl,show dI ([]:List Int)= []from rfl]
  refine zY rfl ?_ ?_ ?_<;>simp only [zf,ze,push_cast,↓zK,↓zJ,↓reduceIte,zA,zB,zC,zD,zE,zF,zG,zH,zI,reduceCtorEq]
 ·rintro k hk KL0 hL0
  simp only [push_cast,↓zK,↓zJ,↓reduceIte,zA,zB,zC,zD,zE,zF,zG,zH,zI,reduceCtorEq]
  refine zL fun K2 hK2=> ?_
  refine zL fun K hK=> ?_
  refine zM zO zN [] rfl ?_
  all_goals simp only [push_cast,↓zK,↓zJ,↓reduceIte,zA,zB,zC,zD,zE,zF,zG,zH,zI,reduceCtorEq]
  all_goals repeat'(first|(apply zP<;>(intro hg;(try simp only [push_cast]at hg)))|apply And.intro|(intro hg;(try simp only [push_cast]at hg)))
  all_goals first|exact gA|(exact zQ (by simp only [push_cast];omega))|(exact zQ (by omega))|skip
  all_goals first|(refine hK _ ?_;clear hK K)|(simp only [push_cast];done)
  refine zU rfl (fun hc=> ?_) (fun hc=> ?_)<;>(try simp only [push_cast]at hc)
  ·
   refine zV ?_
   (try simp only [zR,zS,reduceIte,zF]);refine hK2 _ ?_
   refine zL fun K3 hK3=> ?_
   refine zW ?_
   have hrk:=hrr k (by omega)
   have hnk:=hnl k
   refine zL fun K hK=> ?_
   refine zM zO zN [] rfl ?_
   all_goals refine zo 10 fun K9 hK9=> ?_
   all_goals simp only [push_cast,↓zK,↓zJ,↓reduceIte,zA,zB,zC,zD,zE,zF,zG,zH,zI,reduceCtorEq]
   all_goals repeat'(first|(apply zP<;>(intro hg;(try simp only [push_cast]at hg)))|(refine⟨_,vQ (gp ps (gi r k).toNat).give v (hgg _),?_⟩;simp only [push_cast,↓zK,↓zJ,↓reduceIte,zA,zB,zC,zD,zE,zF,zG,zH,zI,reduceCtorEq])|apply And.intro|(intro hg;(try simp only [push_cast]at hg)))
   all_goals first|exact gA|(exact zQ (by simp only [push_cast];omega))|(exact zQ (by omega))|skip
   all_goals first|(refine hK9 _ ?_;clear hK9 K9)|(simp only [push_cast];done)
   all_goals simp only [push_cast,↓zK,↓zJ,↓reduceIte,zA,zB,zC,zD,zE,zF,zG,zH,zI,reduceCtorEq]
   all_goals repeat'(first|(apply zP<;>(intro hg;(try simp only [push_cast]at hg)))|(refine⟨_,vQ (gp ps (gi r k).toNat).give v (hgg _),?_⟩;simp only [push_cast,↓zK,↓zJ,↓reduceIte,zA,zB,zC,zD,zE,zF,zG,zH,zI,reduceCtorEq])|apply And.intro|(intro hg;(try simp only [push_cast]at hg)))
   all_goals first|exact gA|(exact zQ (by simp only [push_cast];omega))|(exact zQ (by omega))|skip
   all_goals first|(refine hK _ ?_;clear hK K)|(simp only [push_cast];done)
   refine zU rfl (fun hc=> ?_) (fun hc=> ?_)<;>(try simp only [push_cast]at hc)
   ·
    refine zM zO zN [] rfl ?_
    all_goals simp only [push_cast,↓zK,↓zJ,↓reduceIte,zA,zB,zC,zD,zE,zF,zG,zH,zI,reduceCtorEq]
    all_goals repeat'(first|(apply zP<;>(intro hg;(try simp only [push_cast]at hg)))|apply And.intro|(intro hg;(try simp only [push_cast]at hg)))
    all_goals first|exact gA|(exact zQ (by simp only [push_cast];omega))|(exact zQ (by omega))|skip
    (try simp only [zR,zS,reduceIte,zF]);refine hK3 _ ?_
    refine zM zO zN [] rfl ?_
    all_goals simp only [push_cast,↓zK,↓zJ,↓reduceIte,zA,zB,zC,zD,zE,zF,zG,zH,zI,reduceCtorEq]
    all_goals repeat'(first|(apply zP<;>(intro hg;(try simp only [push_cast]at hg)))|apply And.intro|(intro hg;(try simp only [push_cast]at hg)))
    all_goals first|exact gA|(exact zQ (by simp only [push_cast];omega))|(exact zQ (by omega))|skip
    refine hL0 _ ⟨k+1,by omega,by omega,?_⟩
    rw [JL (by unfold gvB;with_reducible assumption),JM (by unfold gvB;with_reducible assumption)]
    refine zY rfl ?_ ?_ ?_<;>simp only [zf,ze,push_cast,↓zK,↓zJ,↓reduceIte,zA,zB,zC,zD,zE,zF,zG,zH,zI,reduceCtorEq]
    all_goals(try(rw [List.length_append];rfl))
   ·
    refine zM zO zN [] rfl ?_
    all_goals simp only [push_cast,↓zK,↓zJ,↓reduceIte,zA,zB,zC,zD,zE,zF,zG,zH,zI,reduceCtorEq]
    all_goals repeat'(first|(apply zP<;>(intro hg;(try simp only [push_cast]at hg)))|apply And.intro|(intro hg;(try simp only [push_cast]at hg)))
    all_goals first|exact gA|(exact zQ (by simp only [push_cast];omega))|(exact zQ (by omega))|skip
    (try simp only [zR,zS,reduceIte,zF]);refine hK3 _ ?_
    refine zM zO zN [] rfl ?_
    all_goals simp only [push_cast,↓zK,↓zJ,↓reduceIte,zA,zB,zC,zD,zE,zF,zG,zH,zI,reduceCtorEq]
    all_goals repeat'(first|(apply zP<;>(intro hg;(try simp only [push_cast]at hg)))|apply And.intro|(intro hg;(try simp only [push_cast]at hg)))
    all_goals first|exact gA|(exact zQ (by simp only [push_cast];omega))|(exact zQ (by omega))|skip
    refine hL0 _ ⟨k+1,by omega,by omega,?_⟩
    rw [jM (by unfold gvB;with_reducible assumption),jN (by unfold gvB;with_reducible assumption)]
    refine zY rfl ?_ ?_ ?_<;>simp only [zf,ze,push_cast,↓zK,↓zJ,↓reduceIte,zA,zB,zC,zD,zE,zF,zG,zH,zI,reduceCtorEq]
    all_goals(try(rw [List.length_append];rfl))
  ·
   refine zk ?_
   have hkk:k=r.length:=by omega
   subst hkk
   have hnk9:=hnl r.length
   (try simp only [zR,zS,reduceIte,zF]);refine hK1 _ ?_
   refine zL fun K hK=> ?_
   refine zM zO zN [] rfl ?_
   all_goals simp only [push_cast,↓zK,↓zJ,↓reduceIte,zA,zB,zC,zD,zE,zF,zG,zH,zI,reduceCtorEq]
   all_goals repeat'(first|(apply zP<;>(intro hg;(try simp only [push_cast]at hg)))|apply And.intro|(intro hg;(try simp only [push_cast]at hg)))
   all_goals first|exact gA|(exact zQ (by simp only [push_cast];omega))|(exact zQ (by omega))|skip
   all_goals first|(refine hK _ ?_;clear hK K)|(simp only [push_cast];done)
   refine zX ?_
   (try simp only [zR,zS])
   refine⟨Or.inl rfl,?_⟩
   simp only [zd,push_cast,↓zK,↓zJ,↓reduceIte,zA,zB,zC,zD,zE,zF,zG,zH,zI,reduceCtorEq]
   first|exact List.length_append.symm|exact⟨rfl,List.length_append.symm⟩|skip
theorem Jg (ps:List Pr)(ha:PLn 1048576 ps)(r:List Int)(v:Int)(h:vO r ps.length=true):Fn Try.prog tyT 98 [.c (.lst 90 (dII (ilv ps))), .c (DI r), .c (.int .i64 v)] [.c (DI (nxL ps r v))]:=by
 have hf:=qu h
 have h1:=zC8 ps ha r (by omega) (fun i hi=>(hf.2 i hi).1) v
 unfold nxL
 exact h1
theorem zBX (ps:List Pr)(ha:PLn 1048576 ps)(r:List Int)(v:Int)(h:vO r ps.length=true):Fn Try.prog tyT 101 [.c (.lst 90 (dII (ilv ps))), .c (DI r), .c (.int .i64 v)] [.c (.int .i64 (qt ps r v))]:=by
 have hf:=qu h
 have h1:=zC9 ps ha r (by omega) (fun i hi=>(hf.2 i hi).1) v
 unfold qt
 exact h1
theorem zBc (ps:List Pr)(ha:PLn 1048576 ps)(r:List Int)(v:Int)(h:vO r ps.length=true):Fn Try.prog tyT 109 [.c (.lst 90 (dII (ilv ps))), .c (DI r), .c (.int .i64 v)] [.c (DI (nxL ps r v))]:=by
 have hf:=qu h
 have h1:=zBb ps ha r (by omega) (fun i hi=>(hf.2 i hi).1) v
 unfold nxL
 exact h1
theorem zBk (ps:List Pr)(ha:PLn 1048576 ps)(r:List Int)(v:Int)(h:vO r ps.length=true):Fn Try.prog tyT 111 [.c (.lst 90 (dII (ilv ps))), .c (DI r), .c (.int .i64 v)] [.c (.int .i64 (qt ps r v))]:=by
 have hf:=qu h
 have h1:=zBj ps ha r (by omega) (fun i hi=>(hf.2 i hi).1) v
 unfold qt
 exact h1
set_option maxRecDepth 20000 in
set_option maxHeartbeats 8000000 in
theorem UN (a:Ar)(ha:a.Ln 1048576)(ps:List Pr)(hp:PLn 1048576 ps)(s:Int):Fn Try.prog tyT 52 [.agg (dAr a), .c (.lst 90 (dII (ilv ps))), .c (.int .i64 s)] [.agg (dPa (rgG a ps s)), .c (.lst 102 (yp (rgP a ps s))), .c (.bool (rgB a ps s))]:=by
 have hno:=ha.owner
 have hnn:=ha.next.1
 have hrr: ∀v,(gl a.next v).length≤1048576:=fun v=>uz ha.next v
 unfold LnI at hno
 have hA:=zBH a ha
 have hF:=zBI ps hp (a.owner.length:Int)
 have hI:=xA s 0 ((a.owner.length:Int) - 1)
 have hpl0:=hp.1
 have hli:=xx ps
 unfold dAr at hA
 unfold dAr dPa
 refine Kb (fn:=Try.f52) (rs:= [.cell 6 84, .tmp 7, .tmp 8]) zO zN Try.func52 (by kernel_rfl) rfl rfl (by rw [Try.ntmps52];exact Nat.le_of_ble_eq_true rfl) rfl (by simp only [szA,List.mem_cons,List.not_mem_nil,or_false,forall_eq_or_imp,forall_eq,VT.cells,szL];try decide) ?_
 rw [Try.ntmps52]
 simp only [push_cast,↓zK,↓zJ,↓reduceIte,zA,zB,zC,zD,zE,zF,zG,zH,zI,reduceCtorEq]
 refine zL fun K hK=> ?_
 refine zM zO zN [] rfl ?_
 all_goals simp only [push_cast,↓zK,↓zJ,↓reduceIte,zA,zB,zC,zD,zE,zF,zG,zH,zI,reduceCtorEq]
 all_goals repeat'(first|(apply zP<;>(intro hg;(try simp only [push_cast]at hg)))|apply And.intro|(intro hg;(try simp only [push_cast]at hg)))
 all_goals first|exact gA|(exact zb (by omega))|skip
 all_goals first|(refine hK _ ?_;clear hK K)|(simp only [push_cast];done)
 refine zL fun K hK=> ?_
 refine zM zO zN [] rfl ?_
 all_goals simp only [push_cast,↓zK,↓zJ,↓reduceIte,zA,zB,zC,zD,zE,zF,zG,zH,zI,reduceCtorEq]
 all_goals repeat'(first|(apply zP<;>(intro hg;(try simp only [push_cast]at hg)))|apply And.intro|(intro hg;(try simp only [push_cast]at hg)))
 all_goals first|exact gA|(exact zb (by omega))|skip
 all_goals first|(refine hK _ ?_;clear hK K)|(simp only [push_cast];done)
 refine zL fun K1 hK1=> ?_
 refine zL fun K hK=> ?_
 refine zj false zO zN ?_ rfl ?_
 ·kernel_rfl
 all_goals refine yC 2 fun K9 hK9=> ?_
 all_goals simp only [push_cast,↓zK,↓zJ,↓reduceIte,zA,zB,zC,zD,zE,zF,zG,zH,zI,reduceCtorEq]
 all_goals repeat'(first|(apply zP<;>(intro hg;(try simp only [push_cast]at hg)))|(refine⟨_,hA,?_⟩;simp only [push_cast,↓zK,↓zJ,↓reduceIte,zA,zB,zC,zD,zE,zF,zG,zH,zI,reduceCtorEq])|apply And.intro|(intro hg;(try simp only [push_cast]at hg)))
 all_goals first|exact gA|(exact zb (by omega))|skip
 all_goals first|(refine hK9 _ ?_;clear hK9 K9)|(simp only [push_cast];done)
 all_goals refine yC 5 fun K9 hK9=> ?_
 all_goals simp only [push_cast,↓zK,↓zJ,↓reduceIte,zA,zB,zC,zD,zE,zF,zG,zH,zI,reduceCtorEq]
 all_goals repeat'(first|(apply zP<;>(intro hg;(try simp only [push_cast]at hg)))|(refine⟨_,hF,?_⟩;simp only [push_cast,↓zK,↓zJ,↓reduceIte,zA,zB,zC,zD,zE,zF,zG,zH,zI,reduceCtorEq])|apply And.intro|(intro hg;(try simp only [push_cast]at hg)))
 all_goals first|exact gA|(exact zb (by omega))|skip
 all_goals first|(refine hK9 _ ?_;clear hK9 K9)|(simp only [push_cast];done)
 all_goals refine yC 7 fun K9 hK9=> ?_
 all_goals simp only [push_cast,↓zK,↓zJ,↓reduceIte,zA,zB,zC,zD,zE,zF,zG,zH,zI,reduceCtorEq]
 all_goals repeat'(first|(apply zP<;>(intro hg;(try simp only [push_cast]at hg)))|(refine⟨_,hI,?_⟩;simp only [push_cast,↓zK,↓zJ,↓reduceIte,zA,zB,zC,zD,zE,zF,zG,zH,zI,reduceCtorEq])|apply And.intro|(intro hg;(try simp only [push_cast]at hg)))
 all_goals first|exact gA|(exact zb (by omega))|skip
 all_goals first|(refine hK9 _ ?_;clear hK9 K9)|(simp only [push_cast];done)
 all_goals simp only [push_cast,↓zK,↓zJ,↓reduceIte,zA,zB,zC,zD,zE,zF,zG,zH,zI,reduceCtorEq]
 all_goals repeat'(first|(apply zP<;>(intro hg;(try simp only [push_cast]at hg)))|(refine⟨_,hA,?_⟩;simp only [push_cast,↓zK,↓zJ,↓reduceIte,zA,zB,zC,zD,zE,zF,zG,zH,zI,reduceCtorEq])|(refine⟨_,hF,?_⟩;simp only [push_cast,↓zK,↓zJ,↓reduceIte,zA,zB,zC,zD,zE,zF,zG,zH,zI,reduceCtorEq])|(refine⟨_,hI,?_⟩;simp only [push_cast,↓zK,↓zJ,↓reduceIte,zA,zB,zC,zD,zE,zF,zG,zH,zI,reduceCtorEq])|apply And.intro|(intro hg;(try simp only [push_cast]at hg)))
 all_goals first|exact gA|(exact zb (by omega))|skip
 all_goals first|(refine hK _ ?_;clear hK K)|(simp only [push_cast];done)
 all_goals refine zU rfl (fun hc=> ?_) (fun hc=> ?_)
 all_goals(first|(cases hc;done)|skip)
 all_goals(try simp only [push_cast]at hc)
 all_goals try(
   refine zL fun K hK=> ?_
   refine zj false zO zN ?_ rfl ?_
   ·kernel_rfl
   simp only [push_cast,↓zK,↓zJ,↓reduceIte,zA,zB,zC,zD,zE,zF,zG,zH,zI,reduceCtorEq]
   all_goals repeat'(first|(apply zP<;>(intro hg;(try simp only [push_cast]at hg)))|apply And.intro|(intro hg;(try simp only [push_cast]at hg)))
   all_goals first|exact gA|(exact zb (by omega))|skip
   all_goals first|(refine hK _ ?_;clear hK K)|(simp only [push_cast];done)
   refine zX ?_
   (try simp only [zR,zS])
   refine⟨Or.inl rfl,?_⟩
   simp only [zd,yE,yj,push_cast,↓zK,↓zJ,↓reduceIte,zA,zB,zC,zD,zE,zF,zG,zH,zI,reduceCtorEq]
   obtain⟨e1,e2,e3⟩:=zJm (a:=a) (ps:=ps) (s:=s) (by first|exact zCQ (by with_reducible assumption)|exact zCR (by have hln9:=yv (a:=a) (by with_reducible assumption);rw [←KS (by omega)];with_reducible assumption)|exact zCS (by omega))
   rw [e1,e2,e3]
   all_goals first|rfl|exact⟨rfl,rfl⟩|(simp [dI,dII,yp];done)
   done)
 refine zV ?_
 (try simp only [zR,zS,reduceIte,zF]);refine hK1 _ ?_
 have hC:rgC a ps s=true:=zCT (by with_reducible assumption) (by have hln9:=yv (a:=a) (by with_reducible assumption);rw [←KS (by omega)];with_reducible assumption) (by omega)
 obtain⟨h1,h2,h3⟩:=wE hC
 have hln:=yv h1
 refine zL fun K hK=> ?_
 refine zM zO zN [] rfl ?_
 all_goals simp only [push_cast,↓zK,↓zJ,↓reduceIte,zA,zB,zC,zD,zE,zF,zG,zH,zI,reduceCtorEq]
 all_goals repeat'(first|(apply zP<;>(intro hg;(try simp only [push_cast]at hg)))|apply And.intro|(intro hg;(try simp only [push_cast]at hg)))
 all_goals first|exact gA|(exact zb (by omega))|skip
 all_goals first|(refine hK _ ?_;clear hK K)|(simp only [push_cast];done)
 refine zL fun K2 hK2=> ?_
 refine zL fun K hK=> ?_
 refine zM zO zN [] rfl ?_
 all_goals simp only [push_cast,↓zK,↓zJ,↓reduceIte,zA,zB,zC,zD,zE,zF,zG,zH,zI,reduceCtorEq]
 all_goals repeat'(first|(apply zP<;>(intro hg;(try simp only [push_cast]at hg)))|apply And.intro|(intro hg;(try simp only [push_cast]at hg)))
 all_goals first|exact gA|(exact zb (by omega))|skip
 all_goals first|(refine hK _ ?_;clear hK K)|(simp only [push_cast];done)
 refine zW ?_
 refine zi [10,11,27,33,43,44,45,46,47,48,49,50,51,52] [160] (fun(k:Nat)=> [(11, .int .i64 k),(10, .sl 160 [] 0 k 2)]) (fun k=> []) (fun k=> [(160,⟨.ex,2,dI (zT k),none⟩)]) (fun k=>k≤ps.length) (fun k=>ps.length - k) 0 ?_ (by omega) ?_
 ·
  rw [show zT 0= []from rfl,show dI ([]:List Int)= []from rfl]
  refine zY rfl ?_ ?_ ?_<;>simp only [zf,ze,push_cast,↓zK,↓zJ,↓reduceIte,zA,zB,zC,zD,zE,zF,zG,zH,zI,reduceCtorEq]
 ·rintro k hk KL0 hL0
  have hio:=VG k
  simp only [push_cast,↓zK,↓zJ,↓reduceIte,zA,zB,zC,zD,zE,zF,zG,zH,zI,reduceCtorEq]
  refine zL fun K3 hK3=> ?_
  refine zL fun K hK=> ?_
  refine zM zO zN [] rfl ?_
  all_goals simp only [push_cast,↓zK,↓zJ,↓reduceIte,zA,zB,zC,zD,zE,zF,zG,zH,zI,reduceCtorEq]
  all_goals repeat'(first|(apply zP<;>(intro hg;(try simp only [push_cast]at hg)))|apply And.intro|(intro hg;(try simp only [push_cast]at hg)))
  all_goals first|exact gA|(exact zb (by omega))|skip
  all_goals first|(refine hK _ ?_;clear hK K)|(simp only [push_cast];done)
  refine zU rfl (fun hc=> ?_) (fun hc=> ?_)<;>(try simp only [push_cast]at hc)
  ·
   refine zV ?_
   (try simp only [zR,zS,reduceIte,zF]);refine hK3 _ ?_
   refine zL fun K4 hK4=> ?_
   refine zW ?_
   refine zM zO zN [] rfl ?_
   all_goals simp only [push_cast,↓zK,↓zJ,↓reduceIte,zA,zB,zC,zD,zE,zF,zG,zH,zI,reduceCtorEq]
   all_goals repeat'(first|(apply zP<;>(intro hg;(try simp only [push_cast]at hg)))|apply And.intro|(intro hg;(try simp only [push_cast]at hg)))
   all_goals first|exact gA|(exact zb (by omega))|skip
   (try simp only [zR,zS,reduceIte,zF]);refine hK4 _ ?_
   refine zM zO zN [] rfl ?_
   all_goals simp only [push_cast,↓zK,↓zJ,↓reduceIte,zA,zB,zC,zD,zE,zF,zG,zH,zI,reduceCtorEq]
   all_goals repeat'(first|(apply zP<;>(intro hg;(try simp only [push_cast]at hg)))|apply And.intro|(intro hg;(try simp only [push_cast]at hg)))
   all_goals first|exact gA|(exact zb (by omega))|skip
   refine hL0 _ ⟨k+1,by omega,by omega,?_⟩
   (try rw [List.take_of_length_le (l:=zT k) (by omega)])
   rw [zEH]
   refine zY rfl ?_ ?_ ?_<;>simp only [zf,ze,push_cast,↓zK,↓zJ,↓reduceIte,zA,zB,zC,zD,zE,zF,zG,zH,zI,reduceCtorEq]
   all_goals first|rfl|skip
  ·
   refine zk ?_
   have hkk:k=ps.length:=by omega
   subst hkk
   (try simp only [zR,zS,reduceIte,zF]);refine hK2 _ ?_
   refine zL fun K hK=> ?_
   refine zj false zO zN ?_ rfl ?_
   ·kernel_rfl
   simp only [push_cast,↓zK,↓zJ,↓reduceIte,zA,zB,zC,zD,zE,zF,zG,zH,zI,reduceCtorEq]
   all_goals repeat'(first|(apply zP<;>(intro hg;(try simp only [push_cast]at hg)))|apply And.intro|(intro hg;(try simp only [push_cast]at hg)))
   all_goals first|exact gA|(exact zb (by omega))|skip
   all_goals first|(refine hK _ ?_;clear hK K)|(simp only [push_cast];done)
   refine qo 102 12 (Nat.le_of_ble_eq_true rfl) ?_
   simp only [push_cast,↓zK,↓zJ,↓reduceIte,zA,zB,zC,zD,zE,zF,zG,zH,zI,reduceCtorEq]
   refine zL fun K hK=> ?_
   refine zM zO zN [] rfl ?_
   all_goals simp only [push_cast,↓zK,↓zJ,↓reduceIte,zA,zB,zC,zD,zE,zF,zG,zH,zI,reduceCtorEq]
   all_goals repeat'(first|(apply zP<;>(intro hg;(try simp only [push_cast]at hg)))|apply And.intro|(intro hg;(try simp only [push_cast]at hg)))
   all_goals first|exact gA|(exact zb (by omega))|skip
   all_goals first|(refine hK _ ?_;clear hK K)|(simp only [push_cast];done)
   refine zL fun K5 hK5=> ?_
   refine zL fun K hK=> ?_
   refine zM zO zN [] rfl ?_
   all_goals simp only [push_cast,↓zK,↓zJ,↓reduceIte,zA,zB,zC,zD,zE,zF,zG,zH,zI,reduceCtorEq]
   all_goals repeat'(first|(apply zP<;>(intro hg;(try simp only [push_cast]at hg)))|apply And.intro|(intro hg;(try simp only [push_cast]at hg)))
   all_goals first|exact gA|(exact zb (by omega))|skip
   all_goals first|(refine hK _ ?_;clear hK K)|(simp only [push_cast];done)
   refine zW ?_
   refine zi [7,8,12,13,14,15,16,17,18,19,20,27,33,58,59,60,61,62,63,64,65,66,67,68,69,70,71,72,73,74,75,76,77,78,79,80,81,82,83,84,85,86,87,88,89,90,91,92,93,94,95,96,97,98,99,100,101,102,103,104,105,106,107,108,109,110,111,112,113,114,115,116,117,118,119,120,121,122,123,124,125,126,127,128,129,130,131,132,133,134,135,136,137,138,139,140,141,142,143,144,145,146,147,148,149,150,151] [] (fun(i:Nat)=> [(14, .int .i64 i),(12, .sl 192 [] 0 (stQ (usA a) (rcR ps) ⟨s,zT ps.length⟩ i).length 102),(13, .bp 13 0)]) (fun i=> [(13,[.sl 208 [] 0 i 2, .sl 209 [] 0 i 22, .sl 210 [] 0 i 2])]) (fun i=> [(192,⟨.ex,102,yp (stQ (usA a) (rcR ps) ⟨s,zT ps.length⟩ i),none⟩),(208,⟨.ex,2,dI (xn a (rcR ps) ⟨s,zT ps.length⟩ i),none⟩),(209,⟨.ex,22,dII (nxG a (rcR ps) ⟨s,zT ps.length⟩ i),none⟩),(210,⟨.ex,2,dI (prG a (rcR ps) (prR ps) ⟨s,zT ps.length⟩ i),none⟩)]) (fun i=>i≤256∧i≤(stQ (usA a) (rcR ps) ⟨s,zT ps.length⟩ i).length∧(stQ (usA a) (rcR ps) ⟨s,zT ps.length⟩ i).length≤256) (fun i=>257 - i) 0 ?_ ⟨by omega,Nat.zero_le _,(by show 1≤256;decide)⟩ ?_
   ·
    rw [show stQ (usA a) (rcR ps) ⟨s,zT ps.length⟩ 0= [⟨s,zT ps.length⟩]from rfl,zEW,zGn,zGq]
    refine zY rfl ?_ ?_ ?_<;>simp only [zf,ze,push_cast,↓zK,↓zJ,↓reduceIte,zA,zB,zC,zD,zE,zF,zG,zH,zI,reduceCtorEq]
    all_goals first|rfl|exact⟨rfl,rfl,rfl,rfl⟩|(rw [List.take_of_length_le (l:=zT ps.length) (by omega)];exact⟨rfl,rfl,rfl,rfl⟩)|skip
   ·rintro i ⟨hi,hil,hsl⟩ KL1 hL1
    have hall:=YL h1 h3 i
    have hq:QLn 1048576 (stQ (usA a) (rcR ps) ⟨s,zT ps.length⟩ i):=⟨by omega,fun p hp=>by have :=h3.small _ (hall p hp).2.2;omega⟩
    have hgl:=fun k=>JD hq k
    have ho1:=vD (a:=a) (rc:=rcR ps) (p0:=⟨s,zT ps.length⟩) i
    have ho2:=Qe (a:=a) (rc:=rcR ps) (p0:=⟨s,zT ps.length⟩) i
    have ho3:=Yq (a:=a) (rc:=rcR ps) (pr:=prR ps) (p0:=⟨s,zT ps.length⟩) i
    simp only [push_cast,↓zK,↓zJ,↓reduceIte,zA,zB,zC,zD,zE,zF,zG,zH,zI,reduceCtorEq]
    refine zL fun K6 hK6=> ?_
    refine zL fun K hK=> ?_
    refine zM zO zN [] rfl ?_
    all_goals simp only [push_cast,↓zK,↓zJ,↓reduceIte,zA,zB,zC,zD,zE,zF,zG,zH,zI,reduceCtorEq]
    all_goals repeat'(first|(apply zP<;>(intro hg;(try simp only [push_cast]at hg)))|apply And.intro|(intro hg;(try simp only [push_cast]at hg)))
    all_goals first|exact gA|(exact zb (by omega))|skip
    all_goals first|(refine hK _ ?_;clear hK K)|(simp only [push_cast];done)
    refine zU rfl (fun hc=> ?_) (fun hc=> ?_)<;>(try simp only [push_cast]at hc)
    ·
     refine zV ?_
     (try simp only [zR,zS,reduceIte,zF]);refine hK6 _ ?_
     refine zL fun K7 hK7=> ?_
     refine zW ?_
     have hP:=hall _ (YH (k:=i) (by omega))
     have hU:1≤(gl a.next (gq (stQ (usA a) (rcR ps) ⟨s,zT ps.length⟩ i) i).at_.toNat).length∧(gl a.next (gq (stQ (usA a) (rcR ps) ⟨s,zT ps.length⟩ i) i).at_.toNat).length≤16∧∀u∈(gl a.next (gq (stQ (usA a) (rcR ps) ⟨s,zT ps.length⟩ i) i).at_.toNat),0≤u∧u<(a.owner.length:Int):=JU h1 ⟨hP.1,hP.2.1⟩
     have hpl:=h3.small _ hP.2.2
     have hnl:(nxL ps (gq (stQ (usA a) (rcR ps) ⟨s,zT ps.length⟩ i) i).record (gq (stQ (usA a) (rcR ps) ⟨s,zT ps.length⟩ i) i).at_).length≤4:=h3.small _ (h3.next _ hP.1 hP.2.1 hP.2.2)
     refine zL fun K hK=> ?_
     refine zM zO zN [] rfl ?_
     all_goals simp only [push_cast,↓zK,↓zJ,↓reduceIte,zA,zB,zC,zD,zE,zF,zG,zH,zI,reduceCtorEq]
     all_goals repeat'(first|(apply zP<;>(intro hg;(try simp only [push_cast]at hg)))|apply And.intro|(intro hg;(try simp only [push_cast]at hg)))
     all_goals first|exact gA|(exact zb (by omega))|skip
     all_goals first|(refine hK _ ?_;clear hK K)|(simp only [push_cast];done)
     refine zL fun K hK=> ?_
     refine zM zO zN [] rfl ?_
     all_goals refine zo 6 fun K9 hK9=> ?_
     all_goals simp only [push_cast,↓zK,↓zJ,↓reduceIte,zA,zB,zC,zD,zE,zF,zG,zH,zI,reduceCtorEq]
     all_goals repeat'(first|(apply zP<;>(intro hg;(try simp only [push_cast]at hg)))|(refine⟨_,Jg ps hp (gq (stQ (usA a) (rcR ps) ⟨s,zT ps.length⟩ i) i).record (gq (stQ (usA a) (rcR ps) ⟨s,zT ps.length⟩ i) i).at_ hP.2.2,?_⟩;simp only [push_cast,↓zK,↓zJ,↓reduceIte,zA,zB,zC,zD,zE,zF,zG,zH,zI,reduceCtorEq])|apply And.intro|(intro hg;(try simp only [push_cast]at hg)))
     all_goals first|exact gA|(exact zb (by omega))|skip
     all_goals first|(refine hK9 _ ?_;clear hK9 K9)|(simp only [push_cast];done)
     all_goals simp only [push_cast,↓zK,↓zJ,↓reduceIte,zA,zB,zC,zD,zE,zF,zG,zH,zI,reduceCtorEq]
     all_goals repeat'(first|(apply zP<;>(intro hg;(try simp only [push_cast]at hg)))|(refine⟨_,Jg ps hp (gq (stQ (usA a) (rcR ps) ⟨s,zT ps.length⟩ i) i).record (gq (stQ (usA a) (rcR ps) ⟨s,zT ps.length⟩ i) i).at_ hP.2.2,?_⟩;simp only [push_cast,↓zK,↓zJ,↓reduceIte,zA,zB,zC,zD,zE,zF,zG,zH,zI,reduceCtorEq])|apply And.intro|(intro hg;(try simp only [push_cast]at hg)))
     all_goals first|exact gA|(exact zb (by omega))|skip
     all_goals first|(refine hK _ ?_;clear hK K)|(simp only [push_cast];done)
     refine zL fun K hK=> ?_
     refine zM zO zN [] rfl ?_
     all_goals simp only [push_cast,↓zK,↓zJ,↓reduceIte,zA,zB,zC,zD,zE,zF,zG,zH,zI,reduceCtorEq]
     all_goals repeat'(first|(apply zP<;>(intro hg;(try simp only [push_cast]at hg)))|apply And.intro|(intro hg;(try simp only [push_cast]at hg)))
     all_goals first|exact gA|(exact zb (by omega))|skip
     all_goals first|(refine hK _ ?_;clear hK K)|(simp only [push_cast];done)
     refine zL fun K8 hK8=> ?_
     refine zL fun K hK=> ?_
     refine zM zO zN [] rfl ?_
     all_goals simp only [push_cast,↓zK,↓zJ,↓reduceIte,zA,zB,zC,zD,zE,zF,zG,zH,zI,reduceCtorEq]
     all_goals repeat'(first|(apply zP<;>(intro hg;(try simp only [push_cast]at hg)))|apply And.intro|(intro hg;(try simp only [push_cast]at hg)))
     all_goals first|exact gA|(exact zb (by omega))|skip
     all_goals first|(refine hK _ ?_;clear hK K)|(simp only [push_cast];done)
     refine zW ?_
     refine zi [7,8,12,15,17,18,19,20,27,33,59,64,66,67,68,69,70,71,72,75,76,77,78,79,80,81,82,83,84,85,86,87,88,89,90,91,92,93,94,95,96,97,98,99,100,101,102,103,104,105,106,107,108,109,110,111,112,113,114,115,116,117,118] [272,240,241] (fun(k:Nat)=> [(18, .int .i64 k),(12, .sl 192 [] 0 (zp (nxL ps (gq (stQ (usA a) (rcR ps) ⟨s,zT ps.length⟩ i) i).record (gq (stQ (usA a) (rcR ps) ⟨s,zT ps.length⟩ i) i).at_) (gl a.next (gq (stQ (usA a) (rcR ps) ⟨s,zT ps.length⟩ i) i).at_.toNat) (stQ (usA a) (rcR ps) ⟨s,zT ps.length⟩ i) k).1.length 102),(17, .sl 272 [] 0 k 2),(15, .bp 15 0)]) (fun k=> [(15,[.int .i64 (gq (stQ (usA a) (rcR ps) ⟨s,zT ps.length⟩ i) i).at_, .sl 192 [i*2+1] 0 (gq (stQ (usA a) (rcR ps) ⟨s,zT ps.length⟩ i) i).record.length 2])]) (fun k=> [(192,⟨.ex,102,yp (zp (nxL ps (gq (stQ (usA a) (rcR ps) ⟨s,zT ps.length⟩ i) i).record (gq (stQ (usA a) (rcR ps) ⟨s,zT ps.length⟩ i) i).at_) (gl a.next (gq (stQ (usA a) (rcR ps) ⟨s,zT ps.length⟩ i) i).at_.toNat) (stQ (usA a) (rcR ps) ⟨s,zT ps.length⟩ i) k).1,none⟩),(272,⟨.ex,2,dI (zp (nxL ps (gq (stQ (usA a) (rcR ps) ⟨s,zT ps.length⟩ i) i).record (gq (stQ (usA a) (rcR ps) ⟨s,zT ps.length⟩ i) i).at_) (gl a.next (gq (stQ (usA a) (rcR ps) ⟨s,zT ps.length⟩ i) i).at_.toNat) (stQ (usA a) (rcR ps) ⟨s,zT ps.length⟩ i) k).2,none⟩)]) (fun k=>k≤(gl a.next (gq (stQ (usA a) (rcR ps) ⟨s,zT ps.length⟩ i) i).at_.toNat).length∧(zp (nxL ps (gq (stQ (usA a) (rcR ps) ⟨s,zT ps.length⟩ i) i).record (gq (stQ (usA a) (rcR ps) ⟨s,zT ps.length⟩ i) i).at_) (gl a.next (gq (stQ (usA a) (rcR ps) ⟨s,zT ps.length⟩ i) i).at_.toNat) (stQ (usA a) (rcR ps) ⟨s,zT ps.length⟩ i) k).1.length≤256) (fun k=>(gl a.next (gq (stQ (usA a) (rcR ps) ⟨s,zT ps.length⟩ i) i).at_.toNat).length - k) 0 ?_ ⟨by omega,hsl⟩ ?_
     ·
      rw [zAs]
      refine zY rfl ?_ ?_ ?_<;>simp only [zf,ze,push_cast,↓zK,↓zJ,↓reduceIte,zA,zB,zC,zD,zE,zF,zG,zH,zI,reduceCtorEq]
      all_goals rfl
     ·rintro k ⟨hk,hkl⟩ KL2 hL2
      have hrl:=qF (r:=(nxL ps (gq (stQ (usA a) (rcR ps) ⟨s,zT ps.length⟩ i) i).record (gq (stQ (usA a) (rcR ps) ⟨s,zT ps.length⟩ i) i).at_)) (us:=(gl a.next (gq (stQ (usA a) (rcR ps) ⟨s,zT ps.length⟩ i) i).at_.toNat)) (ps:=(stQ (usA a) (rcR ps) ⟨s,zT ps.length⟩ i)) (k:=k) hk
      have hQr:QLn 1048576 (zp (nxL ps (gq (stQ (usA a) (rcR ps) ⟨s,zT ps.length⟩ i) i).record (gq (stQ (usA a) (rcR ps) ⟨s,zT ps.length⟩ i) i).at_) (gl a.next (gq (stQ (usA a) (rcR ps) ⟨s,zT ps.length⟩ i) i).at_.toNat) (stQ (usA a) (rcR ps) ⟨s,zT ps.length⟩ i) k).1:=⟨by omega,fun p hp=>by have :=h3.small _ (zEZ h1 h3 (i:=i) (k:=k) (by omega) hk p hp).2.2;omega⟩
      have hx:=zEJ (yg (gi (gl a.next (gq (stQ (usA a) (rcR ps) ⟨s,zT ps.length⟩ i) i).at_.toNat) k) (nxL ps (gq (stQ (usA a) (rcR ps) ⟨s,zT ps.length⟩ i) i).record (gq (stQ (usA a) (rcR ps) ⟨s,zT ps.length⟩ i) i).at_)) (zp (nxL ps (gq (stQ (usA a) (rcR ps) ⟨s,zT ps.length⟩ i) i).record (gq (stQ (usA a) (rcR ps) ⟨s,zT ps.length⟩ i) i).at_) (gl a.next (gq (stQ (usA a) (rcR ps) ⟨s,zT ps.length⟩ i) i).at_.toNat) (stQ (usA a) (rcR ps) ⟨s,zT ps.length⟩ i) k).1
      simp only [push_cast,↓zK,↓zJ,↓reduceIte,zA,zB,zC,zD,zE,zF,zG,zH,zI,reduceCtorEq]
      refine zL fun K9 hK9=> ?_
      refine zL fun K hK=> ?_
      refine zM zO zN [] rfl ?_
      all_goals simp only [push_cast,↓zK,↓zJ,↓reduceIte,zA,zB,zC,zD,zE,zF,zG,zH,zI,reduceCtorEq]
      all_goals repeat'(first|(apply zP<;>(intro hg;(try simp only [push_cast]at hg)))|apply And.intro|(intro hg;(try simp only [push_cast]at hg)))
      all_goals first|exact gA|(exact zb (by omega))|skip
      all_goals first|(refine hK _ ?_;clear hK K)|(simp only [push_cast];done)
      refine zU rfl (fun hc=> ?_) (fun hc=> ?_)<;>(try simp only [push_cast]at hc)
      ·
       refine zV ?_
       (try simp only [zR,zS,reduceIte,zF]);refine hK9 _ ?_
       refine zL fun K10 hK10=> ?_
       refine zW ?_
       refine zL fun K hK=> ?_
       refine zM zO zN [] rfl ?_
       all_goals simp only [push_cast,↓zK,↓zJ,↓reduceIte,zA,zB,zC,zD,zE,zF,zG,zH,zI,reduceCtorEq]
       all_goals repeat'(first|(apply zP<;>(intro hg;(try simp only [push_cast]at hg)))|apply And.intro|(intro hg;(try simp only [push_cast]at hg)))
       all_goals first|exact gA|(exact zb (by omega))|skip
       all_goals first|(refine hK _ ?_;clear hK K)|(simp only [push_cast];done)
       refine zL fun K hK=> ?_
       refine zM zO zN [] rfl ?_
       all_goals refine zo 4 fun K9 hK9=> ?_
       all_goals simp only [push_cast,↓zK,↓zJ,↓reduceIte,zA,zB,zC,zD,zE,zF,zG,zH,zI,reduceCtorEq]
       all_goals repeat'(first|(apply zP<;>(intro hg;(try simp only [push_cast]at hg)))|(refine⟨_,jG (zp (nxL ps (gq (stQ (usA a) (rcR ps) ⟨s,zT ps.length⟩ i) i).record (gq (stQ (usA a) (rcR ps) ⟨s,zT ps.length⟩ i) i).at_) (gl a.next (gq (stQ (usA a) (rcR ps) ⟨s,zT ps.length⟩ i) i).at_.toNat) (stQ (usA a) (rcR ps) ⟨s,zT ps.length⟩ i) k).1 hQr (gi (gl a.next (gq (stQ (usA a) (rcR ps) ⟨s,zT ps.length⟩ i) i).at_.toNat) k) (nxL ps (gq (stQ (usA a) (rcR ps) ⟨s,zT ps.length⟩ i) i).record (gq (stQ (usA a) (rcR ps) ⟨s,zT ps.length⟩ i) i).at_) (by omega),?_⟩;simp only [push_cast,↓zK,↓zJ,↓reduceIte,zA,zB,zC,zD,zE,zF,zG,zH,zI,reduceCtorEq])|apply And.intro|(intro hg;(try simp only [push_cast]at hg)))
       all_goals first|exact gA|(exact zb (by omega))|skip
       all_goals first|(refine hK9 _ ?_;clear hK9 K9)|(simp only [push_cast];done)
       all_goals simp only [push_cast,↓zK,↓zJ,↓reduceIte,zA,zB,zC,zD,zE,zF,zG,zH,zI,reduceCtorEq]
       all_goals repeat'(first|(apply zP<;>(intro hg;(try simp only [push_cast]at hg)))|(refine⟨_,jG (zp (nxL ps (gq (stQ (usA a) (rcR ps) ⟨s,zT ps.length⟩ i) i).record (gq (stQ (usA a) (rcR ps) ⟨s,zT ps.length⟩ i) i).at_) (gl a.next (gq (stQ (usA a) (rcR ps) ⟨s,zT ps.length⟩ i) i).at_.toNat) (stQ (usA a) (rcR ps) ⟨s,zT ps.length⟩ i) k).1 hQr (gi (gl a.next (gq (stQ (usA a) (rcR ps) ⟨s,zT ps.length⟩ i) i).at_.toNat) k) (nxL ps (gq (stQ (usA a) (rcR ps) ⟨s,zT ps.length⟩ i) i).record (gq (stQ (usA a) (rcR ps) ⟨s,zT ps.length⟩ i) i).at_) (by omega),?_⟩;simp only [push_cast,↓zK,↓zJ,↓reduceIte,zA,zB,zC,zD,zE,zF,zG,zH,zI,reduceCtorEq])|apply And.intro|(intro hg;(try simp only [push_cast]at hg)))
       all_goals first|exact gA|(exact zb (by omega))|skip
       all_goals first|(refine hK _ ?_;clear hK K)|(simp only [push_cast];done)
       refine zL fun K11 hK11=> ?_
       refine zL fun K hK=> ?_
       refine zM zO zN [] rfl ?_
       all_goals simp only [push_cast,↓zK,↓zJ,↓reduceIte,zA,zB,zC,zD,zE,zF,zG,zH,zI,reduceCtorEq]
       all_goals repeat'(first|(apply zP<;>(intro hg;(try simp only [push_cast]at hg)))|apply And.intro|(intro hg;(try simp only [push_cast]at hg)))
       all_goals first|exact gA|(exact zb (by omega))|skip
       all_goals first|(refine hK _ ?_;clear hK K)|(simp only [push_cast];done)
       refine zU rfl (fun hc=> ?_) (fun hc=> ?_)<;>(try simp only [push_cast]at hc)
       ·
        refine zL fun K hK=> ?_
        refine zM zO zN [] rfl ?_
        all_goals simp only [push_cast,↓zK,↓zJ,↓reduceIte,zA,zB,zC,zD,zE,zF,zG,zH,zI,reduceCtorEq]
        all_goals repeat'(first|(apply zP<;>(intro hg;(try simp only [push_cast]at hg)))|apply And.intro|(intro hg;(try simp only [push_cast]at hg)))
        all_goals first|exact gA|(exact zb (by omega))|skip
        all_goals first|(refine hK _ ?_;clear hK K)|(simp only [push_cast];done)
        refine zL fun K12 hK12=> ?_
        refine zL fun K hK=> ?_
        refine zM zO zN [] rfl ?_
        all_goals simp only [push_cast,↓zK,↓zJ,↓reduceIte,zA,zB,zC,zD,zE,zF,zG,zH,zI,reduceCtorEq]
        all_goals repeat'(first|(apply zP<;>(intro hg;(try simp only [push_cast]at hg)))|apply And.intro|(intro hg;(try simp only [push_cast]at hg)))
        all_goals first|exact gA|(exact zb (by omega))|skip
        all_goals first|(refine hK _ ?_;clear hK K)|(simp only [push_cast];done)
        refine zU rfl (fun hc=> ?_) (fun hc=> ?_)<;>(try simp only [push_cast]at hc)
        ·
         refine zL fun K hK=> ?_
         refine zj false zO zN ?_ rfl ?_
         ·kernel_rfl
         simp only [push_cast,↓zK,↓zJ,↓reduceIte,zA,zB,zC,zD,zE,zF,zG,zH,zI,reduceCtorEq]
         all_goals repeat'(first|(apply zP<;>(intro hg;(try simp only [push_cast]at hg)))|apply And.intro|(intro hg;(try simp only [push_cast]at hg)))
         all_goals first|exact gA|(exact zb (by omega))|skip
         all_goals first|(refine hK _ ?_;clear hK K)|(simp only [push_cast];done)
         refine zX ?_
         (try simp only [zR,zS])
         refine⟨Or.inl rfl,?_⟩
         simp only [zd,yE,yj,push_cast,↓zK,↓zJ,↓reduceIte,zA,zB,zC,zD,zE,zF,zG,zH,zI,reduceCtorEq]
         obtain⟨e1,e2,e3⟩:=zEh (a:=a) (ps:=ps) (s:=s) (zHy (i:=i) (k:=k) (by omega) (by omega) (by show k<(gl a.next (gq (stQ (usA a) (rcR ps) ⟨s,zT ps.length⟩ i) i).at_.toNat).length;omega) (by show ixQ (yg (gi (gl a.next (gq (stQ (usA a) (rcR ps) ⟨s,zT ps.length⟩ i) i).at_.toNat) k) (nxL ps (gq (stQ (usA a) (rcR ps) ⟨s,zT ps.length⟩ i) i).record (gq (stQ (usA a) (rcR ps) ⟨s,zT ps.length⟩ i) i).at_)) (zp (nxL ps (gq (stQ (usA a) (rcR ps) ⟨s,zT ps.length⟩ i) i).record (gq (stQ (usA a) (rcR ps) ⟨s,zT ps.length⟩ i) i).at_) (gl a.next (gq (stQ (usA a) (rcR ps) ⟨s,zT ps.length⟩ i) i).at_.toNat) (stQ (usA a) (rcR ps) ⟨s,zT ps.length⟩ i) k).1<0;with_reducible assumption) (by show 256≤(zp (nxL ps (gq (stQ (usA a) (rcR ps) ⟨s,zT ps.length⟩ i) i).record (gq (stQ (usA a) (rcR ps) ⟨s,zT ps.length⟩ i) i).at_) (gl a.next (gq (stQ (usA a) (rcR ps) ⟨s,zT ps.length⟩ i) i).at_.toNat) (stQ (usA a) (rcR ps) ⟨s,zT ps.length⟩ i) k).1.length;omega))
         rw [e1,e2,e3]
         all_goals first|rfl|exact⟨rfl,rfl⟩|(simp [dI,dII,yp];done)
        ·
         refine zV ?_
         (try simp only [zR,zS,reduceIte,zF]);refine hK12 _ ?_
         refine JX 7 15 1 1824 192 [192] zO zN ?_ rfl rfl rfl fun K9 hK9=> ?_
         ·kernel_rfl
         all_goals simp only [push_cast,↓zK,↓zJ,↓reduceIte,zA,zB,zC,zD,zE,zF,zG,zH,zI,reduceCtorEq]
         all_goals repeat'(first|(apply zP<;>(intro hg;(try simp only [push_cast]at hg)))|apply And.intro|(intro hg;(try simp only [push_cast]at hg)))
         all_goals first|exact gA|(exact zb (by omega))|skip
         all_goals first|(refine hK9 _ ?_;clear hK9 K9)|(simp only [push_cast];done)
         all_goals simp only [push_cast,↓zK,↓zJ,↓reduceIte,zA,zB,zC,zD,zE,zF,zG,zH,zI,reduceCtorEq]
         all_goals repeat'(first|(apply zP<;>(intro hg;(try simp only [push_cast]at hg)))|apply And.intro|(intro hg;(try simp only [push_cast]at hg)))
         all_goals first|exact gA|(exact zb (by omega))|skip
         (try simp only [zR,zS,reduceIte,zF]);refine hK11 _ ?_
         refine zM zO zN [] rfl ?_
         all_goals simp only [push_cast,↓zK,↓zJ,↓reduceIte,zA,zB,zC,zD,zE,zF,zG,zH,zI,reduceCtorEq]
         all_goals repeat'(first|(apply zP<;>(intro hg;(try simp only [push_cast]at hg)))|apply And.intro|(intro hg;(try simp only [push_cast]at hg)))
         all_goals first|exact gA|(exact zb (by omega))|skip
         (try simp only [zR,zS,reduceIte,zF]);refine hK10 _ ?_
         refine zM zO zN [] rfl ?_
         all_goals simp only [push_cast,↓zK,↓zJ,↓reduceIte,zA,zB,zC,zD,zE,zF,zG,zH,zI,reduceCtorEq]
         all_goals repeat'(first|(apply zP<;>(intro hg;(try simp only [push_cast]at hg)))|apply And.intro|(intro hg;(try simp only [push_cast]at hg)))
         all_goals first|exact gA|(exact zb (by omega))|skip
         refine hL2 _ ⟨k+1,⟨by omega,(by rw [vc (by omega) (by with_reducible assumption),List.length_append,List.length_singleton];omega)⟩,by omega,?_⟩
         (try rw [List.take_of_length_le (l:=(zp (nxL ps (gq (stQ (usA a) (rcR ps) ⟨s,zT ps.length⟩ i) i).record (gq (stQ (usA a) (rcR ps) ⟨s,zT ps.length⟩ i) i).at_) (gl a.next (gq (stQ (usA a) (rcR ps) ⟨s,zT ps.length⟩ i) i).at_.toNat) (stQ (usA a) (rcR ps) ⟨s,zT ps.length⟩ i) k).2) (by omega)])
         rw [vc (by omega) (by with_reducible assumption)]
         refine zY rfl ?_ ?_ ?_<;>simp only [zf,ze,push_cast,↓zK,↓zJ,↓reduceIte,zA,zB,zC,zD,zE,zF,zG,zH,zI,reduceCtorEq]
         all_goals first|rfl|(rw [List.length_append];rfl)|exact⟨rfl,rfl⟩|skip
       ·
        refine zV ?_
        (try simp only [zR,zS,reduceIte,zF]);refine hK11 _ ?_
        refine zM zO zN [] rfl ?_
        all_goals simp only [push_cast,↓zK,↓zJ,↓reduceIte,zA,zB,zC,zD,zE,zF,zG,zH,zI,reduceCtorEq]
        all_goals repeat'(first|(apply zP<;>(intro hg;(try simp only [push_cast]at hg)))|apply And.intro|(intro hg;(try simp only [push_cast]at hg)))
        all_goals first|exact gA|(exact zb (by omega))|skip
        (try simp only [zR,zS,reduceIte,zF]);refine hK10 _ ?_
        refine zM zO zN [] rfl ?_
        all_goals simp only [push_cast,↓zK,↓zJ,↓reduceIte,zA,zB,zC,zD,zE,zF,zG,zH,zI,reduceCtorEq]
        all_goals repeat'(first|(apply zP<;>(intro hg;(try simp only [push_cast]at hg)))|apply And.intro|(intro hg;(try simp only [push_cast]at hg)))
        all_goals first|exact gA|(exact zb (by omega))|skip
        refine hL2 _ ⟨k+1,⟨by omega,(by rw [wF (by omega) (by with_reducible assumption)];omega)⟩,by omega,?_⟩
        (try rw [List.take_of_length_le (l:=(zp (nxL ps (gq (stQ (usA a) (rcR ps) ⟨s,zT ps.length⟩ i) i).record (gq (stQ (usA a) (rcR ps) ⟨s,zT ps.length⟩ i) i).at_) (gl a.next (gq (stQ (usA a) (rcR ps) ⟨s,zT ps.length⟩ i) i).at_.toNat) (stQ (usA a) (rcR ps) ⟨s,zT ps.length⟩ i) k).2) (by omega)])
        rw [wF (by omega) (by with_reducible assumption)]
        refine zY rfl ?_ ?_ ?_<;>simp only [zf,ze,push_cast,↓zK,↓zJ,↓reduceIte,zA,zB,zC,zD,zE,zF,zG,zH,zI,reduceCtorEq]
        all_goals first|rfl|(rw [List.length_append];rfl)|exact⟨rfl,rfl⟩|skip
      ·
       refine zk ?_
       have hkk:k=(gl a.next (gq (stQ (usA a) (rcR ps) ⟨s,zT ps.length⟩ i) i).at_.toNat).length:=by omega
       subst hkk
       (try simp only [zR,zS,reduceIte,zF]);refine hK8 _ ?_
       refine zL fun K hK=> ?_
       refine xN false zO zN qb ?_ rfl ?_
       ·kernel_rfl
       intro E hE
       all_goals simp only [push_cast,↓zK,↓zJ,↓reduceIte,zA,zB,zC,zD,zE,zF,zG,zH,zI,reduceCtorEq]
       all_goals repeat'(first|(apply zP<;>(intro hg;(try simp only [push_cast]at hg)))|apply And.intro|(intro hg;(try simp only [push_cast]at hg)))
       all_goals first|exact gA|(refine hE _ _ ?_ ?_;kernel_rfl)|(exact zb (by omega))|skip
       all_goals clear hE E
       all_goals first|(refine hK _ ?_;clear hK K)|(simp only [push_cast];done)
       have hSo:Fn Try.prog tyT 100 [.c (DI (List.take (gl a.next (gq (stQ (usA a) (rcR ps) ⟨s,zT ps.length⟩ i) i).at_.toNat).length (zp (nxL ps (gq (stQ (usA a) (rcR ps) ⟨s,zT ps.length⟩ i) i).record (gq (stQ (usA a) (rcR ps) ⟨s,zT ps.length⟩ i) i).at_) (gl a.next (gq (stQ (usA a) (rcR ps) ⟨s,zT ps.length⟩ i) i).at_.toNat) (stQ (usA a) (rcR ps) ⟨s,zT ps.length⟩ i) (gl a.next (gq (stQ (usA a) (rcR ps) ⟨s,zT ps.length⟩ i) i).at_.toNat).length).2))] [.c (DI (yJ (zp (nxL ps (gq (stQ (usA a) (rcR ps) ⟨s,zT ps.length⟩ i) i).record (gq (stQ (usA a) (rcR ps) ⟨s,zT ps.length⟩ i) i).at_) (gl a.next (gq (stQ (usA a) (rcR ps) ⟨s,zT ps.length⟩ i) i).at_.toNat) (stQ (usA a) (rcR ps) ⟨s,zT ps.length⟩ i) (gl a.next (gq (stQ (usA a) (rcR ps) ⟨s,zT ps.length⟩ i) i).at_.toNat).length).2))]:=by rw [List.take_of_length_le (l:=(zp (nxL ps (gq (stQ (usA a) (rcR ps) ⟨s,zT ps.length⟩ i) i).record (gq (stQ (usA a) (rcR ps) ⟨s,zT ps.length⟩ i) i).at_) (gl a.next (gq (stQ (usA a) (rcR ps) ⟨s,zT ps.length⟩ i) i).at_.toNat) (stQ (usA a) (rcR ps) ⟨s,zT ps.length⟩ i) (gl a.next (gq (stQ (usA a) (rcR ps) ⟨s,zT ps.length⟩ i) i).at_.toNat).length).2) (by omega)];exact zAS _ (by omega)
       refine zL fun K hK=> ?_
       refine xN false zO zN qb ?_ rfl ?_
       ·kernel_rfl
       intro E hE
       all_goals refine vz 5 (by decide) fun K9 hK9=> ?_
       all_goals simp only [push_cast,↓zK,↓zJ,↓reduceIte,zA,zB,zC,zD,zE,zF,zG,zH,zI,reduceCtorEq]
       all_goals repeat'(first|(apply zP<;>(intro hg;(try simp only [push_cast]at hg)))|(refine⟨_,hSo,?_⟩;simp only [push_cast,↓zK,↓zJ,↓reduceIte,zA,zB,zC,zD,zE,zF,zG,zH,zI,reduceCtorEq])|apply And.intro|(intro hg;(try simp only [push_cast]at hg)))
       all_goals first|exact gA|(exact zb (by omega))|skip
       all_goals first|(refine hK9 _ _ ?_;clear hK9 K9)|(simp only [push_cast];done)
       all_goals simp only [push_cast,↓zK,↓zJ,↓reduceIte,zA,zB,zC,zD,zE,zF,zG,zH,zI,reduceCtorEq]
       all_goals repeat'(first|(apply zP<;>(intro hg;(try simp only [push_cast]at hg)))|(refine⟨_,hSo,?_⟩;simp only [push_cast,↓zK,↓zJ,↓reduceIte,zA,zB,zC,zD,zE,zF,zG,zH,zI,reduceCtorEq])|apply And.intro|(intro hg;(try simp only [push_cast]at hg)))
       all_goals first|exact gA|(refine hE _ _ ?_ ?_;kernel_rfl)|(exact zb (by omega))|skip
       all_goals clear hE E
       all_goals first|(refine hK _ ?_;clear hK K)|(simp only [push_cast];done)
       have hgi:gq (zp (nxL ps (gq (stQ (usA a) (rcR ps) ⟨s,zT ps.length⟩ i) i).record (gq (stQ (usA a) (rcR ps) ⟨s,zT ps.length⟩ i) i).at_) (gl a.next (gq (stQ (usA a) (rcR ps) ⟨s,zT ps.length⟩ i) i).at_.toNat) (stQ (usA a) (rcR ps) ⟨s,zT ps.length⟩ i) (gl a.next (gq (stQ (usA a) (rcR ps) ⟨s,zT ps.length⟩ i) i).at_.toNat).length).1 i=(gq (stQ (usA a) (rcR ps) ⟨s,zT ps.length⟩ i) i):=kP (by omega) (Nat.le_refl _)
       have hPq:Fn Try.prog tyT 101 [.c (.lst 90 (dII (ilv ps))), .c (DI (List.take (gq (stQ (usA a) (rcR ps) ⟨s,zT ps.length⟩ i) i).record.length (gq (zp (nxL ps (gq (stQ (usA a) (rcR ps) ⟨s,zT ps.length⟩ i) i).record (gq (stQ (usA a) (rcR ps) ⟨s,zT ps.length⟩ i) i).at_) (gl a.next (gq (stQ (usA a) (rcR ps) ⟨s,zT ps.length⟩ i) i).at_.toNat) (stQ (usA a) (rcR ps) ⟨s,zT ps.length⟩ i) (gl a.next (gq (stQ (usA a) (rcR ps) ⟨s,zT ps.length⟩ i) i).at_.toNat).length).1 i).record)), .c (.int .i64 (gq (stQ (usA a) (rcR ps) ⟨s,zT ps.length⟩ i) i).at_)] [.c (.int .i64 (qt ps (gq (stQ (usA a) (rcR ps) ⟨s,zT ps.length⟩ i) i).record (gq (stQ (usA a) (rcR ps) ⟨s,zT ps.length⟩ i) i).at_))]:=by rw [hgi,List.take_length];exact zBX ps hp _ _ hP.2.2
       refine xN false zO zN qb ?_ rfl ?_
       ·kernel_rfl
       intro E hE
       all_goals refine vz 8 (by decide) fun K9 hK9=> ?_
       all_goals simp only [push_cast,↓zK,↓zJ,↓reduceIte,zA,zB,zC,zD,zE,zF,zG,zH,zI,reduceCtorEq]
       all_goals repeat'(first|(apply zP<;>(intro hg;(try simp only [push_cast]at hg)))|(refine⟨_,hPq,?_⟩;simp only [push_cast,↓zK,↓zJ,↓reduceIte,zA,zB,zC,zD,zE,zF,zG,zH,zI,reduceCtorEq])|apply And.intro|(intro hg;(try simp only [push_cast]at hg)))
       all_goals first|exact gA|(exact zb (by omega))|skip
       all_goals first|(refine hK9 _ _ ?_;clear hK9 K9)|(simp only [push_cast];done)
       all_goals simp only [push_cast,↓zK,↓zJ,↓reduceIte,zA,zB,zC,zD,zE,zF,zG,zH,zI,reduceCtorEq]
       all_goals repeat'(first|(apply zP<;>(intro hg;(try simp only [push_cast]at hg)))|(refine⟨_,hPq,?_⟩;simp only [push_cast,↓zK,↓zJ,↓reduceIte,zA,zB,zC,zD,zE,zF,zG,zH,zI,reduceCtorEq])|apply And.intro|(intro hg;(try simp only [push_cast]at hg)))
       all_goals first|exact gA|(refine hE _ _ ?_ ?_;kernel_rfl)|(exact zb (by omega))|skip
       all_goals clear hE E
       (try simp only [zR,zS,reduceIte,zF]);refine hK7 _ ?_
       refine Xq [.sl 2, .sl 22, .sl 2] 13 ?_
       simp only [push_cast,↓zK,↓zJ,↓reduceIte,zA,zB,zC,zD,zE,zF,zG,zH,zI,reduceCtorEq]
       refine zM zO zN [] rfl ?_
       all_goals simp only [push_cast,↓zK,↓zJ,↓reduceIte,zA,zB,zC,zD,zE,zF,zG,zH,zI,reduceCtorEq]
       all_goals repeat'(first|(apply zP<;>(intro hg;(try simp only [push_cast]at hg)))|apply And.intro|(intro hg;(try simp only [push_cast]at hg)))
       all_goals first|exact gA|(exact zb (by omega))|skip
       have hst:(stQ (usA a) (rcR ps) ⟨s,zT ps.length⟩ (i+1))=(zp (nxL ps (gq (stQ (usA a) (rcR ps) ⟨s,zT ps.length⟩ i) i).record (gq (stQ (usA a) (rcR ps) ⟨s,zT ps.length⟩ i) i).at_) (gl a.next (gq (stQ (usA a) (rcR ps) ⟨s,zT ps.length⟩ i) i).at_.toNat) (stQ (usA a) (rcR ps) ⟨s,zT ps.length⟩ i) (gl a.next (gq (stQ (usA a) (rcR ps) ⟨s,zT ps.length⟩ i) i).at_.toNat).length).1:=Vg (by omega)
       refine hL1 _ ⟨i+1,⟨by omega,(by rw [hst];omega),(by rw [hst];omega)⟩,by omega,?_⟩
       (try rw [List.take_of_length_le (l:=xn a (rcR ps) ⟨s,zT ps.length⟩ i) (by omega)])
       (try rw [List.take_of_length_le (l:=nxG a (rcR ps) ⟨s,zT ps.length⟩ i) (by omega)])
       (try rw [List.take_of_length_le (l:=prG a (rcR ps) (prR ps) ⟨s,zT ps.length⟩ i) (by omega)])
       rw [hst,zEX,zGo,zGr,show plQ (usA a) (rcR ps) ⟨s,zT ps.length⟩ i=(gq (stQ (usA a) (rcR ps) ⟨s,zT ps.length⟩ i) i)from rfl,show nxQ (usA a) (rcR ps) ⟨s,zT ps.length⟩ i=yJ (zp (nxL ps (gq (stQ (usA a) (rcR ps) ⟨s,zT ps.length⟩ i) i).record (gq (stQ (usA a) (rcR ps) ⟨s,zT ps.length⟩ i) i).at_) (gl a.next (gq (stQ (usA a) (rcR ps) ⟨s,zT ps.length⟩ i) i).at_.toNat) (stQ (usA a) (rcR ps) ⟨s,zT ps.length⟩ i) (gl a.next (gq (stQ (usA a) (rcR ps) ⟨s,zT ps.length⟩ i) i).at_.toNat).length).2 from rfl,show prR ps (gq (stQ (usA a) (rcR ps) ⟨s,zT ps.length⟩ i) i)=(qt ps (gq (stQ (usA a) (rcR ps) ⟨s,zT ps.length⟩ i) i).record (gq (stQ (usA a) (rcR ps) ⟨s,zT ps.length⟩ i) i).at_)from rfl]
       refine zY rfl ?_ ?_ ?_<;>simp only [zf,ze,push_cast,↓zK,↓zJ,↓reduceIte,zA,zB,zC,zD,zE,zF,zG,zH,zI,reduceCtorEq]
       all_goals first|rfl|exact⟨rfl,rfl,rfl,rfl⟩|skip
    ·
     refine zk ?_
     (try simp only [zR,zS,reduceIte,zF]);refine hK5 _ ?_
     refine zL fun K hK=> ?_
     refine zM zO zN [] rfl ?_
     all_goals simp only [push_cast,↓zK,↓zJ,↓reduceIte,zA,zB,zC,zD,zE,zF,zG,zH,zI,reduceCtorEq]
     all_goals repeat'(first|(apply zP<;>(intro hg;(try simp only [push_cast]at hg)))|apply And.intro|(intro hg;(try simp only [push_cast]at hg)))
     all_goals first|exact gA|(exact zb (by omega))|skip
     all_goals first|(refine hK _ ?_;clear hK K)|(simp only [push_cast];done)
     refine zX ?_
     (try simp only [zR,zS])
     refine⟨Or.inl rfl,?_⟩
     simp only [zd,yE,yj,push_cast,↓zK,↓zJ,↓reduceIte,zA,zB,zC,zD,zE,zF,zG,zH,zI,reduceCtorEq]
     obtain⟨e1,e2,e3⟩:=zCC (a:=a) (rc:=rcR ps) (pr:=prR ps) (p0:=⟨s,zT ps.length⟩) (i:=i) hC hi (by omega) hil
     unfold rgG rgP rgB
     rw [e1,e2,e3]
     simp only [gmA,ho1,ho2,ho3]
     all_goals first|rfl|exact⟨⟨⟨rfl,rfl⟩,⟨rfl,rfl⟩,⟨rfl,rfl⟩⟩,rfl,rfl⟩|exact⟨rfl,rfl⟩|(simp;done)
end Go.Proofs.Ythepmdkpbjfdcaa
