/- FamilyGame: the reference's side -/
import Derived.Test.YtipplkjdmdlhpaaB13zvi
import Derived.Test.YtipplkjdmdlhpaaB12zvi
import Derived.Test.YtipplkjdmdlhpaaB4zvi
namespace Go.Proofs.Ytipplkjdmdlhpaa
open Nat renaming reduceMod → zA, reduceMul → zB, reduceDiv → zC, reduceAdd → zD, reduceSub → zE, reduceEqDiff → zF, reduceBEq → zG, reduceLT → zH, reduceLeDiff → zI
open Go.RowKit
set_option linter.unusedVariables false
set_option linter.unusedSimpArgs false
set_option maxRecDepth 20000 in
set_option maxHeartbeats 4000000 in
theorem ja (a:Ar)(ha:a.Ln 1048576)(f:Fm)(hf:f.Ln 1048576)(s:Int):Fn Try.prog tyT 24 [.agg (dAr a), .agg (dFm f), .c (.int .i64 s)] [.agg (dPa (fgG a f s)), .c (.lst 72 (yz (fgP a f s))), .c (.bool (fgB a f s))]:=by
 have hno:=ha.owner
 have hnn:=ha.next.1
 have hrr: ∀v,(gl a.next v).length≤1048576:=fun v=>qt ha.next v
 unfold LnI at hno
 have hA:=wV a ha
 have hF:=VZ f hf (a.owner.length:Int)
 have hI:=yS s 0 ((a.owner.length:Int) - 1)
 have hPr:=fun r hr v=>zCx f hf r hr v
 have hfn:=hf.names
 unfold LnI at hfn
 unfold dAr at hA
 unfold dFm at hF hPr
 unfold dAr dFm dPa
 refine Ym (fn:=Try.f24) (rs:= [.cell 6 36, .tmp 7, .tmp 8]) zP zN Try.func24 (by kernel_rfl) rfl rfl (by rw [Try.ntmps24];exact Nat.le_of_ble_eq_true rfl) rfl (by simp only [szA,List.mem_cons,List.not_mem_nil,or_false,forall_eq_or_imp,forall_eq,VT.cells,szL];try decide) ?_
 rw [Try.ntmps24]
 simp only [push_cast,↓zK,↓zJ,↓reduceIte,zA,zB,zC,zD,zE,zF,zG,zH,zI,reduceCtorEq]
 refine zL fun K hK=> ?_
 refine zM zP zN [] rfl ?_
 all_goals simp only [push_cast,↓zK,↓zJ,↓reduceIte,zA,zB,zC,zD,zE,zF,zG,zH,zI,reduceCtorEq]
 all_goals repeat'(first|(apply zO<;>(intro hg;(try simp only [push_cast]at hg)))|apply And.intro|(intro hg;(try simp only [push_cast]at hg)))
 all_goals first|exact gA|(exact zW (by omega))|skip
 all_goals first|(refine hK _ ?_;clear hK K)|(simp only [push_cast];done)
 refine zL fun K hK=> ?_
 refine zM zP zN [] rfl ?_
 all_goals simp only [push_cast,↓zK,↓zJ,↓reduceIte,zA,zB,zC,zD,zE,zF,zG,zH,zI,reduceCtorEq]
 all_goals repeat'(first|(apply zO<;>(intro hg;(try simp only [push_cast]at hg)))|apply And.intro|(intro hg;(try simp only [push_cast]at hg)))
 all_goals first|exact gA|(exact zW (by omega))|skip
 all_goals first|(refine hK _ ?_;clear hK K)|(simp only [push_cast];done)
 refine zL fun K1 hK1=> ?_
 refine zL fun K hK=> ?_
 refine zd false zP zN ?_ rfl ?_
 ·kernel_rfl
 all_goals refine zj 2 fun K9 hK9=> ?_
 all_goals simp only [push_cast,↓zK,↓zJ,↓reduceIte,zA,zB,zC,zD,zE,zF,zG,zH,zI,reduceCtorEq]
 all_goals repeat'(first|(apply zO<;>(intro hg;(try simp only [push_cast]at hg)))|(refine⟨_,hA,?_⟩;simp only [push_cast,↓zK,↓zJ,↓reduceIte,zA,zB,zC,zD,zE,zF,zG,zH,zI,reduceCtorEq])|apply And.intro|(intro hg;(try simp only [push_cast]at hg)))
 all_goals first|exact gA|(exact zW (by omega))|skip
 all_goals first|(refine hK9 _ ?_;clear hK9 K9)|(simp only [push_cast];done)
 all_goals refine zj 5 fun K9 hK9=> ?_
 all_goals simp only [push_cast,↓zK,↓zJ,↓reduceIte,zA,zB,zC,zD,zE,zF,zG,zH,zI,reduceCtorEq]
 all_goals repeat'(first|(apply zO<;>(intro hg;(try simp only [push_cast]at hg)))|(refine⟨_,hF,?_⟩;simp only [push_cast,↓zK,↓zJ,↓reduceIte,zA,zB,zC,zD,zE,zF,zG,zH,zI,reduceCtorEq])|apply And.intro|(intro hg;(try simp only [push_cast]at hg)))
 all_goals first|exact gA|(exact zW (by omega))|skip
 all_goals first|(refine hK9 _ ?_;clear hK9 K9)|(simp only [push_cast];done)
 all_goals refine zj 7 fun K9 hK9=> ?_
 all_goals simp only [push_cast,↓zK,↓zJ,↓reduceIte,zA,zB,zC,zD,zE,zF,zG,zH,zI,reduceCtorEq]
 all_goals repeat'(first|(apply zO<;>(intro hg;(try simp only [push_cast]at hg)))|(refine⟨_,hI,?_⟩;simp only [push_cast,↓zK,↓zJ,↓reduceIte,zA,zB,zC,zD,zE,zF,zG,zH,zI,reduceCtorEq])|apply And.intro|(intro hg;(try simp only [push_cast]at hg)))
 all_goals first|exact gA|(exact zW (by omega))|skip
 all_goals first|(refine hK9 _ ?_;clear hK9 K9)|(simp only [push_cast];done)
 all_goals simp only [push_cast,↓zK,↓zJ,↓reduceIte,zA,zB,zC,zD,zE,zF,zG,zH,zI,reduceCtorEq]
 all_goals repeat'(first|(apply zO<;>(intro hg;(try simp only [push_cast]at hg)))|(refine⟨_,hA,?_⟩;simp only [push_cast,↓zK,↓zJ,↓reduceIte,zA,zB,zC,zD,zE,zF,zG,zH,zI,reduceCtorEq])|(refine⟨_,hF,?_⟩;simp only [push_cast,↓zK,↓zJ,↓reduceIte,zA,zB,zC,zD,zE,zF,zG,zH,zI,reduceCtorEq])|(refine⟨_,hI,?_⟩;simp only [push_cast,↓zK,↓zJ,↓reduceIte,zA,zB,zC,zD,zE,zF,zG,zH,zI,reduceCtorEq])|apply And.intro|(intro hg;(try simp only [push_cast]at hg)))
 all_goals first|exact gA|(exact zW (by omega))|skip
 all_goals first|(refine hK _ ?_;clear hK K)|(simp only [push_cast];done)
 all_goals refine zT rfl (fun hc=> ?_) (fun hc=> ?_)
 all_goals(first|(cases hc;done)|skip)
 all_goals(try simp only [push_cast]at hc)
 all_goals try(
   refine zL fun K hK=> ?_
   refine zd false zP zN ?_ rfl ?_
   ·kernel_rfl
   simp only [push_cast,↓zK,↓zJ,↓reduceIte,zA,zB,zC,zD,zE,zF,zG,zH,zI,reduceCtorEq]
   all_goals repeat'(first|(apply zO<;>(intro hg;(try simp only [push_cast]at hg)))|apply And.intro|(intro hg;(try simp only [push_cast]at hg)))
   all_goals first|exact gA|(exact zW (by omega))|skip
   all_goals first|(refine hK _ ?_;clear hK K)|(simp only [push_cast];done)
   refine zX ?_
   (try simp only [zR,zS])
   refine⟨Or.inl rfl,?_⟩
   simp only [zb,yD,yV,push_cast,↓zK,↓zJ,↓reduceIte,zA,zB,zC,zD,zE,zF,zG,zH,zI,reduceCtorEq]
   obtain⟨e1,e2,e3⟩:=zD4 (a:=a) (f:=f) (s:=s) (by first|exact zBz (by with_reducible assumption)|exact zB0 (by with_reducible assumption)|exact zB1 (by omega))
   rw [e1,e2,e3]
   all_goals first|rfl|exact⟨rfl,rfl⟩|(simp [dI,dII,yz];done)
   done)
 refine zU ?_
 (try simp only [zR,zS,reduceIte,zF]);refine hK1 _ ?_
 have hC:fgC a f s=true:=zB2 (by with_reducible assumption) (by with_reducible assumption) (by omega)
 obtain⟨h1,h2,h3⟩:=vw hC
 have hln:=yT h1
 refine zL fun K hK=> ?_
 refine zd false zP zN ?_ rfl ?_
 ·kernel_rfl
 simp only [push_cast,↓zK,↓zJ,↓reduceIte,zA,zB,zC,zD,zE,zF,zG,zH,zI,reduceCtorEq]
 all_goals repeat'(first|(apply zO<;>(intro hg;(try simp only [push_cast]at hg)))|apply And.intro|(intro hg;(try simp only [push_cast]at hg)))
 all_goals first|exact gA|(exact zW (by omega))|skip
 all_goals first|(refine hK _ ?_;clear hK K)|(simp only [push_cast];done)
 refine qb 72 10 (Nat.le_of_ble_eq_true rfl) ?_
 simp only [push_cast,↓zK,↓zJ,↓reduceIte,zA,zB,zC,zD,zE,zF,zG,zH,zI,reduceCtorEq]
 refine zL fun K hK=> ?_
 refine zM zP zN [] rfl ?_
 all_goals simp only [push_cast,↓zK,↓zJ,↓reduceIte,zA,zB,zC,zD,zE,zF,zG,zH,zI,reduceCtorEq]
 all_goals repeat'(first|(apply zO<;>(intro hg;(try simp only [push_cast]at hg)))|apply And.intro|(intro hg;(try simp only [push_cast]at hg)))
 all_goals first|exact gA|(exact zW (by omega))|skip
 all_goals first|(refine hK _ ?_;clear hK K)|(simp only [push_cast];done)
 refine zL fun K2 hK2=> ?_
 refine zL fun K hK=> ?_
 refine zM zP zN [] rfl ?_
 all_goals simp only [push_cast,↓zK,↓zJ,↓reduceIte,zA,zB,zC,zD,zE,zF,zG,zH,zI,reduceCtorEq]
 all_goals repeat'(first|(apply zO<;>(intro hg;(try simp only [push_cast]at hg)))|apply And.intro|(intro hg;(try simp only [push_cast]at hg)))
 all_goals first|exact gA|(exact zW (by omega))|skip
 all_goals first|(refine hK _ ?_;clear hK K)|(simp only [push_cast];done)
 refine zV ?_
 refine zh [7,8,10,11,12,13,14,15,16,17,18,25,31,48,49,50,51,52,53,54,55,56,57,58,59,60,61,62,63,64,65,66,67,68,69,70,71,72,73,74,75,76,77,78,79,80,81,82,83,84,85,86,87,88,89,90,91,92,93,94,95,96,97,98,99,100,101,102,103,104,105,106,107,108,109,110,111,112,113,114,115,116,117,118,119,120,121,122,123,124,125,126,127,128,129,130,131,132,133,134,135,136,137,138,139,140] [] (fun(i:Nat)=> [(12, .int .i64 i),(10, .sl 160 [] 0 (stQ (usA a) rcF ⟨s,f.names⟩ i).length 72),(11, .bp 11 0)]) (fun i=> [(11,[.sl 176 [] 0 i 2, .sl 177 [] 0 i 27, .sl 178 [] 0 i 2])]) (fun i=> [(160,⟨.ex,72,yz (stQ (usA a) rcF ⟨s,f.names⟩ i),none⟩),(176,⟨.ex,2,dI (qK a rcF ⟨s,f.names⟩ i),none⟩),(177,⟨.ex,27,dII (nxG a rcF ⟨s,f.names⟩ i),none⟩),(178,⟨.ex,2,dI (prG a rcF (prF f) ⟨s,f.names⟩ i),none⟩)]) (fun i=>i≤256∧i≤(stQ (usA a) rcF ⟨s,f.names⟩ i).length∧(stQ (usA a) rcF ⟨s,f.names⟩ i).length≤256) (fun i=>257 - i) 0 ?_ ⟨by omega,Nat.zero_le _,(by show 1≤256;decide)⟩ ?_
 ·
  rw [show stQ (usA a) rcF ⟨s,f.names⟩ 0= [⟨s,f.names⟩]from rfl,zEe,zGa,zGf]
  refine zY rfl ?_ ?_ ?_<;>simp only [zf,ze,push_cast,↓zK,↓zJ,↓reduceIte,zA,zB,zC,zD,zE,zF,zG,zH,zI,reduceCtorEq]
  exact⟨rfl,rfl,rfl,rfl⟩
 ·rintro i ⟨hi,hil,hsl⟩ KL0 hL0
  have hall:=wd h1 h3 i
  have hq:QLn 1048576 (stQ (usA a) rcF ⟨s,f.names⟩ i):=⟨by omega,fun p hp=>by have :=h3.small _ (hall p hp).2.2;omega⟩
  have hgl:=fun k=>Wn hq k
  have ho1:=qp (a:=a) (rc:=rcF) (p0:=⟨s,f.names⟩) i
  have ho2:=QO (a:=a) (rc:=rcF) (p0:=⟨s,f.names⟩) i
  have ho3:=Yg (a:=a) (rc:=rcF) (pr:=prF f) (p0:=⟨s,f.names⟩) i
  simp only [push_cast,↓zK,↓zJ,↓reduceIte,zA,zB,zC,zD,zE,zF,zG,zH,zI,reduceCtorEq]
  refine zL fun K3 hK3=> ?_
  refine zL fun K hK=> ?_
  refine zM zP zN [] rfl ?_
  all_goals simp only [push_cast,↓zK,↓zJ,↓reduceIte,zA,zB,zC,zD,zE,zF,zG,zH,zI,reduceCtorEq]
  all_goals repeat'(first|(apply zO<;>(intro hg;(try simp only [push_cast]at hg)))|apply And.intro|(intro hg;(try simp only [push_cast]at hg)))
  all_goals first|exact gA|(exact zW (by omega))|skip
  all_goals first|(refine hK _ ?_;clear hK K)|(simp only [push_cast];done)
  refine zT rfl (fun hc=> ?_) (fun hc=> ?_)<;>(try simp only [push_cast]at hc)
  ·
   refine zU ?_
   (try simp only [zR,zS,reduceIte,zF]);refine hK3 _ ?_
   refine zL fun K4 hK4=> ?_
   refine zV ?_
   have hP:=hall _ (vx (k:=i) (by omega))
   have hU:1≤(gl a.next (gq (stQ (usA a) rcF ⟨s,f.names⟩ i) i).at_.toNat).length∧(gl a.next (gq (stQ (usA a) rcF ⟨s,f.names⟩ i) i).at_.toNat).length≤16∧∀u∈(gl a.next (gq (stQ (usA a) rcF ⟨s,f.names⟩ i) i).at_.toNat),0≤u∧u<(a.owner.length:Int):=JC h1 ⟨hP.1,hP.2.1⟩
   have hpl:=h3.small _ hP.2.2
   have hnl:=zFs (gq (stQ (usA a) rcF ⟨s,f.names⟩ i) i).record (gq (stQ (usA a) rcF ⟨s,f.names⟩ i) i).at_
   refine zL fun K hK=> ?_
   refine zM zP zN [] rfl ?_
   all_goals simp only [push_cast,↓zK,↓zJ,↓reduceIte,zA,zB,zC,zD,zE,zF,zG,zH,zI,reduceCtorEq]
   all_goals repeat'(first|(apply zO<;>(intro hg;(try simp only [push_cast]at hg)))|apply And.intro|(intro hg;(try simp only [push_cast]at hg)))
   all_goals first|exact gA|(exact zW (by omega))|skip
   all_goals first|(refine hK _ ?_;clear hK K)|(simp only [push_cast];done)
   refine zL fun K hK=> ?_
   refine zM zP zN [] rfl ?_
   all_goals refine zx 5 fun K9 hK9=> ?_
   all_goals simp only [push_cast,↓zK,↓zJ,↓reduceIte,zA,zB,zC,zD,zE,zF,zG,zH,zI,reduceCtorEq]
   all_goals repeat'(first|(apply zO<;>(intro hg;(try simp only [push_cast]at hg)))|(refine⟨_,Ky (gq (stQ (usA a) rcF ⟨s,f.names⟩ i) i).record (by omega) (gq (stQ (usA a) rcF ⟨s,f.names⟩ i) i).at_,?_⟩;simp only [push_cast,↓zK,↓zJ,↓reduceIte,zA,zB,zC,zD,zE,zF,zG,zH,zI,reduceCtorEq])|apply And.intro|(intro hg;(try simp only [push_cast]at hg)))
   all_goals first|exact gA|(exact zW (by omega))|skip
   all_goals first|(refine hK9 _ ?_;clear hK9 K9)|(simp only [push_cast];done)
   all_goals simp only [push_cast,↓zK,↓zJ,↓reduceIte,zA,zB,zC,zD,zE,zF,zG,zH,zI,reduceCtorEq]
   all_goals repeat'(first|(apply zO<;>(intro hg;(try simp only [push_cast]at hg)))|(refine⟨_,Ky (gq (stQ (usA a) rcF ⟨s,f.names⟩ i) i).record (by omega) (gq (stQ (usA a) rcF ⟨s,f.names⟩ i) i).at_,?_⟩;simp only [push_cast,↓zK,↓zJ,↓reduceIte,zA,zB,zC,zD,zE,zF,zG,zH,zI,reduceCtorEq])|apply And.intro|(intro hg;(try simp only [push_cast]at hg)))
   all_goals first|exact gA|(exact zW (by omega))|skip
   all_goals first|(refine hK _ ?_;clear hK K)|(simp only [push_cast];done)
   refine zL fun K hK=> ?_
   refine zM zP zN [] rfl ?_
   all_goals simp only [push_cast,↓zK,↓zJ,↓reduceIte,zA,zB,zC,zD,zE,zF,zG,zH,zI,reduceCtorEq]
   all_goals repeat'(first|(apply zO<;>(intro hg;(try simp only [push_cast]at hg)))|apply And.intro|(intro hg;(try simp only [push_cast]at hg)))
   all_goals first|exact gA|(exact zW (by omega))|skip
   all_goals first|(refine hK _ ?_;clear hK K)|(simp only [push_cast];done)
   refine zL fun K5 hK5=> ?_
   refine zL fun K hK=> ?_
   refine zM zP zN [] rfl ?_
   all_goals simp only [push_cast,↓zK,↓zJ,↓reduceIte,zA,zB,zC,zD,zE,zF,zG,zH,zI,reduceCtorEq]
   all_goals repeat'(first|(apply zO<;>(intro hg;(try simp only [push_cast]at hg)))|apply And.intro|(intro hg;(try simp only [push_cast]at hg)))
   all_goals first|exact gA|(exact zW (by omega))|skip
   all_goals first|(refine hK _ ?_;clear hK K)|(simp only [push_cast];done)
   refine zV ?_
   refine zh [7,8,10,13,15,16,17,18,25,31,49,54,55,56,57,58,59,60,64,65,66,67,68,69,70,71,72,73,74,75,76,77,78,79,80,81,82,83,84,85,86,87,88,89,90,91,92,93,94,95,96,97,98,99,100,101,102,103,104,105,106,107] [240,208,209] (fun(k:Nat)=> [(16, .int .i64 k),(10, .sl 160 [] 0 (zr (zv (gq (stQ (usA a) rcF ⟨s,f.names⟩ i) i).record (gq (stQ (usA a) rcF ⟨s,f.names⟩ i) i).at_) (gl a.next (gq (stQ (usA a) rcF ⟨s,f.names⟩ i) i).at_.toNat) (stQ (usA a) rcF ⟨s,f.names⟩ i) k).1.length 72),(15, .sl 240 [] 0 k 2),(13, .bp 13 0)]) (fun k=> [(13,[.int .i64 (gq (stQ (usA a) rcF ⟨s,f.names⟩ i) i).at_, .sl 160 [i*2+1] 0 (gq (stQ (usA a) rcF ⟨s,f.names⟩ i) i).record.length 2])]) (fun k=> [(160,⟨.ex,72,yz (zr (zv (gq (stQ (usA a) rcF ⟨s,f.names⟩ i) i).record (gq (stQ (usA a) rcF ⟨s,f.names⟩ i) i).at_) (gl a.next (gq (stQ (usA a) rcF ⟨s,f.names⟩ i) i).at_.toNat) (stQ (usA a) rcF ⟨s,f.names⟩ i) k).1,none⟩),(240,⟨.ex,2,dI (zr (zv (gq (stQ (usA a) rcF ⟨s,f.names⟩ i) i).record (gq (stQ (usA a) rcF ⟨s,f.names⟩ i) i).at_) (gl a.next (gq (stQ (usA a) rcF ⟨s,f.names⟩ i) i).at_.toNat) (stQ (usA a) rcF ⟨s,f.names⟩ i) k).2,none⟩)]) (fun k=>k≤(gl a.next (gq (stQ (usA a) rcF ⟨s,f.names⟩ i) i).at_.toNat).length∧(zr (zv (gq (stQ (usA a) rcF ⟨s,f.names⟩ i) i).record (gq (stQ (usA a) rcF ⟨s,f.names⟩ i) i).at_) (gl a.next (gq (stQ (usA a) rcF ⟨s,f.names⟩ i) i).at_.toNat) (stQ (usA a) rcF ⟨s,f.names⟩ i) k).1.length≤256) (fun k=>(gl a.next (gq (stQ (usA a) rcF ⟨s,f.names⟩ i) i).at_.toNat).length - k) 0 ?_ ⟨by omega,hsl⟩ ?_
   ·
    rw [zAh]
    refine zY rfl ?_ ?_ ?_<;>simp only [zf,ze,push_cast,↓zK,↓zJ,↓reduceIte,zA,zB,zC,zD,zE,zF,zG,zH,zI,reduceCtorEq]
    all_goals rfl
   ·rintro k ⟨hk,hkl⟩ KL1 hL1
    have hrl:=qL (r:=(zv (gq (stQ (usA a) rcF ⟨s,f.names⟩ i) i).record (gq (stQ (usA a) rcF ⟨s,f.names⟩ i) i).at_)) (us:=(gl a.next (gq (stQ (usA a) rcF ⟨s,f.names⟩ i) i).at_.toNat)) (ps:=(stQ (usA a) rcF ⟨s,f.names⟩ i)) (k:=k) hk
    have hQr:QLn 1048576 (zr (zv (gq (stQ (usA a) rcF ⟨s,f.names⟩ i) i).record (gq (stQ (usA a) rcF ⟨s,f.names⟩ i) i).at_) (gl a.next (gq (stQ (usA a) rcF ⟨s,f.names⟩ i) i).at_.toNat) (stQ (usA a) rcF ⟨s,f.names⟩ i) k).1:=⟨by omega,fun p hp=>by have :=h3.small _ (zEi h1 h3 (i:=i) (k:=k) (by omega) hk p hp).2.2;omega⟩
    have hx:=zEQ (yq (gi (gl a.next (gq (stQ (usA a) rcF ⟨s,f.names⟩ i) i).at_.toNat) k) (zv (gq (stQ (usA a) rcF ⟨s,f.names⟩ i) i).record (gq (stQ (usA a) rcF ⟨s,f.names⟩ i) i).at_)) (zr (zv (gq (stQ (usA a) rcF ⟨s,f.names⟩ i) i).record (gq (stQ (usA a) rcF ⟨s,f.names⟩ i) i).at_) (gl a.next (gq (stQ (usA a) rcF ⟨s,f.names⟩ i) i).at_.toNat) (stQ (usA a) rcF ⟨s,f.names⟩ i) k).1
    simp only [push_cast,↓zK,↓zJ,↓reduceIte,zA,zB,zC,zD,zE,zF,zG,zH,zI,reduceCtorEq]
    refine zL fun K6 hK6=> ?_
    refine zL fun K hK=> ?_
    refine zM zP zN [] rfl ?_
    all_goals simp only [push_cast,↓zK,↓zJ,↓reduceIte,zA,zB,zC,zD,zE,zF,zG,zH,zI,reduceCtorEq]
    all_goals repeat'(first|(apply zO<;>(intro hg;(try simp only [push_cast]at hg)))|apply And.intro|(intro hg;(try simp only [push_cast]at hg)))
    all_goals first|exact gA|(exact zW (by omega))|skip
    all_goals first|(refine hK _ ?_;clear hK K)|(simp only [push_cast];done)
    refine zT rfl (fun hc=> ?_) (fun hc=> ?_)<;>(try simp only [push_cast]at hc)
    ·
     refine zU ?_
     (try simp only [zR,zS,reduceIte,zF]);refine hK6 _ ?_
     refine zL fun K7 hK7=> ?_
     refine zV ?_
     refine zL fun K hK=> ?_
     refine zM zP zN [] rfl ?_
     all_goals simp only [push_cast,↓zK,↓zJ,↓reduceIte,zA,zB,zC,zD,zE,zF,zG,zH,zI,reduceCtorEq]
     all_goals repeat'(first|(apply zO<;>(intro hg;(try simp only [push_cast]at hg)))|apply And.intro|(intro hg;(try simp only [push_cast]at hg)))
     all_goals first|exact gA|(exact zW (by omega))|skip
     all_goals first|(refine hK _ ?_;clear hK K)|(simp only [push_cast];done)
     refine zL fun K hK=> ?_
     refine zM zP zN [] rfl ?_
     all_goals refine zx 4 fun K9 hK9=> ?_
     all_goals simp only [push_cast,↓zK,↓zJ,↓reduceIte,zA,zB,zC,zD,zE,zF,zG,zH,zI,reduceCtorEq]
     all_goals repeat'(first|(apply zO<;>(intro hg;(try simp only [push_cast]at hg)))|(refine⟨_,Kx (zr (zv (gq (stQ (usA a) rcF ⟨s,f.names⟩ i) i).record (gq (stQ (usA a) rcF ⟨s,f.names⟩ i) i).at_) (gl a.next (gq (stQ (usA a) rcF ⟨s,f.names⟩ i) i).at_.toNat) (stQ (usA a) rcF ⟨s,f.names⟩ i) k).1 hQr (gi (gl a.next (gq (stQ (usA a) rcF ⟨s,f.names⟩ i) i).at_.toNat) k) (zv (gq (stQ (usA a) rcF ⟨s,f.names⟩ i) i).record (gq (stQ (usA a) rcF ⟨s,f.names⟩ i) i).at_) (by omega),?_⟩;simp only [push_cast,↓zK,↓zJ,↓reduceIte,zA,zB,zC,zD,zE,zF,zG,zH,zI,reduceCtorEq])|apply And.intro|(intro hg;(try simp only [push_cast]at hg)))
     all_goals first|exact gA|(exact zW (by omega))|skip
     all_goals first|(refine hK9 _ ?_;clear hK9 K9)|(simp only [push_cast];done)
     all_goals simp only [push_cast,↓zK,↓zJ,↓reduceIte,zA,zB,zC,zD,zE,zF,zG,zH,zI,reduceCtorEq]
     all_goals repeat'(first|(apply zO<;>(intro hg;(try simp only [push_cast]at hg)))|(refine⟨_,Kx (zr (zv (gq (stQ (usA a) rcF ⟨s,f.names⟩ i) i).record (gq (stQ (usA a) rcF ⟨s,f.names⟩ i) i).at_) (gl a.next (gq (stQ (usA a) rcF ⟨s,f.names⟩ i) i).at_.toNat) (stQ (usA a) rcF ⟨s,f.names⟩ i) k).1 hQr (gi (gl a.next (gq (stQ (usA a) rcF ⟨s,f.names⟩ i) i).at_.toNat) k) (zv (gq (stQ (usA a) rcF ⟨s,f.names⟩ i) i).record (gq (stQ (usA a) rcF ⟨s,f.names⟩ i) i).at_) (by omega),?_⟩;simp only [push_cast,↓zK,↓zJ,↓reduceIte,zA,zB,zC,zD,zE,zF,zG,zH,zI,reduceCtorEq])|apply And.intro|(intro hg;(try simp only [push_cast]at hg)))
     all_goals first|exact gA|(exact zW (by omega))|skip
     all_goals first|(refine hK _ ?_;clear hK K)|(simp only [push_cast];done)
     refine zL fun K8 hK8=> ?_
     refine zL fun K hK=> ?_
     refine zM zP zN [] rfl ?_
     all_goals simp only [push_cast,↓zK,↓zJ,↓reduceIte,zA,zB,zC,zD,zE,zF,zG,zH,zI,reduceCtorEq]
     all_goals repeat'(first|(apply zO<;>(intro hg;(try simp only [push_cast]at hg)))|apply And.intro|(intro hg;(try simp only [push_cast]at hg)))
     all_goals first|exact gA|(exact zW (by omega))|skip
     all_goals first|(refine hK _ ?_;clear hK K)|(simp only [push_cast];done)
     refine zT rfl (fun hc=> ?_) (fun hc=> ?_)<;>(try simp only [push_cast]at hc)
     ·
      refine zL fun K hK=> ?_
      refine zM zP zN [] rfl ?_
      all_goals simp only [push_cast,↓zK,↓zJ,↓reduceIte,zA,zB,zC,zD,zE,zF,zG,zH,zI,reduceCtorEq]
      all_goals repeat'(first|(apply zO<;>(intro hg;(try simp only [push_cast]at hg)))|apply And.intro|(intro hg;(try simp only [push_cast]at hg)))
      all_goals first|exact gA|(exact zW (by omega))|skip
      all_goals first|(refine hK _ ?_;clear hK K)|(simp only [push_cast];done)
      refine zL fun K9 hK9=> ?_
      refine zL fun K hK=> ?_
      refine zM zP zN [] rfl ?_
      all_goals simp only [push_cast,↓zK,↓zJ,↓reduceIte,zA,zB,zC,zD,zE,zF,zG,zH,zI,reduceCtorEq]
      all_goals repeat'(first|(apply zO<;>(intro hg;(try simp only [push_cast]at hg)))|apply And.intro|(intro hg;(try simp only [push_cast]at hg)))
      all_goals first|exact gA|(exact zW (by omega))|skip
      all_goals first|(refine hK _ ?_;clear hK K)|(simp only [push_cast];done)
      refine zT rfl (fun hc=> ?_) (fun hc=> ?_)<;>(try simp only [push_cast]at hc)
      ·
       refine zL fun K hK=> ?_
       refine zd false zP zN ?_ rfl ?_
       ·kernel_rfl
       simp only [push_cast,↓zK,↓zJ,↓reduceIte,zA,zB,zC,zD,zE,zF,zG,zH,zI,reduceCtorEq]
       all_goals repeat'(first|(apply zO<;>(intro hg;(try simp only [push_cast]at hg)))|apply And.intro|(intro hg;(try simp only [push_cast]at hg)))
       all_goals first|exact gA|(exact zW (by omega))|skip
       all_goals first|(refine hK _ ?_;clear hK K)|(simp only [push_cast];done)
       refine zX ?_
       (try simp only [zR,zS])
       refine⟨Or.inl rfl,?_⟩
       simp only [zb,yD,yV,push_cast,↓zK,↓zJ,↓reduceIte,zA,zB,zC,zD,zE,zF,zG,zH,zI,reduceCtorEq]
       obtain⟨e1,e2,e3⟩:=zD5 (a:=a) (f:=f) (s:=s) (zHY (i:=i) (k:=k) (by omega) (by omega) (by show k<(gl a.next (gq (stQ (usA a) rcF ⟨s,f.names⟩ i) i).at_.toNat).length;omega) (by show ixQ (yq (gi (gl a.next (gq (stQ (usA a) rcF ⟨s,f.names⟩ i) i).at_.toNat) k) (zv (gq (stQ (usA a) rcF ⟨s,f.names⟩ i) i).record (gq (stQ (usA a) rcF ⟨s,f.names⟩ i) i).at_)) (zr (zv (gq (stQ (usA a) rcF ⟨s,f.names⟩ i) i).record (gq (stQ (usA a) rcF ⟨s,f.names⟩ i) i).at_) (gl a.next (gq (stQ (usA a) rcF ⟨s,f.names⟩ i) i).at_.toNat) (stQ (usA a) rcF ⟨s,f.names⟩ i) k).1<0;with_reducible assumption) (by show 256≤(zr (zv (gq (stQ (usA a) rcF ⟨s,f.names⟩ i) i).record (gq (stQ (usA a) rcF ⟨s,f.names⟩ i) i).at_) (gl a.next (gq (stQ (usA a) rcF ⟨s,f.names⟩ i) i).at_.toNat) (stQ (usA a) rcF ⟨s,f.names⟩ i) k).1.length;omega))
       rw [e1,e2,e3]
       all_goals first|rfl|exact⟨rfl,rfl⟩|(simp [dI,dII,yz];done)
      ·
       refine zU ?_
       (try simp only [zR,zS,reduceIte,zF]);refine hK9 _ ?_
       refine JJ 7 13 1 1648 160 [160] zP zN ?_ rfl rfl rfl fun K9 hK9=> ?_
       ·kernel_rfl
       all_goals simp only [push_cast,↓zK,↓zJ,↓reduceIte,zA,zB,zC,zD,zE,zF,zG,zH,zI,reduceCtorEq]
       all_goals repeat'(first|(apply zO<;>(intro hg;(try simp only [push_cast]at hg)))|apply And.intro|(intro hg;(try simp only [push_cast]at hg)))
       all_goals first|exact gA|(exact zW (by omega))|skip
       all_goals first|(refine hK9 _ ?_;clear hK9 K9)|(simp only [push_cast];done)
       all_goals simp only [push_cast,↓zK,↓zJ,↓reduceIte,zA,zB,zC,zD,zE,zF,zG,zH,zI,reduceCtorEq]
       all_goals repeat'(first|(apply zO<;>(intro hg;(try simp only [push_cast]at hg)))|apply And.intro|(intro hg;(try simp only [push_cast]at hg)))
       all_goals first|exact gA|(exact zW (by omega))|skip
       (try simp only [zR,zS,reduceIte,zF]);refine hK8 _ ?_
       refine zM zP zN [] rfl ?_
       all_goals simp only [push_cast,↓zK,↓zJ,↓reduceIte,zA,zB,zC,zD,zE,zF,zG,zH,zI,reduceCtorEq]
       all_goals repeat'(first|(apply zO<;>(intro hg;(try simp only [push_cast]at hg)))|apply And.intro|(intro hg;(try simp only [push_cast]at hg)))
       all_goals first|exact gA|(exact zW (by omega))|skip
       (try simp only [zR,zS,reduceIte,zF]);refine hK7 _ ?_
       refine zM zP zN [] rfl ?_
       all_goals simp only [push_cast,↓zK,↓zJ,↓reduceIte,zA,zB,zC,zD,zE,zF,zG,zH,zI,reduceCtorEq]
       all_goals repeat'(first|(apply zO<;>(intro hg;(try simp only [push_cast]at hg)))|apply And.intro|(intro hg;(try simp only [push_cast]at hg)))
       all_goals first|exact gA|(exact zW (by omega))|skip
       refine hL1 _ ⟨k+1,⟨by omega,(by rw [vX (by omega) (by with_reducible assumption),List.length_append,List.length_singleton];omega)⟩,by omega,?_⟩
       (try rw [List.take_of_length_le (l:=(zr (zv (gq (stQ (usA a) rcF ⟨s,f.names⟩ i) i).record (gq (stQ (usA a) rcF ⟨s,f.names⟩ i) i).at_) (gl a.next (gq (stQ (usA a) rcF ⟨s,f.names⟩ i) i).at_.toNat) (stQ (usA a) rcF ⟨s,f.names⟩ i) k).2) (by omega)])
       rw [vX (by omega) (by with_reducible assumption)]
       refine zY rfl ?_ ?_ ?_<;>simp only [zf,ze,push_cast,↓zK,↓zJ,↓reduceIte,zA,zB,zC,zD,zE,zF,zG,zH,zI,reduceCtorEq]
       all_goals first|rfl|(rw [List.length_append];rfl)|exact⟨rfl,rfl⟩|skip
     ·
      refine zU ?_
      (try simp only [zR,zS,reduceIte,zF]);refine hK8 _ ?_
      refine zM zP zN [] rfl ?_
      all_goals simp only [push_cast,↓zK,↓zJ,↓reduceIte,zA,zB,zC,zD,zE,zF,zG,zH,zI,reduceCtorEq]
      all_goals repeat'(first|(apply zO<;>(intro hg;(try simp only [push_cast]at hg)))|apply And.intro|(intro hg;(try simp only [push_cast]at hg)))
      all_goals first|exact gA|(exact zW (by omega))|skip
      (try simp only [zR,zS,reduceIte,zF]);refine hK7 _ ?_
      refine zM zP zN [] rfl ?_
      all_goals simp only [push_cast,↓zK,↓zJ,↓reduceIte,zA,zB,zC,zD,zE,zF,zG,zH,zI,reduceCtorEq]
      all_goals repeat'(first|(apply zO<;>(intro hg;(try simp only [push_cast]at hg)))|apply And.intro|(intro hg;(try simp only [push_cast]at hg)))
      all_goals first|exact gA|(exact zW (by omega))|skip
      refine hL1 _ ⟨k+1,⟨by omega,(by rw [wC (by omega) (by with_reducible assumption)];omega)⟩,by omega,?_⟩
      (try rw [List.take_of_length_le (l:=(zr (zv (gq (stQ (usA a) rcF ⟨s,f.names⟩ i) i).record (gq (stQ (usA a) rcF ⟨s,f.names⟩ i) i).at_) (gl a.next (gq (stQ (usA a) rcF ⟨s,f.names⟩ i) i).at_.toNat) (stQ (usA a) rcF ⟨s,f.names⟩ i) k).2) (by omega)])
      rw [wC (by omega) (by with_reducible assumption)]
      refine zY rfl ?_ ?_ ?_<;>simp only [zf,ze,push_cast,↓zK,↓zJ,↓reduceIte,zA,zB,zC,zD,zE,zF,zG,zH,zI,reduceCtorEq]
      all_goals first|rfl|(rw [List.length_append];rfl)|exact⟨rfl,rfl⟩|skip
    ·
     refine zk ?_
     have hkk:k=(gl a.next (gq (stQ (usA a) rcF ⟨s,f.names⟩ i) i).at_.toNat).length:=by omega
     subst hkk
     (try simp only [zR,zS,reduceIte,zF]);refine hK5 _ ?_
     refine zL fun K hK=> ?_
     refine zw false zP zN yj ?_ rfl ?_
     ·kernel_rfl
     intro E hE
     all_goals simp only [push_cast,↓zK,↓zJ,↓reduceIte,zA,zB,zC,zD,zE,zF,zG,zH,zI,reduceCtorEq]
     all_goals repeat'(first|(apply zO<;>(intro hg;(try simp only [push_cast]at hg)))|apply And.intro|(intro hg;(try simp only [push_cast]at hg)))
     all_goals first|exact gA|(refine hE _ _ ?_ ?_;kernel_rfl)|(exact zW (by omega))|skip
     all_goals clear hE E
     all_goals first|(refine hK _ ?_;clear hK K)|(simp only [push_cast];done)
     have hSo:Fn Try.prog tyT 37 [.c (DI (List.take (gl a.next (gq (stQ (usA a) rcF ⟨s,f.names⟩ i) i).at_.toNat).length (zr (zv (gq (stQ (usA a) rcF ⟨s,f.names⟩ i) i).record (gq (stQ (usA a) rcF ⟨s,f.names⟩ i) i).at_) (gl a.next (gq (stQ (usA a) rcF ⟨s,f.names⟩ i) i).at_.toNat) (stQ (usA a) rcF ⟨s,f.names⟩ i) (gl a.next (gq (stQ (usA a) rcF ⟨s,f.names⟩ i) i).at_.toNat).length).2))] [.c (DI (yF (zr (zv (gq (stQ (usA a) rcF ⟨s,f.names⟩ i) i).record (gq (stQ (usA a) rcF ⟨s,f.names⟩ i) i).at_) (gl a.next (gq (stQ (usA a) rcF ⟨s,f.names⟩ i) i).at_.toNat) (stQ (usA a) rcF ⟨s,f.names⟩ i) (gl a.next (gq (stQ (usA a) rcF ⟨s,f.names⟩ i) i).at_.toNat).length).2))]:=by rw [List.take_of_length_le (l:=(zr (zv (gq (stQ (usA a) rcF ⟨s,f.names⟩ i) i).record (gq (stQ (usA a) rcF ⟨s,f.names⟩ i) i).at_) (gl a.next (gq (stQ (usA a) rcF ⟨s,f.names⟩ i) i).at_.toNat) (stQ (usA a) rcF ⟨s,f.names⟩ i) (gl a.next (gq (stQ (usA a) rcF ⟨s,f.names⟩ i) i).at_.toNat).length).2) (by omega)];exact zAP _ (by omega)
     refine zL fun K hK=> ?_
     refine zw false zP zN yj ?_ rfl ?_
     ·kernel_rfl
     intro E hE
     all_goals refine yJ 5 (by decide) fun K9 hK9=> ?_
     all_goals simp only [push_cast,↓zK,↓zJ,↓reduceIte,zA,zB,zC,zD,zE,zF,zG,zH,zI,reduceCtorEq]
     all_goals repeat'(first|(apply zO<;>(intro hg;(try simp only [push_cast]at hg)))|(refine⟨_,hSo,?_⟩;simp only [push_cast,↓zK,↓zJ,↓reduceIte,zA,zB,zC,zD,zE,zF,zG,zH,zI,reduceCtorEq])|apply And.intro|(intro hg;(try simp only [push_cast]at hg)))
     all_goals first|exact gA|(exact zW (by omega))|skip
     all_goals first|(refine hK9 _ _ ?_;clear hK9 K9)|(simp only [push_cast];done)
     all_goals simp only [push_cast,↓zK,↓zJ,↓reduceIte,zA,zB,zC,zD,zE,zF,zG,zH,zI,reduceCtorEq]
     all_goals repeat'(first|(apply zO<;>(intro hg;(try simp only [push_cast]at hg)))|(refine⟨_,hSo,?_⟩;simp only [push_cast,↓zK,↓zJ,↓reduceIte,zA,zB,zC,zD,zE,zF,zG,zH,zI,reduceCtorEq])|apply And.intro|(intro hg;(try simp only [push_cast]at hg)))
     all_goals first|exact gA|(refine hE _ _ ?_ ?_;kernel_rfl)|(exact zW (by omega))|skip
     all_goals clear hE E
     all_goals first|(refine hK _ ?_;clear hK K)|(simp only [push_cast];done)
     have hgi:gq (zr (zv (gq (stQ (usA a) rcF ⟨s,f.names⟩ i) i).record (gq (stQ (usA a) rcF ⟨s,f.names⟩ i) i).at_) (gl a.next (gq (stQ (usA a) rcF ⟨s,f.names⟩ i) i).at_.toNat) (stQ (usA a) rcF ⟨s,f.names⟩ i) (gl a.next (gq (stQ (usA a) rcF ⟨s,f.names⟩ i) i).at_.toNat).length).1 i=(gq (stQ (usA a) rcF ⟨s,f.names⟩ i) i):=Wy (by omega) (Nat.le_refl _)
     have hPq:Fn Try.prog tyT 64 [.agg [DI f.names,DII f.sets], .c (DI (List.take (gq (stQ (usA a) rcF ⟨s,f.names⟩ i) i).record.length (gq (zr (zv (gq (stQ (usA a) rcF ⟨s,f.names⟩ i) i).record (gq (stQ (usA a) rcF ⟨s,f.names⟩ i) i).at_) (gl a.next (gq (stQ (usA a) rcF ⟨s,f.names⟩ i) i).at_.toNat) (stQ (usA a) rcF ⟨s,f.names⟩ i) (gl a.next (gq (stQ (usA a) rcF ⟨s,f.names⟩ i) i).at_.toNat).length).1 i).record)), .c (.int .i64 (gq (stQ (usA a) rcF ⟨s,f.names⟩ i) i).at_)] [.c (.int .i64 (yp f (gq (stQ (usA a) rcF ⟨s,f.names⟩ i) i).record (gq (stQ (usA a) rcF ⟨s,f.names⟩ i) i).at_))]:=by rw [hgi,List.take_length];exact hPr _ (by omega) _
     refine zw false zP zN yj ?_ rfl ?_
     ·kernel_rfl
     intro E hE
     all_goals refine yJ 8 (by decide) fun K9 hK9=> ?_
     all_goals simp only [push_cast,↓zK,↓zJ,↓reduceIte,zA,zB,zC,zD,zE,zF,zG,zH,zI,reduceCtorEq]
     all_goals repeat'(first|(apply zO<;>(intro hg;(try simp only [push_cast]at hg)))|(refine⟨_,hPq,?_⟩;simp only [push_cast,↓zK,↓zJ,↓reduceIte,zA,zB,zC,zD,zE,zF,zG,zH,zI,reduceCtorEq])|apply And.intro|(intro hg;(try simp only [push_cast]at hg)))
     all_goals first|exact gA|(exact zW (by omega))|skip
     all_goals first|(refine hK9 _ _ ?_;clear hK9 K9)|(simp only [push_cast];done)
     all_goals simp only [push_cast,↓zK,↓zJ,↓reduceIte,zA,zB,zC,zD,zE,zF,zG,zH,zI,reduceCtorEq]
     all_goals repeat'(first|(apply zO<;>(intro hg;(try simp only [push_cast]at hg)))|(refine⟨_,hPq,?_⟩;simp only [push_cast,↓zK,↓zJ,↓reduceIte,zA,zB,zC,zD,zE,zF,zG,zH,zI,reduceCtorEq])|apply And.intro|(intro hg;(try simp only [push_cast]at hg)))
     all_goals first|exact gA|(refine hE _ _ ?_ ?_;kernel_rfl)|(exact zW (by omega))|skip
     all_goals clear hE E
     (try simp only [zR,zS,reduceIte,zF]);refine hK4 _ ?_
     refine yv [.sl 2, .sl 27, .sl 2] 11 ?_
     simp only [push_cast,↓zK,↓zJ,↓reduceIte,zA,zB,zC,zD,zE,zF,zG,zH,zI,reduceCtorEq]
     refine zM zP zN [] rfl ?_
     all_goals simp only [push_cast,↓zK,↓zJ,↓reduceIte,zA,zB,zC,zD,zE,zF,zG,zH,zI,reduceCtorEq]
     all_goals repeat'(first|(apply zO<;>(intro hg;(try simp only [push_cast]at hg)))|apply And.intro|(intro hg;(try simp only [push_cast]at hg)))
     all_goals first|exact gA|(exact zW (by omega))|skip
     have hst:(stQ (usA a) rcF ⟨s,f.names⟩ (i+1))=(zr (zv (gq (stQ (usA a) rcF ⟨s,f.names⟩ i) i).record (gq (stQ (usA a) rcF ⟨s,f.names⟩ i) i).at_) (gl a.next (gq (stQ (usA a) rcF ⟨s,f.names⟩ i) i).at_.toNat) (stQ (usA a) rcF ⟨s,f.names⟩ i) (gl a.next (gq (stQ (usA a) rcF ⟨s,f.names⟩ i) i).at_.toNat).length).1:=Ya (by omega)
     refine hL0 _ ⟨i+1,⟨by omega,(by rw [hst];omega),(by rw [hst];omega)⟩,by omega,?_⟩
     (try rw [List.take_of_length_le (l:=qK a rcF ⟨s,f.names⟩ i) (by omega)])
     (try rw [List.take_of_length_le (l:=nxG a rcF ⟨s,f.names⟩ i) (by omega)])
     (try rw [List.take_of_length_le (l:=prG a rcF (prF f) ⟨s,f.names⟩ i) (by omega)])
     rw [hst,zEf,zGb,zGg,show plQ (usA a) rcF ⟨s,f.names⟩ i=(gq (stQ (usA a) rcF ⟨s,f.names⟩ i) i)from rfl,show nxQ (usA a) rcF ⟨s,f.names⟩ i=yF (zr (zv (gq (stQ (usA a) rcF ⟨s,f.names⟩ i) i).record (gq (stQ (usA a) rcF ⟨s,f.names⟩ i) i).at_) (gl a.next (gq (stQ (usA a) rcF ⟨s,f.names⟩ i) i).at_.toNat) (stQ (usA a) rcF ⟨s,f.names⟩ i) (gl a.next (gq (stQ (usA a) rcF ⟨s,f.names⟩ i) i).at_.toNat).length).2 from rfl,show prF f (gq (stQ (usA a) rcF ⟨s,f.names⟩ i) i)=yp f (gq (stQ (usA a) rcF ⟨s,f.names⟩ i) i).record (gq (stQ (usA a) rcF ⟨s,f.names⟩ i) i).at_ from rfl]
     refine zY rfl ?_ ?_ ?_<;>simp only [zf,ze,push_cast,↓zK,↓zJ,↓reduceIte,zA,zB,zC,zD,zE,zF,zG,zH,zI,reduceCtorEq]
     all_goals first|rfl|exact⟨rfl,rfl,rfl,rfl⟩|skip
  ·
   refine zk ?_
   (try simp only [zR,zS,reduceIte,zF]);refine hK2 _ ?_
   refine zL fun K hK=> ?_
   refine zM zP zN [] rfl ?_
   all_goals simp only [push_cast,↓zK,↓zJ,↓reduceIte,zA,zB,zC,zD,zE,zF,zG,zH,zI,reduceCtorEq]
   all_goals repeat'(first|(apply zO<;>(intro hg;(try simp only [push_cast]at hg)))|apply And.intro|(intro hg;(try simp only [push_cast]at hg)))
   all_goals first|exact gA|(exact zW (by omega))|skip
   all_goals first|(refine hK _ ?_;clear hK K)|(simp only [push_cast];done)
   refine zX ?_
   (try simp only [zR,zS])
   refine⟨Or.inl rfl,?_⟩
   simp only [zb,yD,yV,push_cast,↓zK,↓zJ,↓reduceIte,zA,zB,zC,zD,zE,zF,zG,zH,zI,reduceCtorEq]
   obtain⟨e1,e2,e3⟩:=zB3 (a:=a) (rc:=rcF) (pr:=prF f) (p0:=⟨s,f.names⟩) (i:=i) hC hi (by omega) hil
   unfold fgG fgP fgB
   rw [e1,e2,e3]
   simp only [gmA,ho1,ho2,ho3]
   all_goals first|rfl|exact⟨⟨⟨rfl,rfl⟩,⟨rfl,rfl⟩,⟨rfl,rfl⟩⟩,rfl,rfl⟩|exact⟨rfl,rfl⟩|(simp;done)
open Go Go.RowKit
def St.settleBA (al:List Nat)(ks:List CK)(b:Nat)(st:St):St:=
 match lk st.b b with
 |none=>st
 |some cells=>
  match lk (xv al ks st (za b 0) [] cells).1.b b with
  |none=>st
  |some cells'=>if cells'.length=(xv al ks st (za b 0) [] cells).2.length then(xv al ks st (za b 0) [] cells).1.setB b (xv al ks st (za b 0) [] cells).2 else st
theorem Ug {P:Program}{τ:Ty}(al:List Nat)(ks:List CK)(b:Nat){c:Code}{Q:Exit→St→Prop}{st:St}(h:awp P τ c Q (st.settleBA al ks b)):awp P τ c Q st:=by
 unfold St.settleBA at h
 split at h
 ·exact h
 ·rename_i cells hl
  split at h
  ·exact h
  ·rename_i cells' hl'
   split at h
   ·rename_i hlen
    intro lo w0 a w hr
    obtain⟨ow,hd,bk,hrr⟩:=hr
    obtain⟨cs,ty,g1,g2,g3⟩:=hrr.box b cells hl
    obtain⟨ow1,hd1,r1,r2⟩:=ZS al ks st ow hd (za b 0) [] cells [] cs hrr (by simp [zZ]) g3
    obtain⟨cs0,ty0,k1,k2,k3⟩:=r1.box b cells' hl'
    rw [List.nil_append]at r2
    have e0:cs0=cs:=by
     rw [g1]at k1
     simp only [Option.some.injEq,Obj.cells.injEq]at k1
     have :=k1.1
     simpa using this.symm
    subst e0
    have hrel:=Zy r1 hl' k1 (i:=0) (by omega) k3 r2
    rw [Yf rfl,Yf hlen.symm,setRow_self w _ _ _ _ k1]at hrel
    exact h lo w0 a w ⟨ow1,hd1,bk,hrel⟩
   ·exact h
attribute [push_cast] St.settleBA
def St.settleBH (h0:Nat)(al:List Nat)(ks:List CK)(b:Nat)(st:St):St:=
 match lk st.b b with
 |none=>st
 |some cells=>
  match lk (xv al ks st h0 [] cells).1.b b with
  |none=>st
  |some cells'=>if cells'.length=(xv al ks st h0 [] cells).2.length then(xv al ks st h0 [] cells).1.setB b (xv al ks st h0 [] cells).2 else st
theorem Uh {P:Program}{τ:Ty}(h0:Nat)(al:List Nat)(ks:List CK)(b:Nat){c:Code}{Q:Exit→St→Prop}{st:St}(h:awp P τ c Q (st.settleBH h0 al ks b)):awp P τ c Q st:=by
 unfold St.settleBH at h
 split at h
 ·exact h
 ·rename_i cells hl
  split at h
  ·exact h
  ·rename_i cells' hl'
   split at h
   ·rename_i hlen
    intro lo w0 a w hr
    obtain⟨ow,hd,bk,hrr⟩:=hr
    obtain⟨cs,ty,g1,g2,g3⟩:=hrr.box b cells hl
    obtain⟨ow1,hd1,r1,r2⟩:=ZS al ks st ow hd h0 [] cells [] cs hrr (by simp [zZ]) g3
    obtain⟨cs0,ty0,k1,k2,k3⟩:=r1.box b cells' hl'
    rw [List.nil_append]at r2
    have e0:cs0=cs:=by
     rw [g1]at k1
     simp only [Option.some.injEq,Obj.cells.injEq]at k1
     have :=k1.1
     simpa using this.symm
    subst e0
    have hrel:=Zy r1 hl' k1 (i:=0) (by omega) k3 r2
    rw [Yf rfl,Yf hlen.symm,setRow_self w _ _ _ _ k1]at hrel
    exact h lo w0 a w ⟨ow1,hd1,bk,hrel⟩
   ·exact h
attribute [push_cast] St.settleBH
end Go.Proofs.Ytipplkjdmdlhpaa
