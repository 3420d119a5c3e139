/- the places of a memory: the program's walk with a map -/
import Derived.Test.YthepmdkpbjfdcaaB7zmp
import Derived.Test.YthepmdkpbjfdcaaB9zmp
import Derived.Test.YthepmdkpbjfdcaaB6zmp
namespace Go.Proofs.Ythepmdkpbjfdcaa
open Nat renaming reduceMod → zA, reduceMul → zB, reduceDiv → zC, reduceAdd → zD, reduceSub → zE, reduceEqDiff → zF, reduceBEq → zG, reduceLT → zH, reduceLeDiff → zI
open Go.RowKit
set_option linter.unusedVariables false
set_option linter.unusedSimpArgs false
theorem ZC :yW Try.prog 139 2 140:=by
 refine⟨by kernel_rfl,by kernel_rfl,by kernel_rfl,?_,?_⟩
 ·exact⟨(Try.prog.info? 139).get!,by kernel_rfl,by kernel_rfl,by kernel_rfl⟩
 ·exact⟨(Try.prog.info? 2).get!,by kernel_rfl,by kernel_rfl,by kernel_rfl⟩
theorem zBZ :cks tyT 139= []:=rfl
attribute [push_cast] zBZ
set_option maxRecDepth 20000 in
set_option maxHeartbeats 8000000 in
theorem Vb (a:Ar)(ha:a.Ln 1048576)(m:Me)(hm:m.Ln 1048576)(s:Int)(h:MmI a m s):Fn Try.prog tyT 69 [.agg (dAr a), .agg (dMe m), .c (.int .i64 s)] [.c (.lst 102 (yF (stM a m s 6145))), .c (DII (rsM a m s (stM a m s 6145).length))]:=by
 have hno:=ha.owner
 have hnn:=ha.next.1
 have hrr9: ∀v,(gl a.next v).length≤1048576:=fun v=>wO ha.next v
 unfold LnI at hno
 have hal:=xE h.ar
 obtain⟨hk0,hkm⟩:=vD h.mem
 have hs0:=h.st
 unfold dAr dMe
 refine yM (fn:=Try.f69) (ts:= [6,7]) Try.func69 (by kernel_rfl) rfl rfl (by rw [Try.ntmps69];exact Nat.le_of_ble_eq_true rfl) rfl (by simp only [szA,List.mem_cons,List.not_mem_nil,or_false,forall_eq_or_imp,forall_eq,VT.cells,szL];try decide) ?_
 rw [Try.ntmps69]
 simp only [push_cast,↓zK,↓zJ,↓reduceIte,zA,zB,zC,zD,zE,zF,zG,zH,zI,reduceCtorEq]
 refine zL fun K hK=> ?_
 refine zM zO zN [] rfl ?_
 all_goals simp only [push_cast,↓zK,↓zJ,↓reduceIte,zA,zB,zC,zD,zE,zF,zG,zH,zI,reduceCtorEq]
 all_goals repeat'(first|(apply zP<;>(intro hg;(try simp only [push_cast]at hg)))|apply And.intro|(intro hg;(try simp only [push_cast]at hg)))
 all_goals first|exact gA|(exact zQ (by omega))|skip
 all_goals first|(refine hK _ ?_;clear hK K)|(simp only [push_cast];done)
 refine jZ zO zN ZC [] rfl rfl rfl rfl fun r9 K hK=> ?_
 all_goals simp only [push_cast,↓zK,↓zJ,↓reduceIte,zA,zB,zC,zD,zE,zF,zG,zH,zI,reduceCtorEq]
 repeat' apply And.intro
 all_goals first|exact True.intro|exact rfl|omega|with_reducible assumption|skip
 refine hK _ _ ?_;clear hK K
 refine zc fun K hK=> ?_
 refine zf ?_
 refine zm false zO zN ?_ rfl ?_
 ·kernel_rfl
 simp only [push_cast,↓zK,↓zJ,↓reduceIte,zA,zB,zC,zD,zE,zF,zG,zH,zI,reduceCtorEq]
 all_goals repeat'(first|(apply zP<;>(intro hg;(try simp only [push_cast]at hg)))|apply And.intro|(intro hg;(try simp only [push_cast]at hg)))
 all_goals first|exact gA|(exact zQ (by omega))|skip
 all_goals first|(refine hK _ _ ?_;clear hK K)|(simp only [push_cast];done)
 refine xF 102 9 (Nat.le_of_ble_eq_true rfl) ?_
 simp only [push_cast,↓zK,↓zJ,↓reduceIte,zA,zB,zC,zD,zE,zF,zG,zH,zI,reduceCtorEq]
 refine zc fun K hK=> ?_
 refine zf ?_
 refine zm false zO zN ?_ rfl ?_
 ·kernel_rfl
 simp only [push_cast,↓zK,↓zJ,↓reduceIte,zA,zB,zC,zD,zE,zF,zG,zH,zI,reduceCtorEq]
 all_goals repeat'(first|(apply zP<;>(intro hg;(try simp only [push_cast]at hg)))|apply And.intro|(intro hg;(try simp only [push_cast]at hg)))
 all_goals first|exact gA|(exact zQ (by omega))|skip
 all_goals first|(refine hK _ _ ?_;clear hK K)|(simp only [push_cast];done)
 refine zc fun K1 hK1=> ?_
 refine xF 22 10 (Nat.le_of_ble_eq_true rfl) ?_
 simp only [push_cast,↓zK,↓zJ,↓reduceIte,zA,zB,zC,zD,zE,zF,zG,zH,zI,reduceCtorEq]
 refine zc fun K hK=> ?_
 refine zf ?_
 refine zM zO zN [] rfl ?_
 all_goals simp only [push_cast,↓zK,↓zJ,↓reduceIte,zA,zB,zC,zD,zE,zF,zG,zH,zI,reduceCtorEq]
 all_goals repeat'(first|(apply zP<;>(intro hg;(try simp only [push_cast]at hg)))|apply And.intro|(intro hg;(try simp only [push_cast]at hg)))
 all_goals first|exact gA|(exact zQ (by omega))|skip
 all_goals first|(refine hK _ _ ?_;clear hK K)|(simp only [push_cast];done)
 refine qM ?_
 refine wh [9,10,11,12,13,14,15,16,18,19,20,21,31,32,33,34,35,36,37,38,39,40,41,42,43,44,45,46,47,48,49,50,51,52,53,54,55,56,57,58,59,60,61,62,63,64,65,66,67,68,69,70,71,72,73,74,75,76,77,78,79,80,81,82,83,84,85,86,87,88,89,90,91,92,93,94,95,96,97,98,99,100,101,102,103,104,105,106,107,108,109,110,111,112,113,114,115,116,117,118] [] (fun(i:Nat)=> [(11, .int .i64 i),(9, .sl 144 [] 0 (stM a m s i).length 102),(10, .sl 160 [] 0 i 22)]) (fun i=> []) (fun i=> [(144,⟨.ex,102,yF (stM a m s i),none⟩),(160,⟨.ex,22,dII (rsM a m s i),none⟩)]) (fun i=>mdF (stM a m s i) 0) (fun i=>i≤(stM a m s i).length) (fun i=>6145 - i) 0 ?_ ?_ (by show 0≤1;decide) ?_
 ·
  rw [show stM a m s 0= [⟨s,[0]⟩]from rfl,zBC]
  refine zg rfl ?_ ?_ ?_<;>simp only [zq,zp,push_cast,↓zK,↓zJ,↓reduceIte,zA,zB,zC,zD,zE,zF,zG,zH,zI,reduceCtorEq]
  all_goals first|exact⟨rfl,rfl⟩|rfl
 ·
  rfl
 ·rintro i hi KL0 hL0
  have hfew:=uA h i
  have hrs:=kX a m s i
  have hq:QLn 1048576 (stM a m s i):=⟨by omega,fun p hp=>by rw [(vc h i p hp).2.2.1];show 1≤1048576;decide⟩
  simp only [push_cast,↓zK,↓zJ,↓reduceIte,zA,zB,zC,zD,zE,zF,zG,zH,zI,reduceCtorEq]
  refine zc fun K2 hK2=> ?_
  refine zc fun K hK=> ?_
  refine zf ?_
  refine zM zO zN [] rfl ?_
  all_goals simp only [push_cast,↓zK,↓zJ,↓reduceIte,zA,zB,zC,zD,zE,zF,zG,zH,zI,reduceCtorEq]
  all_goals repeat'(first|(apply zP<;>(intro hg;(try simp only [push_cast]at hg)))|apply And.intro|(intro hg;(try simp only [push_cast]at hg)))
  all_goals first|exact gA|(exact zQ (by omega))|skip
  all_goals first|(refine hK _ _ ?_;clear hK K)|(simp only [push_cast];done)
  refine xe rfl (fun hc=> ?_) (fun hc=> ?_)<;>(try simp only [push_cast]at hc)
  ·
   refine qh ?_
   (try simp only [yc,xU,reduceIte,zF]);refine hK2 _ _ ?_
   refine zc fun K3 hK3=> ?_
   refine qM ?_
   have hi2:i<(stM a m s i).length:=by omega
   have hP:=vc h i _ (XR hi2)
   obtain⟨hU1,hU2,hN1,hN2⟩:=Vs h hP
   obtain⟨hP1,hP2,hP3,hP4,hP5⟩:=hP
   have hPl:(gq (stM a m s i) i).record.length=1:=by rw [hP3];rfl
   obtain⟨hr1,hr2,hr3⟩:=hkm (gi (gq (stM a m s i) i).record 0).toNat (by omega)
   have hr4:=(Qo hr2).1
   unfold ntM at hN1 hN2
   refine zc fun K hK=> ?_
   refine zf ?_
   refine xk false zO zN qg ?_ rfl ?_
   ·kernel_rfl
   intro E hE
   all_goals simp only [push_cast,↓zK,↓zJ,↓reduceIte,zA,zB,zC,zD,zE,zF,zG,zH,zI,reduceCtorEq]
   all_goals repeat'(first|(apply zP<;>(intro hg;(try simp only [push_cast]at hg)))|apply And.intro|(intro hg;(try simp only [push_cast]at hg)))
   all_goals first|exact gA|(refine hE _ _ ?_ ?_;kernel_rfl)|(exact zQ (by omega))|skip
   all_goals clear hE E
   all_goals first|(refine hK _ _ ?_;clear hK K)|(simp only [push_cast];done)
   refine zc fun K hK=> ?_
   refine zf ?_
   refine zM zO zN [] rfl ?_
   all_goals simp only [push_cast,↓zK,↓zJ,↓reduceIte,zA,zB,zC,zD,zE,zF,zG,zH,zI,reduceCtorEq]
   all_goals repeat'(first|(apply zP<;>(intro hg;(try simp only [push_cast]at hg)))|apply And.intro|(intro hg;(try simp only [push_cast]at hg)))
   all_goals first|exact gA|(exact zQ (by omega))|skip
   all_goals first|(refine hK _ _ ?_;clear hK K)|(simp only [push_cast];done)
   refine zc fun K4 hK4=> ?_
   refine zc fun K hK=> ?_
   refine zf ?_
   refine zM zO zN [] rfl ?_
   all_goals simp only [push_cast,↓zK,↓zJ,↓reduceIte,zA,zB,zC,zD,zE,zF,zG,zH,zI,reduceCtorEq]
   all_goals repeat'(first|(apply zP<;>(intro hg;(try simp only [push_cast]at hg)))|apply And.intro|(intro hg;(try simp only [push_cast]at hg)))
   all_goals first|exact gA|(exact zQ (by omega))|skip
   all_goals first|(refine hK _ _ ?_;clear hK K)|(simp only [push_cast];done)
   refine xe rfl (fun hc=> ?_) (fun hc=> ?_)<;>(try simp only [push_cast]at hc)
   ·
    refine zc fun K hK=> ?_
    refine zf ?_
    refine zM zO zN [] rfl ?_
    all_goals simp only [push_cast,↓zK,↓zJ,↓reduceIte,zA,zB,zC,zD,zE,zF,zG,zH,zI,reduceCtorEq]
    all_goals repeat'(first|(apply zP<;>(intro hg;(try simp only [push_cast]at hg)))|apply And.intro|(intro hg;(try simp only [push_cast]at hg)))
    all_goals first|exact gA|(exact zQ (by omega))|skip
    all_goals first|(refine hK _ _ ?_;clear hK K)|(simp only [push_cast];done)
    refine zc fun K hK=> ?_
    refine zf ?_
    refine zM zO zN [] rfl ?_
    all_goals simp only [push_cast,↓zK,↓zJ,↓reduceIte,zA,zB,zC,zD,zE,zF,zG,zH,zI,reduceCtorEq]
    all_goals repeat'(first|(apply zP<;>(intro hg;(try simp only [push_cast]at hg)))|apply And.intro|(intro hg;(try simp only [push_cast]at hg)))
    all_goals first|exact gA|(exact zQ (by omega))|skip
    all_goals first|(refine hK _ _ ?_;clear hK K)|(simp only [push_cast];done)
    refine zc fun K hK=> ?_
    refine zf ?_
    refine zM zO zN [] rfl ?_
    all_goals simp only [push_cast,↓zK,↓zJ,↓reduceIte,zA,zB,zC,zD,zE,zF,zG,zH,zI,reduceCtorEq]
    all_goals repeat'(first|(apply zP<;>(intro hg;(try simp only [push_cast]at hg)))|apply And.intro|(intro hg;(try simp only [push_cast]at hg)))
    all_goals first|exact gA|(exact zQ (by omega))|skip
    all_goals first|(refine hK _ _ ?_;clear hK K)|(simp only [push_cast];done)
    refine xe rfl (fun hc=> ?_) (fun hc=> ?_)<;>(try simp only [push_cast]at hc)
    ·
     refine zf ?_
     refine zM zO zN [] rfl ?_
     all_goals simp only [push_cast,↓zK,↓zJ,↓reduceIte,zA,zB,zC,zD,zE,zF,zG,zH,zI,reduceCtorEq]
     all_goals repeat'(first|(apply zP<;>(intro hg;(try simp only [push_cast]at hg)))|apply And.intro|(intro hg;(try simp only [push_cast]at hg)))
     all_goals first|exact gA|(exact zQ (by omega))|skip
     (try simp only [yc,xU,reduceIte,zF]);refine hK4 _ _ ?_
     obtain⟨U9,hU9⟩: ∃U:List Int,U= [(gi (gl m.choice (gi (gq (stM a m s i) i).record 0).toNat) (gq (stM a m s i) i).at_.toNat)]:=⟨_,rfl⟩
     have hU:usM a m (gq (stM a m s i) i)=U9:=by rw [hU9];exact QD (by omega) (by unfold chM;omega)
     have hU8:U9.length=1:=by rw [hU9];rfl
     refine zc fun K hK=> ?_
     refine zf ?_
     refine zM zO zN [] rfl ?_
     all_goals simp only [push_cast,↓zK,↓zJ,↓reduceIte,zA,zB,zC,zD,zE,zF,zG,zH,zI,reduceCtorEq]
     all_goals repeat'(first|(apply zP<;>(intro hg;(try simp only [push_cast]at hg)))|apply And.intro|(intro hg;(try simp only [push_cast]at hg)))
     all_goals first|exact gA|(exact zQ (by omega))|skip
     all_goals first|(refine hK _ _ ?_;clear hK K)|(simp only [push_cast];done)
     refine zc fun K5 hK5=> ?_
     refine zc fun K hK=> ?_
     refine zf ?_
     refine zM zO zN [] rfl ?_
     all_goals simp only [push_cast,↓zK,↓zJ,↓reduceIte,zA,zB,zC,zD,zE,zF,zG,zH,zI,reduceCtorEq]
     all_goals repeat'(first|(apply zP<;>(intro hg;(try simp only [push_cast]at hg)))|apply And.intro|(intro hg;(try simp only [push_cast]at hg)))
     all_goals first|exact gA|(exact zQ (by omega))|skip
     all_goals first|(refine hK _ _ ?_;clear hK K)|(simp only [push_cast];done)
     refine qM ?_
     refine wh [9,14,16,18,19,20,21,32,37,39,40,42,44,45,46,47,75,76,77,78,79,80,81,82,83,84,85,86,87,88,89,90,91,92,93,94,95,96,97,98,99,100,101,102,103,104,105,106,107,108,109,110,111,112,113,114] [224] (fun(k:Nat)=> [(75, .int .i64 k),(9, .sl 144 [] 0 (zi (rcM m (gq (stM a m s i) i)) U9 (stM a m s i) k).1.length 102),(16, .sl 256 [] 0 k 2),(14, .sl 224 [] 0 1 2)]) (fun k=> []) (fun k=> [(144,⟨.ex,102,yF (zi (rcM m (gq (stM a m s i) i)) U9 (stM a m s i) k).1,none⟩),(256,⟨.ex,2,dI (zi (rcM m (gq (stM a m s i) i)) U9 (stM a m s i) k).2,none⟩),(224,⟨.ex,2,dI U9,none⟩)]) (fun k=>mdF (zi (rcM m (gq (stM a m s i) i)) U9 (stM a m s i) k).1 0) (fun k=>k≤U9.length) (fun k=>U9.length - k) 0 ?_ ?_ (by omega) ?_
     ·
      rw [Xe]
      rw [hU9]
      refine zg rfl ?_ ?_ ?_<;>simp only [zq,zp,push_cast,↓zK,↓zJ,↓reduceIte,zA,zB,zC,zD,zE,zF,zG,zH,zI,reduceCtorEq]
      all_goals first|rfl|exact⟨rfl,rfl⟩|exact⟨rfl,rfl,rfl⟩
     ·
      rfl
     ·rintro k hk KL1 hL1
      have hrl:=ZI (r:=(rcM m (gq (stM a m s i) i))) (us:=U9) (ps:=(stM a m s i)) (k:=k) hk
      have hfr:=VS h (i:=i) (k:=k) hi2 (by rw [hU];exact hk)
      rw [hU]at hfr
      have hrr:=Xx h (i:=i) (k:=k) hi2 (by rw [hU];exact hk)
      rw [hU]at hrr
      have hrc: ∀p∈(zi (rcM m (gq (stM a m s i) i)) U9 (stM a m s i) k).1,p.record= [gi p.record 0]:=fun p hp=>(hrr p hp).2.2.1
      simp only [push_cast,↓zK,↓zJ,↓reduceIte,zA,zB,zC,zD,zE,zF,zG,zH,zI,reduceCtorEq]
      refine zc fun K hK=> ?_
      refine zf ?_
      refine zM zO zN [] rfl ?_
      all_goals simp only [push_cast,↓zK,↓zJ,↓reduceIte,zA,zB,zC,zD,zE,zF,zG,zH,zI,reduceCtorEq]
      all_goals repeat'(first|(apply zP<;>(intro hg;(try simp only [push_cast]at hg)))|apply And.intro|(intro hg;(try simp only [push_cast]at hg)))
      all_goals first|exact gA|(exact zQ (by omega))|skip
      all_goals first|(refine hK _ _ ?_;clear hK K)|(simp only [push_cast];done)
      refine zc fun K6 hK6=> ?_
      refine xe rfl (fun hc=> ?_) (fun hc=> ?_)<;>(try simp only [push_cast]at hc)
      ·
       refine qh ?_
       (try simp only [yc,xU,reduceIte,zF]);refine hK6 _ _ ?_
       refine zc fun K7 hK7=> ?_
       refine qM ?_
       refine zc fun K hK=> ?_
       refine zf ?_
       refine zM zO zN [] rfl ?_
       all_goals simp only [push_cast,↓zK,↓zJ,↓reduceIte,zA,zB,zC,zD,zE,zF,zG,zH,zI,reduceCtorEq]
       all_goals repeat'(first|(apply zP<;>(intro hg;(try simp only [push_cast]at hg)))|apply And.intro|(intro hg;(try simp only [push_cast]at hg)))
       all_goals first|exact gA|(exact zQ (by omega))|skip
       all_goals first|(refine hK _ _ ?_;clear hK K)|(simp only [push_cast];done)
       refine zc fun K hK=> ?_
       refine xf zO zN ZC [] rfl ?_
       all_goals simp only [push_cast,↓zK,↓zJ,↓reduceIte,zA,zB,zC,zD,zE,zF,zG,zH,zI,reduceCtorEq]
       all_goals repeat'(first|(apply zP<;>(intro hg;(try simp only [push_cast]at hg)))|apply And.intro|(intro hg;(try simp only [push_cast]at hg)))
       all_goals first|exact gA|exact⟨_,rfl⟩|(exact zQ (by omega))|skip
       all_goals first|(refine hK _ _ ?_;clear hK K)|(simp only [push_cast];done)
       by_cases hx:ixQ (yN (gi U9 k) (rcM m (gq (stM a m s i) i))) (zi (rcM m (gq (stM a m s i) i)) U9 (stM a m s i) k).1<0
       ·
        have hlk:lkM (mdF (zi (rcM m (gq (stM a m s i) i)) U9 (stM a m s i) k).1 0) ((gi U9 k),(gi (gl m.next (gi (gq (stM a m s i) i).record 0).toNat) (gq (stM a m s i) i).at_.toNat))=none:=zA9 hrc hx
        refine zc fun K hK=> ?_
        refine xf zO zN ZC [] rfl ?_
        all_goals simp only [push_cast,↓zK,↓zJ,↓reduceIte,zA,zB,zC,zD,zE,zF,zG,zH,zI,reduceCtorEq]
        all_goals repeat'(first|(apply zP<;>(intro hg;(try simp only [push_cast]at hg)))|apply And.intro|(intro hg;(try simp only [push_cast]at hg)))
        all_goals first|exact gA|exact⟨_,rfl⟩|(exact zQ (by omega))|skip
        all_goals first|(refine hK _ _ ?_;clear hK K)|(simp only [push_cast];done)
        all_goals rw [hlk]
        all_goals simp only [Option.getD_none,Option.isSome_none]
        refine zc fun K8 hK8=> ?_
        refine zc fun K hK=> ?_
        refine zf ?_
        refine zM zO zN [] rfl ?_
        all_goals simp only [push_cast,↓zK,↓zJ,↓reduceIte,zA,zB,zC,zD,zE,zF,zG,zH,zI,reduceCtorEq]
        all_goals repeat'(first|(apply zP<;>(intro hg;(try simp only [push_cast]at hg)))|apply And.intro|(intro hg;(try simp only [push_cast]at hg)))
        all_goals first|exact gA|(exact zQ (by omega))|skip
        all_goals first|(refine hK _ _ ?_;clear hK K)|(simp only [push_cast];done)
        refine xe rfl (fun hc=> ?_) (fun hc=> ?_)
        rotate_left
        ·exfalso;first|(cases hc;done)|(simp only [push_cast]at hc;done)|(simp only [push_cast]at hc;omega)|omega
        refine zc fun K hK=> ?_
        refine zf ?_
        refine zM zO zN [] rfl ?_
        all_goals simp only [push_cast,↓zK,↓zJ,↓reduceIte,zA,zB,zC,zD,zE,zF,zG,zH,zI,reduceCtorEq]
        all_goals repeat'(first|(apply zP<;>(intro hg;(try simp only [push_cast]at hg)))|apply And.intro|(intro hg;(try simp only [push_cast]at hg)))
        all_goals first|exact gA|(exact zQ (by omega))|skip
        all_goals first|(refine hK _ _ ?_;clear hK K)|(simp only [push_cast];done)
        refine zc fun K hK=> ?_
        refine xf zO zN ZC [] rfl ?_
        all_goals simp only [push_cast,↓zK,↓zJ,↓reduceIte,zA,zB,zC,zD,zE,zF,zG,zH,zI,reduceCtorEq]
        all_goals repeat'(first|(apply zP<;>(intro hg;(try simp only [push_cast]at hg)))|apply And.intro|(intro hg;(try simp only [push_cast]at hg)))
        all_goals first|exact gA|exact⟨_,rfl⟩|(exact zQ (by omega))|skip
        all_goals first|(refine hK _ _ ?_;clear hK K)|(simp only [push_cast];done)
        refine XH false 4 zO zN ZC ?_ rfl (by decide) ?_
        ·kernel_rfl
        all_goals simp only [push_cast,↓zK,↓zJ,↓reduceIte,zA,zB,zC,zD,zE,zF,zG,zH,zI,reduceCtorEq]
        all_goals repeat'(first|(apply zP<;>(intro hg;(try simp only [push_cast]at hg)))|apply And.intro|(intro hg;(try simp only [push_cast]at hg)))
        all_goals first|exact gA|exact⟨_,rfl⟩|(exact zQ (by omega))|skip
        (try simp only [yc,xU,reduceIte,zF]);refine hK8 _ _ ?_
        refine xF 102 9 (Nat.le_of_ble_eq_true rfl) ?_
        simp only [push_cast,↓zK,↓zJ,↓reduceIte,zA,zB,zC,zD,zE,zF,zG,zH,zI,reduceCtorEq]
        refine zf ?_
        refine zM zO zN [] rfl ?_
        all_goals simp only [push_cast,↓zK,↓zJ,↓reduceIte,zA,zB,zC,zD,zE,zF,zG,zH,zI,reduceCtorEq]
        all_goals repeat'(first|(apply zP<;>(intro hg;(try simp only [push_cast]at hg)))|apply And.intro|(intro hg;(try simp only [push_cast]at hg)))
        all_goals first|exact gA|(exact zQ (by omega))|skip
        (try simp only [yc,xU,reduceIte,zF]);refine hK7 _ _ ?_
        refine zf ?_
        refine zM zO zN [] rfl ?_
        all_goals simp only [push_cast,↓zK,↓zJ,↓reduceIte,zA,zB,zC,zD,zE,zF,zG,zH,zI,reduceCtorEq]
        all_goals repeat'(first|(apply zP<;>(intro hg;(try simp only [push_cast]at hg)))|apply And.intro|(intro hg;(try simp only [push_cast]at hg)))
        all_goals first|exact gA|(exact zQ (by omega))|skip
        refine hL1 _ _ ⟨k+1,by omega,by omega,?_,?_⟩
        rotate_left
        ·
         rw [qp (by omega) hx,WL,Nat.zero_add];rfl
        (try rw [List.take_of_length_le (l:=(zi (rcM m (gq (stM a m s i) i)) U9 (stM a m s i) k).2) (by omega)])
        rw [qp (by omega) hx]
        refine zg rfl ?_ ?_ ?_<;>simp only [zq,zp,push_cast,↓zK,↓zJ,↓reduceIte,zA,zB,zC,zD,zE,zF,zG,zH,zI,reduceCtorEq]
        all_goals first|rfl|(rw [List.length_append];rfl)|exact⟨rfl,rfl⟩|skip
       ·
        have hlk:lkM (mdF (zi (rcM m (gq (stM a m s i) i)) U9 (stM a m s i) k).1 0) ((gi U9 k),(gi (gl m.next (gi (gq (stM a m s i) i).record 0).toNat) (gq (stM a m s i) i).at_.toNat))=some (ixQ (yN (gi U9 k) (rcM m (gq (stM a m s i) i))) (zi (rcM m (gq (stM a m s i) i)) U9 (stM a m s i) k).1):=UQ hrc hx
        refine zc fun K hK=> ?_
        refine xf zO zN ZC [] rfl ?_
        all_goals simp only [push_cast,↓zK,↓zJ,↓reduceIte,zA,zB,zC,zD,zE,zF,zG,zH,zI,reduceCtorEq]
        all_goals repeat'(first|(apply zP<;>(intro hg;(try simp only [push_cast]at hg)))|apply And.intro|(intro hg;(try simp only [push_cast]at hg)))
        all_goals first|exact gA|exact⟨_,rfl⟩|(exact zQ (by omega))|skip
        all_goals first|(refine hK _ _ ?_;clear hK K)|(simp only [push_cast];done)
        all_goals rw [hlk]
        all_goals simp only [Option.getD_some,Option.isSome_some]
        refine zc fun K8 hK8=> ?_
        refine zc fun K hK=> ?_
        refine zf ?_
        refine zM zO zN [] rfl ?_
        all_goals simp only [push_cast,↓zK,↓zJ,↓reduceIte,zA,zB,zC,zD,zE,zF,zG,zH,zI,reduceCtorEq]
        all_goals repeat'(first|(apply zP<;>(intro hg;(try simp only [push_cast]at hg)))|apply And.intro|(intro hg;(try simp only [push_cast]at hg)))
        all_goals first|exact gA|(exact zQ (by omega))|skip
        all_goals first|(refine hK _ _ ?_;clear hK K)|(simp only [push_cast];done)
        refine xe rfl (fun hc=> ?_) (fun hc=> ?_)
        skip
        ·exfalso;first|(cases hc;done)|(simp only [push_cast]at hc;done)|(simp only [push_cast]at hc;omega)|omega
        refine qh ?_
        (try simp only [yc,xU,reduceIte,zF]);refine hK8 _ _ ?_
        refine xF 102 9 (Nat.le_of_ble_eq_true rfl) ?_
        simp only [push_cast,↓zK,↓zJ,↓reduceIte,zA,zB,zC,zD,zE,zF,zG,zH,zI,reduceCtorEq]
        refine zf ?_
        refine zM zO zN [] rfl ?_
        all_goals simp only [push_cast,↓zK,↓zJ,↓reduceIte,zA,zB,zC,zD,zE,zF,zG,zH,zI,reduceCtorEq]
        all_goals repeat'(first|(apply zP<;>(intro hg;(try simp only [push_cast]at hg)))|apply And.intro|(intro hg;(try simp only [push_cast]at hg)))
        all_goals first|exact gA|(exact zQ (by omega))|skip
        (try simp only [yc,xU,reduceIte,zF]);refine hK7 _ _ ?_
        refine zf ?_
        refine zM zO zN [] rfl ?_
        all_goals simp only [push_cast,↓zK,↓zJ,↓reduceIte,zA,zB,zC,zD,zE,zF,zG,zH,zI,reduceCtorEq]
        all_goals repeat'(first|(apply zP<;>(intro hg;(try simp only [push_cast]at hg)))|apply And.intro|(intro hg;(try simp only [push_cast]at hg)))
        all_goals first|exact gA|(exact zQ (by omega))|skip
        refine hL1 _ _ ⟨k+1,by omega,by omega,?_,?_⟩
        rotate_left
        ·
         rw [qq (by omega) hx]
        (try rw [List.take_of_length_le (l:=(zi (rcM m (gq (stM a m s i) i)) U9 (stM a m s i) k).2) (by omega)])
        rw [qq (by omega) hx]
        refine zg rfl ?_ ?_ ?_<;>simp only [zq,zp,push_cast,↓zK,↓zJ,↓reduceIte,zA,zB,zC,zD,zE,zF,zG,zH,zI,reduceCtorEq]
        all_goals first|rfl|(rw [List.length_append];rfl)|exact⟨rfl,rfl⟩|skip
      ·
       refine ZN ?_
       have hkk:k=U9.length:=by omega
       subst hkk
       have hst:stM a m s (i+1)=(zi (rcM m (gq (stM a m s i) i)) U9 (stM a m s i) U9.length).1:=by have :=Jk (a:=a) (m:=m) (s:=s) hi2;rw [hU]at this;exact this
       have hrw:rwM a m s i=(zi (rcM m (gq (stM a m s i) i)) U9 (stM a m s i) U9.length).2:=by unfold rwM;rw [hU]
       have htk:List.take U9.length (zi (rcM m (gq (stM a m s i) i)) U9 (stM a m s i) U9.length).2=(zi (rcM m (gq (stM a m s i) i)) U9 (stM a m s i) U9.length).2:=List.take_of_length_le (by omega)
       (try simp only [yc,xU,reduceIte,zF]);refine hK5 _ _ ?_
       refine zf ?_
       refine zm false zO zN ?_ rfl ?_
       ·kernel_rfl
       simp only [push_cast,↓zK,↓zJ,↓reduceIte,zA,zB,zC,zD,zE,zF,zG,zH,zI,reduceCtorEq]
       all_goals repeat'(first|(apply zP<;>(intro hg;(try simp only [push_cast]at hg)))|apply And.intro|(intro hg;(try simp only [push_cast]at hg)))
       all_goals first|exact gA|(exact zQ (by omega))|skip
       (try simp only [yc,xU,reduceIte,zF]);refine hK3 _ _ ?_
       refine xF 22 10 (Nat.le_of_ble_eq_true rfl) ?_
       simp only [push_cast,↓zK,↓zJ,↓reduceIte,zA,zB,zC,zD,zE,zF,zG,zH,zI,reduceCtorEq]
       refine zf ?_
       refine zM zO zN [] rfl ?_
       all_goals simp only [push_cast,↓zK,↓zJ,↓reduceIte,zA,zB,zC,zD,zE,zF,zG,zH,zI,reduceCtorEq]
       all_goals repeat'(first|(apply zP<;>(intro hg;(try simp only [push_cast]at hg)))|apply And.intro|(intro hg;(try simp only [push_cast]at hg)))
       all_goals first|exact gA|(exact zQ (by omega))|skip
       refine hL0 _ _ ⟨i+1,(by rw [hst];omega),by omega,?_,?_⟩
       rotate_left
       ·
        rw [hst]
       (try rw [List.take_of_length_le (l:=rsM a m s i) (by omega)])
       (try rw [htk])
       rw [hst,Jj,hrw]
       refine zg rfl ?_ ?_ ?_<;>simp only [zq,zp,push_cast,↓zK,↓zJ,↓reduceIte,zA,zB,zC,zD,zE,zF,zG,zH,zI,reduceCtorEq]
       all_goals first|rfl|exact⟨rfl,rfl⟩|skip
    ·
     refine qh ?_
     (try simp only [yc,xU,reduceIte,zF]);refine hK4 _ _ ?_
     obtain⟨U9,hU9⟩: ∃U:List Int,U= []:=⟨_,rfl⟩
     have hU:usM a m (gq (stM a m s i) i)=U9:=by rw [hU9];exact Vr (by omega) (by unfold chM;omega)
     have hU8:U9.length=0:=by rw [hU9];rfl
     refine zc fun K hK=> ?_
     refine zf ?_
     refine zM zO zN [] rfl ?_
     all_goals simp only [push_cast,↓zK,↓zJ,↓reduceIte,zA,zB,zC,zD,zE,zF,zG,zH,zI,reduceCtorEq]
     all_goals repeat'(first|(apply zP<;>(intro hg;(try simp only [push_cast]at hg)))|apply And.intro|(intro hg;(try simp only [push_cast]at hg)))
     all_goals first|exact gA|(exact zQ (by omega))|skip
     all_goals first|(refine hK _ _ ?_;clear hK K)|(simp only [push_cast];done)
     refine zc fun K5 hK5=> ?_
     refine zc fun K hK=> ?_
     refine zf ?_
     refine zM zO zN [] rfl ?_
     all_goals simp only [push_cast,↓zK,↓zJ,↓reduceIte,zA,zB,zC,zD,zE,zF,zG,zH,zI,reduceCtorEq]
     all_goals repeat'(first|(apply zP<;>(intro hg;(try simp only [push_cast]at hg)))|apply And.intro|(intro hg;(try simp only [push_cast]at hg)))
     all_goals first|exact gA|(exact zQ (by omega))|skip
     all_goals first|(refine hK _ _ ?_;clear hK K)|(simp only [push_cast];done)
     refine qM ?_
     refine wh [9,14,16,18,19,20,21,32,37,39,40,42,44,45,46,47,75,76,77,78,79,80,81,82,83,84,85,86,87,88,89,90,91,92,93,94,95,96,97,98,99,100,101,102,103,104,105,106,107,108,109,110,111,112,113,114] [224] (fun(k:Nat)=> [(75, .int .i64 k),(9, .sl 144 [] 0 (zi (rcM m (gq (stM a m s i) i)) U9 (stM a m s i) k).1.length 102),(16, .sl 256 [] 0 k 2),(14, .sl 224 [] 0 0 2)]) (fun k=> []) (fun k=> [(144,⟨.ex,102,yF (zi (rcM m (gq (stM a m s i) i)) U9 (stM a m s i) k).1,none⟩),(256,⟨.ex,2,dI (zi (rcM m (gq (stM a m s i) i)) U9 (stM a m s i) k).2,none⟩),(224,⟨.ex,2,dI U9,none⟩)]) (fun k=>mdF (zi (rcM m (gq (stM a m s i) i)) U9 (stM a m s i) k).1 0) (fun k=>k≤U9.length) (fun k=>U9.length - k) 0 ?_ ?_ (by omega) ?_
     ·
      rw [Xe]
      rw [hU9]
      refine zg rfl ?_ ?_ ?_<;>simp only [zq,zp,push_cast,↓zK,↓zJ,↓reduceIte,zA,zB,zC,zD,zE,zF,zG,zH,zI,reduceCtorEq]
      all_goals first|rfl|exact⟨rfl,rfl⟩|exact⟨rfl,rfl,rfl⟩
     ·
      rfl
     ·rintro k hk KL1 hL1
      have hrl:=ZI (r:=(rcM m (gq (stM a m s i) i))) (us:=U9) (ps:=(stM a m s i)) (k:=k) hk
      have hfr:=VS h (i:=i) (k:=k) hi2 (by rw [hU];exact hk)
      rw [hU]at hfr
      have hrr:=Xx h (i:=i) (k:=k) hi2 (by rw [hU];exact hk)
      rw [hU]at hrr
      have hrc: ∀p∈(zi (rcM m (gq (stM a m s i) i)) U9 (stM a m s i) k).1,p.record= [gi p.record 0]:=fun p hp=>(hrr p hp).2.2.1
      simp only [push_cast,↓zK,↓zJ,↓reduceIte,zA,zB,zC,zD,zE,zF,zG,zH,zI,reduceCtorEq]
      refine zc fun K hK=> ?_
      refine zf ?_
      refine zM zO zN [] rfl ?_
      all_goals simp only [push_cast,↓zK,↓zJ,↓reduceIte,zA,zB,zC,zD,zE,zF,zG,zH,zI,reduceCtorEq]
      all_goals repeat'(first|(apply zP<;>(intro hg;(try simp only [push_cast]at hg)))|apply And.intro|(intro hg;(try simp only [push_cast]at hg)))
      all_goals first|exact gA|(exact zQ (by omega))|skip
      all_goals first|(refine hK _ _ ?_;clear hK K)|(simp only [push_cast];done)
      refine zc fun K6 hK6=> ?_
      refine xe rfl (fun hc=> ?_) (fun hc=> ?_)
      skip
      ·exfalso;first|(cases hc;done)|(simp only [push_cast]at hc;done)|(simp only [push_cast]at hc;omega)|omega
      refine ZN ?_
      have hkk:k=U9.length:=by omega
      subst hkk
      have hst:stM a m s (i+1)=(zi (rcM m (gq (stM a m s i) i)) U9 (stM a m s i) U9.length).1:=by have :=Jk (a:=a) (m:=m) (s:=s) hi2;rw [hU]at this;exact this
      have hrw:rwM a m s i=(zi (rcM m (gq (stM a m s i) i)) U9 (stM a m s i) U9.length).2:=by unfold rwM;rw [hU]
      have htk:List.take U9.length (zi (rcM m (gq (stM a m s i) i)) U9 (stM a m s i) U9.length).2=(zi (rcM m (gq (stM a m s i) i)) U9 (stM a m s i) U9.length).2:=List.take_of_length_le (by omega)
      (try simp only [yc,xU,reduceIte,zF]);refine hK5 _ _ ?_
      refine zf ?_
      refine zm false zO zN ?_ rfl ?_
      ·kernel_rfl
      simp only [push_cast,↓zK,↓zJ,↓reduceIte,zA,zB,zC,zD,zE,zF,zG,zH,zI,reduceCtorEq]
      all_goals repeat'(first|(apply zP<;>(intro hg;(try simp only [push_cast]at hg)))|apply And.intro|(intro hg;(try simp only [push_cast]at hg)))
      all_goals first|exact gA|(exact zQ (by omega))|skip
      (try simp only [yc,xU,reduceIte,zF]);refine hK3 _ _ ?_
      refine xF 22 10 (Nat.le_of_ble_eq_true rfl) ?_
      simp only [push_cast,↓zK,↓zJ,↓reduceIte,zA,zB,zC,zD,zE,zF,zG,zH,zI,reduceCtorEq]
      refine zf ?_
      refine zM zO zN [] rfl ?_
      all_goals simp only [push_cast,↓zK,↓zJ,↓reduceIte,zA,zB,zC,zD,zE,zF,zG,zH,zI,reduceCtorEq]
      all_goals repeat'(first|(apply zP<;>(intro hg;(try simp only [push_cast]at hg)))|apply And.intro|(intro hg;(try simp only [push_cast]at hg)))
      all_goals first|exact gA|(exact zQ (by omega))|skip
      refine hL0 _ _ ⟨i+1,(by rw [hst];omega),by omega,?_,?_⟩
      rotate_left
      ·
       rw [hst]
      (try rw [List.take_of_length_le (l:=rsM a m s i) (by omega)])
      (try rw [htk])
      rw [hst,Jj,hrw]
      refine zg rfl ?_ ?_ ?_<;>simp only [zq,zp,push_cast,↓zK,↓zJ,↓reduceIte,zA,zB,zC,zD,zE,zF,zG,zH,zI,reduceCtorEq]
      all_goals first|rfl|exact⟨rfl,rfl⟩|skip
   ·
    refine qh ?_
    (try simp only [yc,xU,reduceIte,zF]);refine hK4 _ _ ?_
    have hU:usM a m (gq (stM a m s i) i)=(gl a.next (gq (stM a m s i) i).at_.toNat):=QC (by omega)
    have hU3:(gl a.next (gq (stM a m s i) i).at_.toNat).length≤16:=by rw [←hU];exact hU1
    refine zc fun K hK=> ?_
    refine zf ?_
    refine zM zO zN [] rfl ?_
    all_goals simp only [push_cast,↓zK,↓zJ,↓reduceIte,zA,zB,zC,zD,zE,zF,zG,zH,zI,reduceCtorEq]
    all_goals repeat'(first|(apply zP<;>(intro hg;(try simp only [push_cast]at hg)))|apply And.intro|(intro hg;(try simp only [push_cast]at hg)))
    all_goals first|exact gA|(exact zQ (by omega))|skip
    all_goals first|(refine hK _ _ ?_;clear hK K)|(simp only [push_cast];done)
    refine zc fun K5 hK5=> ?_
    refine zc fun K hK=> ?_
    refine zf ?_
    refine zM zO zN [] rfl ?_
    all_goals simp only [push_cast,↓zK,↓zJ,↓reduceIte,zA,zB,zC,zD,zE,zF,zG,zH,zI,reduceCtorEq]
    all_goals repeat'(first|(apply zP<;>(intro hg;(try simp only [push_cast]at hg)))|apply And.intro|(intro hg;(try simp only [push_cast]at hg)))
    all_goals first|exact gA|(exact zQ (by omega))|skip
    all_goals first|(refine hK _ _ ?_;clear hK K)|(simp only [push_cast];done)
    refine qM ?_
    refine wh [9,16,18,19,20,21,32,37,39,40,42,44,45,46,47,75,76,77,78,79,80,81,82,83,84,85,86,87,88,89,90,91,92,93,94,95,96,97,98,99,100,101,102,103,104,105,106,107,108,109,110,111,112,113,114] [] (fun(k:Nat)=> [(75, .int .i64 k),(9, .sl 144 [] 0 (zi (rcM m (gq (stM a m s i) i)) (gl a.next (gq (stM a m s i) i).at_.toNat) (stM a m s i) k).1.length 102),(16, .sl 256 [] 0 k 2)]) (fun k=> []) (fun k=> [(144,⟨.ex,102,yF (zi (rcM m (gq (stM a m s i) i)) (gl a.next (gq (stM a m s i) i).at_.toNat) (stM a m s i) k).1,none⟩),(256,⟨.ex,2,dI (zi (rcM m (gq (stM a m s i) i)) (gl a.next (gq (stM a m s i) i).at_.toNat) (stM a m s i) k).2,none⟩)]) (fun k=>mdF (zi (rcM m (gq (stM a m s i) i)) (gl a.next (gq (stM a m s i) i).at_.toNat) (stM a m s i) k).1 0) (fun k=>k≤(gl a.next (gq (stM a m s i) i).at_.toNat).length) (fun k=>(gl a.next (gq (stM a m s i) i).at_.toNat).length - k) 0 ?_ ?_ (by omega) ?_
    ·
     rw [Xe]
     refine zg rfl ?_ ?_ ?_<;>simp only [zq,zp,push_cast,↓zK,↓zJ,↓reduceIte,zA,zB,zC,zD,zE,zF,zG,zH,zI,reduceCtorEq]
     all_goals first|rfl|exact⟨rfl,rfl⟩|exact⟨rfl,rfl,rfl⟩
    ·
     rfl
    ·rintro k hk KL1 hL1
     have hrl:=ZI (r:=(rcM m (gq (stM a m s i) i))) (us:=(gl a.next (gq (stM a m s i) i).at_.toNat)) (ps:=(stM a m s i)) (k:=k) hk
     have hfr:=VS h (i:=i) (k:=k) hi2 (by rw [hU];exact hk)
     rw [hU]at hfr
     have hrr:=Xx h (i:=i) (k:=k) hi2 (by rw [hU];exact hk)
     rw [hU]at hrr
     have hrc: ∀p∈(zi (rcM m (gq (stM a m s i) i)) (gl a.next (gq (stM a m s i) i).at_.toNat) (stM a m s i) k).1,p.record= [gi p.record 0]:=fun p hp=>(hrr p hp).2.2.1
     simp only [push_cast,↓zK,↓zJ,↓reduceIte,zA,zB,zC,zD,zE,zF,zG,zH,zI,reduceCtorEq]
     refine zc fun K hK=> ?_
     refine zf ?_
     refine zM zO zN [] rfl ?_
     all_goals simp only [push_cast,↓zK,↓zJ,↓reduceIte,zA,zB,zC,zD,zE,zF,zG,zH,zI,reduceCtorEq]
     all_goals repeat'(first|(apply zP<;>(intro hg;(try simp only [push_cast]at hg)))|apply And.intro|(intro hg;(try simp only [push_cast]at hg)))
     all_goals first|exact gA|(exact zQ (by omega))|skip
     all_goals first|(refine hK _ _ ?_;clear hK K)|(simp only [push_cast];done)
     refine zc fun K6 hK6=> ?_
     refine xe rfl (fun hc=> ?_) (fun hc=> ?_)<;>(try simp only [push_cast]at hc)
     ·
      refine qh ?_
      (try simp only [yc,xU,reduceIte,zF]);refine hK6 _ _ ?_
      refine zc fun K7 hK7=> ?_
      refine qM ?_
      refine zc fun K hK=> ?_
      refine zf ?_
      refine zM zO zN [] rfl ?_
      all_goals simp only [push_cast,↓zK,↓zJ,↓reduceIte,zA,zB,zC,zD,zE,zF,zG,zH,zI,reduceCtorEq]
      all_goals repeat'(first|(apply zP<;>(intro hg;(try simp only [push_cast]at hg)))|apply And.intro|(intro hg;(try simp only [push_cast]at hg)))
      all_goals first|exact gA|(exact zQ (by omega))|skip
      all_goals first|(refine hK _ _ ?_;clear hK K)|(simp only [push_cast];done)
      refine zc fun K hK=> ?_
      refine xf zO zN ZC [] rfl ?_
      all_goals simp only [push_cast,↓zK,↓zJ,↓reduceIte,zA,zB,zC,zD,zE,zF,zG,zH,zI,reduceCtorEq]
      all_goals repeat'(first|(apply zP<;>(intro hg;(try simp only [push_cast]at hg)))|apply And.intro|(intro hg;(try simp only [push_cast]at hg)))
      all_goals first|exact gA|exact⟨_,rfl⟩|(exact zQ (by omega))|skip
      all_goals first|(refine hK _ _ ?_;clear hK K)|(simp only [push_cast];done)
      by_cases hx:ixQ (yN (gi (gl a.next (gq (stM a m s i) i).at_.toNat) k) (rcM m (gq (stM a m s i) i))) (zi (rcM m (gq (stM a m s i) i)) (gl a.next (gq (stM a m s i) i).at_.toNat) (stM a m s i) k).1<0
      ·
       have hlk:lkM (mdF (zi (rcM m (gq (stM a m s i) i)) (gl a.next (gq (stM a m s i) i).at_.toNat) (stM a m s i) k).1 0) ((gi (gl a.next (gq (stM a m s i) i).at_.toNat) k),(gi (gl m.next (gi (gq (stM a m s i) i).record 0).toNat) (gq (stM a m s i) i).at_.toNat))=none:=zA9 hrc hx
       refine zc fun K hK=> ?_
       refine xf zO zN ZC [] rfl ?_
       all_goals simp only [push_cast,↓zK,↓zJ,↓reduceIte,zA,zB,zC,zD,zE,zF,zG,zH,zI,reduceCtorEq]
       all_goals repeat'(first|(apply zP<;>(intro hg;(try simp only [push_cast]at hg)))|apply And.intro|(intro hg;(try simp only [push_cast]at hg)))
       all_goals first|exact gA|exact⟨_,rfl⟩|(exact zQ (by omega))|skip
       all_goals first|(refine hK _ _ ?_;clear hK K)|(simp only [push_cast];done)
       all_goals rw [hlk]
       all_goals simp only [Option.getD_none,Option.isSome_none]
       refine zc fun K8 hK8=> ?_
       refine zc fun K hK=> ?_
       refine zf ?_
       refine zM zO zN [] rfl ?_
       all_goals simp only [push_cast,↓zK,↓zJ,↓reduceIte,zA,zB,zC,zD,zE,zF,zG,zH,zI,reduceCtorEq]
       all_goals repeat'(first|(apply zP<;>(intro hg;(try simp only [push_cast]at hg)))|apply And.intro|(intro hg;(try simp only [push_cast]at hg)))
       all_goals first|exact gA|(exact zQ (by omega))|skip
       all_goals first|(refine hK _ _ ?_;clear hK K)|(simp only [push_cast];done)
       refine xe rfl (fun hc=> ?_) (fun hc=> ?_)
       rotate_left
       ·exfalso;first|(cases hc;done)|(simp only [push_cast]at hc;done)|(simp only [push_cast]at hc;omega)|omega
       refine zc fun K hK=> ?_
       refine zf ?_
       refine zM zO zN [] rfl ?_
       all_goals simp only [push_cast,↓zK,↓zJ,↓reduceIte,zA,zB,zC,zD,zE,zF,zG,zH,zI,reduceCtorEq]
       all_goals repeat'(first|(apply zP<;>(intro hg;(try simp only [push_cast]at hg)))|apply And.intro|(intro hg;(try simp only [push_cast]at hg)))
       all_goals first|exact gA|(exact zQ (by omega))|skip
       all_goals first|(refine hK _ _ ?_;clear hK K)|(simp only [push_cast];done)
       refine zc fun K hK=> ?_
       refine xf zO zN ZC [] rfl ?_
       all_goals simp only [push_cast,↓zK,↓zJ,↓reduceIte,zA,zB,zC,zD,zE,zF,zG,zH,zI,reduceCtorEq]
       all_goals repeat'(first|(apply zP<;>(intro hg;(try simp only [push_cast]at hg)))|apply And.intro|(intro hg;(try simp only [push_cast]at hg)))
       all_goals first|exact gA|exact⟨_,rfl⟩|(exact zQ (by omega))|skip
       all_goals first|(refine hK _ _ ?_;clear hK K)|(simp only [push_cast];done)
       refine XH false 4 zO zN ZC ?_ rfl (by decide) ?_
       ·kernel_rfl
       all_goals simp only [push_cast,↓zK,↓zJ,↓reduceIte,zA,zB,zC,zD,zE,zF,zG,zH,zI,reduceCtorEq]
       all_goals repeat'(first|(apply zP<;>(intro hg;(try simp only [push_cast]at hg)))|apply And.intro|(intro hg;(try simp only [push_cast]at hg)))
       all_goals first|exact gA|exact⟨_,rfl⟩|(exact zQ (by omega))|skip
       (try simp only [yc,xU,reduceIte,zF]);refine hK8 _ _ ?_
       refine xF 102 9 (Nat.le_of_ble_eq_true rfl) ?_
       simp only [push_cast,↓zK,↓zJ,↓reduceIte,zA,zB,zC,zD,zE,zF,zG,zH,zI,reduceCtorEq]
       refine zf ?_
       refine zM zO zN [] rfl ?_
       all_goals simp only [push_cast,↓zK,↓zJ,↓reduceIte,zA,zB,zC,zD,zE,zF,zG,zH,zI,reduceCtorEq]
       all_goals repeat'(first|(apply zP<;>(intro hg;(try simp only [push_cast]at hg)))|apply And.intro|(intro hg;(try simp only [push_cast]at hg)))
       all_goals first|exact gA|(exact zQ (by omega))|skip
       (try simp only [yc,xU,reduceIte,zF]);refine hK7 _ _ ?_
       refine zf ?_
       refine zM zO zN [] rfl ?_
       all_goals simp only [push_cast,↓zK,↓zJ,↓reduceIte,zA,zB,zC,zD,zE,zF,zG,zH,zI,reduceCtorEq]
       all_goals repeat'(first|(apply zP<;>(intro hg;(try simp only [push_cast]at hg)))|apply And.intro|(intro hg;(try simp only [push_cast]at hg)))
       all_goals first|exact gA|(exact zQ (by omega))|skip
       refine hL1 _ _ ⟨k+1,by omega,by omega,?_,?_⟩
       rotate_left
       ·
        rw [qp (by omega) hx,WL,Nat.zero_add];rfl
       (try rw [List.take_of_length_le (l:=(zi (rcM m (gq (stM a m s i) i)) (gl a.next (gq (stM a m s i) i).at_.toNat) (stM a m s i) k).2) (by omega)])
       rw [qp (by omega) hx]
       refine zg rfl ?_ ?_ ?_<;>simp only [zq,zp,push_cast,↓zK,↓zJ,↓reduceIte,zA,zB,zC,zD,zE,zF,zG,zH,zI,reduceCtorEq]
       all_goals first|rfl|(rw [List.length_append];rfl)|exact⟨rfl,rfl⟩|skip
      ·
       have hlk:lkM (mdF (zi (rcM m (gq (stM a m s i) i)) (gl a.next (gq (stM a m s i) i).at_.toNat) (stM a m s i) k).1 0) ((gi (gl a.next (gq (stM a m s i) i).at_.toNat) k),(gi (gl m.next (gi (gq (stM a m s i) i).record 0).toNat) (gq (stM a m s i) i).at_.toNat))=some (ixQ (yN (gi (gl a.next (gq (stM a m s i) i).at_.toNat) k) (rcM m (gq (stM a m s i) i))) (zi (rcM m (gq (stM a m s i) i)) (gl a.next (gq (stM a m s i) i).at_.toNat) (stM a m s i) k).1):=UQ hrc hx
       refine zc fun K hK=> ?_
       refine xf zO zN ZC [] rfl ?_
       all_goals simp only [push_cast,↓zK,↓zJ,↓reduceIte,zA,zB,zC,zD,zE,zF,zG,zH,zI,reduceCtorEq]
       all_goals repeat'(first|(apply zP<;>(intro hg;(try simp only [push_cast]at hg)))|apply And.intro|(intro hg;(try simp only [push_cast]at hg)))
       all_goals first|exact gA|exact⟨_,rfl⟩|(exact zQ (by omega))|skip
       all_goals first|(refine hK _ _ ?_;clear hK K)|(simp only [push_cast];done)
       all_goals rw [hlk]
       all_goals simp only [Option.getD_some,Option.isSome_some]
       refine zc fun K8 hK8=> ?_
       refine zc fun K hK=> ?_
       refine zf ?_
       refine zM zO zN [] rfl ?_
       all_goals simp only [push_cast,↓zK,↓zJ,↓reduceIte,zA,zB,zC,zD,zE,zF,zG,zH,zI,reduceCtorEq]
       all_goals repeat'(first|(apply zP<;>(intro hg;(try simp only [push_cast]at hg)))|apply And.intro|(intro hg;(try simp only [push_cast]at hg)))
       all_goals first|exact gA|(exact zQ (by omega))|skip
       all_goals first|(refine hK _ _ ?_;clear hK K)|(simp only [push_cast];done)
       refine xe rfl (fun hc=> ?_) (fun hc=> ?_)
       skip
       ·exfalso;first|(cases hc;done)|(simp only [push_cast]at hc;done)|(simp only [push_cast]at hc;omega)|omega
       refine qh ?_
       (try simp only [yc,xU,reduceIte,zF]);refine hK8 _ _ ?_
       refine xF 102 9 (Nat.le_of_ble_eq_true rfl) ?_
       simp only [push_cast,↓zK,↓zJ,↓reduceIte,zA,zB,zC,zD,zE,zF,zG,zH,zI,reduceCtorEq]
       refine zf ?_
       refine zM zO zN [] rfl ?_
       all_goals simp only [push_cast,↓zK,↓zJ,↓reduceIte,zA,zB,zC,zD,zE,zF,zG,zH,zI,reduceCtorEq]
       all_goals repeat'(first|(apply zP<;>(intro hg;(try simp only [push_cast]at hg)))|apply And.intro|(intro hg;(try simp only [push_cast]at hg)))
       all_goals first|exact gA|(exact zQ (by omega))|skip
       (try simp only [yc,xU,reduceIte,zF]);refine hK7 _ _ ?_
       refine zf ?_
       refine zM zO zN [] rfl ?_
       all_goals simp only [push_cast,↓zK,↓zJ,↓reduceIte,zA,zB,zC,zD,zE,zF,zG,zH,zI,reduceCtorEq]
       all_goals repeat'(first|(apply zP<;>(intro hg;(try simp only [push_cast]at hg)))|apply And.intro|(intro hg;(try simp only [push_cast]at hg)))
       all_goals first|exact gA|(exact zQ (by omega))|skip
       refine hL1 _ _ ⟨k+1,by omega,by omega,?_,?_⟩
       rotate_left
       ·
        rw [qq (by omega) hx]
       (try rw [List.take_of_length_le (l:=(zi (rcM m (gq (stM a m s i) i)) (gl a.next (gq (stM a m s i) i).at_.toNat) (stM a m s i) k).2) (by omega)])
       rw [qq (by omega) hx]
       refine zg rfl ?_ ?_ ?_<;>simp only [zq,zp,push_cast,↓zK,↓zJ,↓reduceIte,zA,zB,zC,zD,zE,zF,zG,zH,zI,reduceCtorEq]
       all_goals first|rfl|(rw [List.length_append];rfl)|exact⟨rfl,rfl⟩|skip
     ·
      refine ZN ?_
      have hkk:k=(gl a.next (gq (stM a m s i) i).at_.toNat).length:=by omega
      subst hkk
      have hst:stM a m s (i+1)=(zi (rcM m (gq (stM a m s i) i)) (gl a.next (gq (stM a m s i) i).at_.toNat) (stM a m s i) (gl a.next (gq (stM a m s i) i).at_.toNat).length).1:=by have :=Jk (a:=a) (m:=m) (s:=s) hi2;rw [hU]at this;exact this
      have hrw:rwM a m s i=(zi (rcM m (gq (stM a m s i) i)) (gl a.next (gq (stM a m s i) i).at_.toNat) (stM a m s i) (gl a.next (gq (stM a m s i) i).at_.toNat).length).2:=by unfold rwM;rw [hU]
      have htk:List.take (gl a.next (gq (stM a m s i) i).at_.toNat).length (zi (rcM m (gq (stM a m s i) i)) (gl a.next (gq (stM a m s i) i).at_.toNat) (stM a m s i) (gl a.next (gq (stM a m s i) i).at_.toNat).length).2=(zi (rcM m (gq (stM a m s i) i)) (gl a.next (gq (stM a m s i) i).at_.toNat) (stM a m s i) (gl a.next (gq (stM a m s i) i).at_.toNat).length).2:=List.take_of_length_le (by omega)
      (try simp only [yc,xU,reduceIte,zF]);refine hK5 _ _ ?_
      refine zf ?_
      refine zm false zO zN ?_ rfl ?_
      ·kernel_rfl
      simp only [push_cast,↓zK,↓zJ,↓reduceIte,zA,zB,zC,zD,zE,zF,zG,zH,zI,reduceCtorEq]
      all_goals repeat'(first|(apply zP<;>(intro hg;(try simp only [push_cast]at hg)))|apply And.intro|(intro hg;(try simp only [push_cast]at hg)))
      all_goals first|exact gA|(exact zQ (by omega))|skip
      (try simp only [yc,xU,reduceIte,zF]);refine hK3 _ _ ?_
      refine xF 22 10 (Nat.le_of_ble_eq_true rfl) ?_
      simp only [push_cast,↓zK,↓zJ,↓reduceIte,zA,zB,zC,zD,zE,zF,zG,zH,zI,reduceCtorEq]
      refine zf ?_
      refine zM zO zN [] rfl ?_
      all_goals simp only [push_cast,↓zK,↓zJ,↓reduceIte,zA,zB,zC,zD,zE,zF,zG,zH,zI,reduceCtorEq]
      all_goals repeat'(first|(apply zP<;>(intro hg;(try simp only [push_cast]at hg)))|apply And.intro|(intro hg;(try simp only [push_cast]at hg)))
      all_goals first|exact gA|(exact zQ (by omega))|skip
      refine hL0 _ _ ⟨i+1,(by rw [hst];omega),by omega,?_,?_⟩
      rotate_left
      ·
       rw [hst]
      (try rw [List.take_of_length_le (l:=rsM a m s i) (by omega)])
      (try rw [htk])
      rw [hst,Jj,hrw]
      refine zg rfl ?_ ?_ ?_<;>simp only [zq,zp,push_cast,↓zK,↓zJ,↓reduceIte,zA,zB,zC,zD,zE,zF,zG,zH,zI,reduceCtorEq]
      all_goals first|rfl|exact⟨rfl,rfl⟩|skip
  ·
   refine ZN ?_
   (try simp only [yc,xU,reduceIte,zF]);refine hK1 _ _ ?_
   refine zc fun K hK=> ?_
   refine zf ?_
   refine zM zO zN [] rfl ?_
   all_goals simp only [push_cast,↓zK,↓zJ,↓reduceIte,zA,zB,zC,zD,zE,zF,zG,zH,zI,reduceCtorEq]
   all_goals repeat'(first|(apply zP<;>(intro hg;(try simp only [push_cast]at hg)))|apply And.intro|(intro hg;(try simp only [push_cast]at hg)))
   all_goals first|exact gA|(exact zQ (by omega))|skip
   all_goals first|(refine hK _ _ ?_;clear hK K)|(simp only [push_cast];done)
   refine zAJ ?_
   (try simp only [yc,xU])
   refine⟨Or.inl rfl,?_⟩
   simp only [zh,xC,qn,push_cast,↓zK,↓zJ,↓reduceIte,zA,zB,zC,zD,zE,zF,zG,zH,zI,reduceCtorEq]
   have hE:=zA6 h (by omega) (show ¬i<(stM a m s i).length by omega)
   rw [hE,show(stM a m s i).length=i by omega,hrs]
   all_goals first|rfl|exact⟨⟨rfl,rfl⟩,rfl,rfl⟩|skip
section
variable {P:Program} {np:Bool} {τ:Ty} {lo:Nat} {w0:Fz} {ow:Nat→Option Pl} {hd:Nat→Value} {bk:Nat→Nat} {st:St} {a:Act} {w:World}
def FnE (P:Program)(τ:Ty)(f:FuncId)(args:List VT)(res:D):Prop:=
 vU P f∧∀(lo:Nat) (w:World) (ow:Nat→Option Pl) (cargs:List Value),lo≤w.heap.size→(∀b,w.heap.size≤b→ow b=none)→xT (sz τ) lo w ow args cargs→
  Calls P f cargs.toArray w fun e w'=> ∃v,e= .returned v∧Below w.heap.size w w'∧Rp (sz τ) lo w' ow .sh res v
def wT (τ:Ty)(st:St):List AV→Option (List VT×Prop)
 | []=>some ([],True)
 | .agg us::vs=>match yO τ st us,wT τ st vs with
  |some (ds,p),some (as9,q)=>some (.agg ds::as9,p∧q)
  |_,_=>none
 |v::vs=>match cellsOf τ st v,wT τ st vs with
  |some (d,p),some (as9,q)=>some (.c d::as9,p∧q)
  |_,_=>none
def jG (st:St)(ns:List Nat):Bool:=ns.all fun n=>(n%2==0)&&(match lk st.r (n / 2)with|some R=>R.o.isSh|none=>false)
theorem uS {ns:List Nat}(h:jG st ns=true){d:Nat}{R:zl}(hd:2*d∈ns)(hR:lk st.r d=some R):R.o= .sh:=by
 have :=List.all_eq_true.1 h _ hd
 rw [Bool.and_eq_true,show 2*d / 2=d by omega,hR]at this
 have h2:R.o.isSh=true:=this.2
 cases ho:R.o<;>rw [ho]at h2<;>first|rfl|cases h2
theorem ZP (h:za τ lo w0 ow hd bk st a w){ow':Nat→Option Pl}(lo':Nat): ∀{vs:List AV} {xs:List Value} {ds:List D} {ob:Prop},(∀d R,2*d∈AV.nmL vs→lk st.r d=some R→∀b,b<w.heap.size→rel (md R.o d) (ow b)→ow' b=none)→zT τ w st.r st.b hd bk vs xs→yO τ st vs=some (ds,ob)→ob→RpS (sz τ) lo' w ow' ds xs
 | [],xs,ds,ob,_,hv,he,hob=>by
  simp only [yO,Option.some.injEq,Prod.mk.injEq]at he
  obtain⟨rfl,rfl⟩:=he
  simpa only [zT,RpS]using hv
 |v::vs,xs,ds,ob,hs,hv,he,hob=>by
  simp only [zT]at hv
  obtain⟨x,xs',rfl,h1,h2⟩:=hv
  simp only [yO]at he
  split at he
  ·rename_i d p ds' q e1 e2
   simp only [Option.some.injEq,Prod.mk.injEq]at he
   obtain⟨rfl,rfl⟩:=he
   simp only [RpS]
   exact⟨x,xs',rfl,qG h (fun d R hd=>hs d R (by simp only [AV.nmL,List.mem_append];exact .inl hd)) h1 e1 hob.1 lo',ZP h lo' (fun d R hd=>hs d R (by simp only [AV.nmL,List.mem_append];exact .inr hd)) h2 e2 hob.2⟩
  ·cases he
theorem ZB (h:za τ lo w0 ow hd bk st a w){ow':Nat→Option Pl}(lo':Nat): ∀{vs:List AV} {xs:List Value} {as9:List VT} {ob:Prop},(∀d R,2*d∈AV.nmL vs→lk st.r d=some R→∀b,b<w.heap.size→rel (md R.o d) (ow b)→ow' b=none)→zT τ w st.r st.b hd bk vs xs→wT τ st vs=some (as9,ob)→ob→xT (sz τ) lo' w ow' as9 xs
 | [],xs,as9,ob,_,hv,he,hob=>by
  simp only [wT,Option.some.injEq,Prod.mk.injEq]at he
  obtain⟨rfl,rfl⟩:=he
  simpa only [zT,xT]using hv
 |v::vs,xs,as9,ob,hs,hv,he,hob=>by
  simp only [zT]at hv
  obtain⟨x,xs',rfl,h1,h2⟩:=hv
  have hs1: ∀d R,2*d∈v.nm→lk st.r d=some R→∀b,b<w.heap.size→rel (md R.o d) (ow b)→ow' b=none:=fun d R hd=>hs d R (by simp only [AV.nmL,List.mem_append];exact .inl hd)
  have hs2: ∀d R,2*d∈AV.nmL vs→lk st.r d=some R→∀b,b<w.heap.size→rel (md R.o d) (ow b)→ow' b=none:=fun d R hd=>hs d R (by simp only [AV.nmL,List.mem_append];exact .inr hd)
  have one:(match cellsOf τ st v,wT τ st vs with
    |some (d,p),some (as9,q)=>some (VT.c d::as9,p∧q)
    |_,_=>none)=some (as9,ob)→xT (sz τ) lo' w ow' as9 (x::xs'):=fun he=>by
   split at he
   ·rename_i d p as9' q e1 e2
    simp only [Option.some.injEq,Prod.mk.injEq]at he
    obtain⟨rfl,rfl⟩:=he
    simp only [xT,vy]
    exact⟨x,xs',rfl,qG h hs1 h1 e1 hob.1 lo',ZB h lo' hs2 h2 e2 hob.2⟩
   ·cases he
  cases v with
  |agg us=>
   simp only [wT]at he
   split at he
   ·rename_i ds p as9' q e1 e2
    simp only [Option.some.injEq,Prod.mk.injEq]at he
    obtain⟨rfl,rfl⟩:=he
    simp only [AvR]at h1
    obtain⟨cs,rfl,h3⟩:=h1
    simp only [xT,vy]
    exact⟨_,xs',rfl,⟨cs,rfl,ZP h lo' (fun d R hd=>hs1 d R (by simp only [AV.nm];exact hd)) h3 e1 hob.1⟩,ZB h lo' hs2 h2 e2 hob.2⟩
   ·cases he
  |int k n=>exact one he
  |bool b=>exact one he
  |sl d p off len e=>exact one he
  |nil=>exact one he
  |ep d p i=>exact one he
  |bp t i=>exact one he
  |tup us=>exact one he
  |fn f us=>exact one he
  |dead=>exact one he
  |raw u=>exact one he
def Qy (P:Program)(τ:Ty)(o:Oper)(K:St→Prop)(st:St):Prop:=
 match zt o with
 |some (f,args,ts)=>
  match wT τ st (args.toList.map (ev st))with
  |some (as9,ob)=>ob∧jG st (AV.nmL (args.toList.map (ev st)))=true∧∃e xs,FnE P τ f as9 (.lst e xs)∧sz τ e≠0∧K ((st.addR (zW (zn o) 0) ⟨.sh,e,xs,none⟩).put o.dst (.sl (zW (zn o) 0) [] 0 (xs.length / sz τ e) e))
  |none=>False
 |none=>False
theorem KB {o:Oper}{K:St→Prop}{Q:Exit→Act→World→Prop}{K':Act→World→Prop}(hd: ∀k,o.dst=some k→k<a.tmps.size)(h:Rel τ lo w0 st a w)(ha:Qy P τ o K st)
  (hK: ∀st' x w',K st'→Rel τ lo w0 st' (a.put o.dst x) w'→K' (a.put o.dst x) w'):o.wp P a w K' Q:=by
 obtain⟨ow,hd',bk,hr⟩:=h
 unfold Qy at ha
 split at ha
 rotate_left
 ·exact ha.elim
 rename_i f args ts hc
 split at ha
 rotate_left
 ·exact ha.elim
 rename_i as9 ob hargs
 obtain⟨hob,hsh,e,xs,⟨hcl,hcall⟩,hz,hK1⟩:=ha
 have hev:zT τ w st.r st.b hd' bk (args.toList.map (ev st)) (args.toList.map a.eval):=zj.2 ⟨by simp,fun i v x hv hx=>by
  rw [List.getElem?_map]at hv hx
  cases hk:args.toList[i]? with
  |none=>rw [hk]at hv;cases hv
  |some p=>rw [hk]at hv hx;cases hv;cases hx;exact zX hr p⟩
 have hA:=ZB hr (ow':=ow) lo (fun d R hd hR b _ hrel=>by
  rw [uS hsh hd hR]at hrel
  exact hrel) hev hargs hob
 have hC:=hcall lo w ow _ hr.low hr.new hA
 unfold Oper.wp
 rw [VN hr hc hcl]
 simp only [Oper.upon]
 refine hC.mono fun e' w' hpost=> ?_
 obtain⟨v,he,hbl,hrp⟩:=hpost
 subst he
 have hgrow:=XD hr (w':=w') (ow':=ow) hbl.size (fun b hb=>⟨hbl.block b hb,rfl⟩) (hr.below.below hbl) (fun b p hle hp hne=>by rw [hr.new b hle]at hp;cases hp) (fun b hle=>hr.new b (by have :=hbl.size;omega))
 have hadd:=xH hgrow (zW (zn o) 0) ⟨.sh,e,xs,none⟩ v hrp
 refine hK _ _ w' hK1 (yd hadd hd ?_)
 have :=vG (τ:=τ) (lo:=lo) (w:=w') (ow:=ow) (hd:=upd hd' (zW (zn o) 0) v) (bk:=bk) (rr:=(st.addR (zW (zn o) 0) ⟨.sh,e,xs,none⟩).r) (bb:=(st.addR (zW (zn o) 0) ⟨.sh,e,xs,none⟩).b) (zn o) [.lst e xs] 0 [v] rfl ⟨hz,trivial⟩ (fun i d c h1 h2=>by
  cases i with
  |zero=>simp at h1 h2;subst h1;subst h2;exact⟨_,hrp⟩
  |succ i=>simp at h1) (fun i e' xs' c h1 h2=>by
  cases i with
  |zero=>simp at h1 h2;subst h2;exact yB _ _ _
  |succ i=>simp at h1)
 simp only [yG,zT]at this
 obtain⟨x,ys,e1,h4,-⟩:=this
 cases e1
 exact h4
def Xn (P:Program)(τ:Ty)(al:List Nat)(t:Nat)(K:St→Prop):List Oper→St→Prop
 | [],st=>K st
 |o::os,st=>
  match o.guard with
  |none=>if o.dst=some t then Qy P τ o (Xn P τ al t K os) st else aop P τ al o (Xn P τ al t K os) st
  |some (j,want)=>False
theorem Zc (hτ:zr P τ)(hpos:yQ τ){al:List Nat}{t:Nat}{all:List Oper}{K:St→Prop}{Q:Exit→Act→World→Prop}(hQ: ∀st a w,K st→Rel τ lo w0 st a w→Q .normal a w):
  ∀(os:List Oper) (st:St) (a:Act) (w:World),yo a.tmps.size os=true→Rel τ lo w0 st a w→Xn P τ al t K os st→wpList P all.toArray Q os a w
 | [],st,a,w,_,h,ha=>wpList_nil (hQ st a w ha h)
 |o::os,st,a,w,hd,h,ha=>by
  have hd1: ∀k,o.dst=some k→k<a.tmps.size:=fun k hk=>by
   have :=List.all_eq_true.1 hd o (by simp)
   rw [hk]at this
   simpa using this
  have hd2:yo a.tmps.size os=true:=List.all_eq_true.2 fun x hx=>List.all_eq_true.1 hd x (by simp [hx])
  refine wpList_step fun K' hK'=> ?_
  simp only [Xn]at ha
  split at ha
  ·rename_i hg
   rw [if_pos (by simp [Region.wanted,hg])]
   split at ha
   ·exact KB hd1 h ha fun st' x w' h2 h3=>hK' _ _ (Zc hτ hpos hQ os st' _ w' (by rw [xR];exact hd2) h3 h2)
   ·exact wS hτ hpos hd1 h ha fun st' x w' h2 h3=>hK' _ _ (Zc hτ hpos hQ os st' _ w' (by rw [xR];exact hd2) h3 h2)
  ·exact ha.elim
end
theorem jb {P:Program}{τ:Ty}{Q:Exit→St→Prop}{st:St}(t:Nat)(hτ:zr P τ)(hpos:yQ τ)(al:List Nat){id:Nat}{ops:List Oper}(hd:yo st.n ops=true)(h:Xn P τ al t (Q .normal) ops st):awp P τ (.region id ops.toArray false) Q st:=fun lo w0 a w hr=>by
 have hn:a.tmps.size=st.n:=by obtain⟨ow,hd,bk,h⟩:=hr;exact h.size
 refine wp_region_lit (Zc hτ hpos (fun st a w h1 h2=>⟨st,h2,h1⟩) ops st a w (by rw [hn];exact hd) hr h)
attribute [push_cast] Qy Xn wT jG
theorem Vq (w:World)(o1 o2 o3:Obj):(((w.alloc o1).alloc o2).alloc o3).heap[w.heap.size+1+1]? =some o3:=by
 rw [show w.heap.size+1+1=((w.alloc o1).alloc o2).heap.size by simp];exact heap_alloc_new _ _
theorem Xy {lo:Nat}{w:World}{ow:Nat→Option Pl}{e:TypeId}(he:sz tyT e=1){xs:List D}{v:Value}(h:Rp (sz tyT) lo w ow .sh (.lst e xs) v)(h0:xs.length≠0):
  ∃(b o c:Nat) (vs:List Value),v= .slice (some ⟨b,o,none⟩) xs.length c∧vs.length=xs.length∧b<w.heap.size∧(∀(i:Nat) (u:Value),vs[i]? =some u→w.cell? ⟨b,o+i,none⟩=some u)∧∀(i:Nat) (x:D) (u:Value),xs[i]? =some x→vs[i]? =some u→Rp (sz tyT) lo w ow .sh x u:=by
 obtain⟨vs,⟨h1,n,h2,A,c,hv,h3,h4,h5⟩,h6⟩:=(zo _ _).1 h
 rw [he,Nat.mul_one]at h2
 subst h2
 obtain⟨b,o,rfl,hb,ho,hc⟩:=h5 h0
 exact⟨b,o,c,vs,hv,h1,hb,hc,h6⟩
def GoesR (N:Nat)(w:World)(own cho:Int)(A:Option Addr)(ln cn:Nat)(e:Ending)(w':World):Prop:=Below N w w'∧
   ((own=1∧e= .returned (.slice A ln cn))∨(own≠1∧cho<0∧∃g,N≤g∧e= .returned (.slice (some ⟨g,0,none⟩) 0 0)∧w'.heap[g]? =some (.cells #[] 2 (0,0)))∨(own≠1∧¬cho<0∧∃g,N≤g∧e= .returned (.slice (some ⟨g,0,none⟩) 1 1)∧w'.heap[g]? =some (.cells #[.int .i64 cho] 2 (0,0))))
set_option maxHeartbeats 1000000 in
theorem jh {w:World}{n ns:Nat}{v s:Nat}(hv:v<n)(hn:n≤256)(hs:s<ns)(hns:ns≤24){M:Value}{b1 o1 c1 b2 o2 c2 b3 o3 c3 b4 o4 c4:Nat}{own cho:Int}{A:Option Addr}{ln cn:Nat}
  (hb1:b1<w.heap.size) (hc1:w.cell? ⟨b1,o1+v,none⟩=some (.int .i64 own)) (hb2:b2<w.heap.size) (hc2:w.cell? ⟨b2,o2+v,none⟩=some (.slice A ln cn))
  (hb3:b3<w.heap.size) (hc3:w.cell? ⟨b3,o3+s,none⟩=some (.slice (some ⟨b4,o4,none⟩) n c4)) (hb4:b4<w.heap.size) (hc4:w.cell? ⟨b4,o4+v,none⟩=some (.int .i64 cho)):
  Calls Try.prog 114 #[.agg #[.slice (some ⟨b1,o1,none⟩) n c1, .slice (some ⟨b2,o2,none⟩) n c2], .agg #[M, .slice (some ⟨b3,o3,none⟩) ns c3], .int .i64 v, .int .i64 s] w (GoesR w.heap.size w own cho A ln cn):=by
 go_enter Try.func114,Try.ntmps114
 by_cases h1:own=1
 ·subst h1
  go_wp2_with fail
  go_ret
  exact⟨by repeat(first|(with_reducible exact Below.refl _ _)|(with_reducible assumption)|(with_reducible refine Below.drew ?_)|(with_reducible refine Zh ?_ _)|((with_reducible refine Below.setCell ?_ ?_ _);rotate_left;(focus first|omega|(simp;done)|(simp;omega)))|((with_reducible refine Below.alloc ?_ ?_ _);rotate_left;(focus first|omega|(simp;done)|(simp;omega)))|(refine Below.trans ?_ (Below.mono (by assumption) (by first|omega|(simp;done)|(simp;omega))))), .inl ⟨rfl,rfl⟩⟩
 ·by_cases h2:cho<0
  ·go_wp2_with fail
   go_ret
   exact⟨by repeat(first|(with_reducible exact Below.refl _ _)|(with_reducible assumption)|(with_reducible refine Below.drew ?_)|(with_reducible refine Zh ?_ _)|((with_reducible refine Below.setCell ?_ ?_ _);rotate_left;(focus first|omega|(simp;done)|(simp;omega)))|((with_reducible refine Below.alloc ?_ ?_ _);rotate_left;(focus first|omega|(simp;done)|(simp;omega)))|(refine Below.trans ?_ (Below.mono (by assumption) (by first|omega|(simp;done)|(simp;omega))))), .inr (.inl ⟨h1,h2,_,by omega,rfl,Vq _ _ _ _⟩)⟩
  ·go_wp2_with fail
   go_ret
   exact⟨by repeat(first|(with_reducible exact Below.refl _ _)|(with_reducible assumption)|(with_reducible refine Below.drew ?_)|(with_reducible refine Zh ?_ _)|((with_reducible refine Below.setCell ?_ ?_ _);rotate_left;(focus first|omega|(simp;done)|(simp;omega)))|((with_reducible refine Below.alloc ?_ ?_ _);rotate_left;(focus first|omega|(simp;done)|(simp;omega)))|(refine Below.trans ?_ (Below.mono (by assumption) (by first|omega|(simp;done)|(simp;omega))))), .inr (.inr ⟨h1,by omega,_,by omega,rfl,Vq _ _ _ _⟩)⟩
theorem jg (a:Ar)(m:Me)(st:Int)(h:MmI a m st)(p:Plc)(hp:OkM a m p):FnE Try.prog tyT 114 [.agg (dAr a), .agg (dMe m), .c (.int .i64 p.at_), .c (.int .i64 (gi p.record 0))] (DI (usM a m p)):=by
 refine⟨⟨Try.f114,Try.func114,by kernel_rfl,by kernel_rfl⟩,fun lo w ow cargs hlo hnew hargs=> ?_⟩
 obtain⟨hp1,hp2,hp3,hp4,hp5⟩:=hp
 obtain⟨v,hv⟩:=Int.eq_ofNat_of_zero_le hp1
 obtain⟨s,hs⟩:=Int.eq_ofNat_of_zero_le hp4
 have hal:=xE h.ar
 obtain⟨k1,k2⟩:=vD h.mem
 obtain⟨k3,k4,k5⟩:=k2 s (by omega)
 have k6:=(Qo k4).1
 obtain⟨q1,q2,q3,q4,q5⟩:=Wj h.ar (v:=v) (by omega)
 unfold dAr dMe at hargs
 simp only [xT,vy,RpS]at hargs
 obtain⟨v0,vs0,rfl,⟨cs,rfl,c0,cs0,rfl,how,c1,cs1,rfl,hnx,rfl⟩,v1,vs1,rfl,⟨ds,rfl,d0,ds0,rfl,hmn,d1,ds1,rfl,hmc,rfl⟩,v2,vs2,rfl,hv2,v3,vs3,rfl,hv3,rfl⟩:=hargs
 simp only [Rp]at hv2 hv3
 subst hv2 hv3
 have l0:(dI a.owner).length=a.owner.length:=Kk _
 have l1:(dII a.next).length=a.next.length:=WG _
 have l2:(dII m.choice).length=m.choice.length:=WG _
 obtain⟨b1,o1,e1,us1,rfl,hu1,hb1,hc1,hk1⟩:=Xy (by decide) how (by omega)
 obtain⟨b2,o2,e2,us2,rfl,hu2,hb2,hc2,hk2⟩:=Xy (by decide) hnx (by omega)
 obtain⟨b3,o3,e3,us3,rfl,hu3,hb3,hc3,hk3⟩:=Xy (by decide) hmc (by omega)
 have g1:us1[v]? =some us1[v]:=List.getElem?_eq_getElem (by omega)
 have g2:us2[v]? =some us2[v]:=List.getElem?_eq_getElem (by omega)
 have g3:us3[s]? =some us3[s]:=List.getElem?_eq_getElem (by omega)
 have r1:=hk1 v (.int .i64 (gi a.owner v)) _ (by unfold dI;rw [List.getElem?_map,ZR (by omega)];rfl) g1
 have r2:=hk2 v (DI (gl a.next v)) _ (by unfold dII;rw [List.getElem?_map,vt (by omega)];rfl) g2
 have r3:=hk3 s (DI (gl m.choice s)) _ (by unfold dII;rw [List.getElem?_map,vt (by omega)];rfl) g3
 simp only [Rp]at r1
 have l4:(dI (gl m.choice s)).length=(gl m.choice s).length:=Kk _
 obtain⟨b4,o4,e4,us4,er3,hu4,hb4,hc4,hk4⟩:=Xy (by decide) r3 (by omega)
 have g4:us4[v]? =some us4[v]:=List.getElem?_eq_getElem (by omega)
 have r4:=hk4 v (.int .i64 (gi (gl m.choice s) v)) _ (by unfold dI;rw [List.getElem?_map,ZR (by omega)];rfl) g4
 simp only [Rp]at r4
 obtain⟨A,ln,cn,er2,-⟩:=xL r2
 have hrun:=jh (w:=w) (n:=a.owner.length) (ns:=m.choice.length) (v:=v) (s:=s) (by omega) (by omega) (by omega) (by omega) (M:=d0) (c1:=e1) (c2:=e2) (c3:=e3) (c4:=e4) hb1 (by rw [hc1 v _ g1,r1]) hb2 (by rw [hc2 v _ g2,er2]) hb3 (by rw [hc3 s _ g3,er3,l4,k6]) hb4 (by rw [hc4 v _ g4,r4])
 rw [l0,l1,l2,hal.2.2,hv,hs]
 refine hrun.mono fun e w' hpost=> ?_
 obtain⟨hbl,hq⟩:=hpost
 have eU:usM a m p=if gi a.owner v=1 then gl a.next v else if gi (gl m.choice s) v<0 then []else [gi (gl m.choice s) v]:=by
  have e5:p.at_.toNat=v:=by omega
  have e6:(gi p.record 0).toNat=s:=by omega
  by_cases e7:gi a.owner v=1
  ·rw [if_pos e7,QC (by rw [e5];omega),e5]
  ·by_cases e8:gi (gl m.choice s) v<0
   ·rw [if_neg e7,if_pos e8,Vr (by rw [e5];omega) (by unfold chM;rw [e5,e6];exact e8)]
   ·rw [if_neg e7,if_neg e8,QD (by rw [e5];omega) (by unfold chM;rw [e5,e6];exact e8)]
    unfold chM
    rw [e5,e6]
 rcases hq with⟨e7,he⟩|⟨e7,e8,g,hg1,he,hg2⟩|⟨e7,e8,g,hg1,he,hg2⟩
 ·refine⟨_,he,hbl,?_⟩
  rw [eU,if_pos e7,←er2]
  exact zz _ _ hbl.size _ _ _ (fun b hb _=>⟨hbl.block b hb,rfl⟩) r2
 ·refine⟨_,he,hbl,?_⟩
  rw [eU,if_neg e7,if_pos e8]
  exact(zo _ _).2 ⟨[],⟨rfl,0,rfl,_,_,rfl,Nat.le_refl _,by unfold maxLen;omega,fun hh=>absurd rfl hh⟩,fun j y z hy hz=>by simp at hz⟩
 ·refine⟨_,he,hbl,?_⟩
  rw [eU,if_neg e7,if_neg e8]
  refine(zo _ _).2 ⟨[.int .i64 (gi (gl m.choice s) v)],⟨rfl,1,rfl,_,_,rfl,Nat.le_refl _,by unfold maxLen;omega,fun _=>⟨g,0,rfl,(Array.getElem?_eq_some_iff.1 hg2).1,hnew g hg1,fun j y hy=> ?_⟩⟩,fun j y z hy hz=> ?_⟩
  ·cases j with
   |zero=>simp at hy;subst hy;unfold World.cell?;rw [Nat.zero_add];simp [hg2]
   |succ j=>simp at hy
  ·cases j with
   |zero=>simp [dI]at hy hz;subst hy;subst hz;simp only [Rp]
   |succ j=>simp at hz
end Go.Proofs.Ythepmdkpbjfdcaa
