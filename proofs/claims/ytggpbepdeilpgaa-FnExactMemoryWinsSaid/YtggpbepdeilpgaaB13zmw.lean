/- the places of a memory: the program's walk with a map -/
import Derived.Test.YtggpbepdeilpgaaB12zmw
import Derived.Test.YtggpbepdeilpgaaB11zmw
import Derived.Test.YtggpbepdeilpgaaB10zmw
import Derived.Test.YtggpbepdeilpgaaB5zmw
namespace Go.Proofs.Ytggpbepdeilpgaa
open Nat renaming reduceMod → zA, reduceMul → zB, reduceDiv → zC, reduceAdd → zD, reduceSub → zE, reduceEqDiff → zF, reduceBEq → zG, reduceLT → zH, reduceLeDiff → zI
open Go.RowKit
set_option linter.unusedVariables false
set_option linter.unusedSimpArgs false
theorem Zk :yc Try.prog 102 2 103:=by
 refine⟨by kernel_rfl,by kernel_rfl,by kernel_rfl,?_,?_⟩
 ·exact⟨(Try.prog.info? 102).get!,by kernel_rfl,by kernel_rfl,by kernel_rfl⟩
 ·exact⟨(Try.prog.info? 2).get!,by kernel_rfl,by kernel_rfl,by kernel_rfl⟩
theorem zEw :cks tyT 102= []:=rfl
attribute [push_cast] zEw
set_option maxRecDepth 20000 in
set_option maxHeartbeats 8000000 in
theorem Ww (a:Ar)(ha:a.Ln 1048576)(m:Me)(hm:m.Ln 1048576)(s:Int)(h:MmI a m s):Fn Try.prog tyT 46 [.agg (dAr a), .agg (dMe m), .c (.int .i64 s)] [.c (.lst 78 (yj (stM a m s 6145))), .c (DII (rsM a m s (stM a m s 6145).length))]:=by
 have hno:=ha.owner
 have hnn:=ha.next.1
 have hrr9: ∀v,(gl a.next v).length≤1048576:=fun v=>wx ha.next v
 unfold LnI at hno
 have hal:=yi h.ar
 obtain⟨hk0,hkm⟩:=vb h.mem
 have hs0:=h.st
 unfold dAr dMe
 refine yC (fn:=Try.f46) (ts:= [6,7]) Try.func46 (by kernel_rfl) rfl rfl (by rw [Try.ntmps46];exact Nat.le_of_ble_eq_true rfl) rfl (by simp only [szA,List.mem_cons,List.not_mem_nil,or_false,forall_eq_or_imp,forall_eq,VT.cells,szL];try decide) ?_
 rw [Try.ntmps46]
 simp only [push_cast,↓zK,↓zJ,↓reduceIte,zA,zB,zC,zD,zE,zF,zG,zH,zI,reduceCtorEq]
 refine zL fun K hK=> ?_
 refine zM zQ zO [] rfl ?_
 all_goals simp only [push_cast,↓zK,↓zJ,↓reduceIte,zA,zB,zC,zD,zE,zF,zG,zH,zI,reduceCtorEq]
 all_goals repeat'(first|(apply zP<;>(intro hg;(try simp only [push_cast]at hg)))|apply And.intro|(intro hg;(try simp only [push_cast]at hg)))
 all_goals first|exact gA|(exact zR (by omega))|skip
 all_goals first|(refine hK _ ?_;clear hK K)|(simp only [push_cast];done)
 refine UL zQ zO Zk [] rfl rfl rfl rfl fun r9 K hK=> ?_
 all_goals simp only [push_cast,↓zK,↓zJ,↓reduceIte,zA,zB,zC,zD,zE,zF,zG,zH,zI,reduceCtorEq]
 repeat' apply And.intro
 all_goals first|exact True.intro|exact rfl|omega|with_reducible assumption|skip
 refine hK _ _ ?_;clear hK K
 refine zg fun K hK=> ?_
 refine zl ?_
 refine zf false zQ zO ?_ rfl ?_
 ·kernel_rfl
 simp only [push_cast,↓zK,↓zJ,↓reduceIte,zA,zB,zC,zD,zE,zF,zG,zH,zI,reduceCtorEq]
 all_goals repeat'(first|(apply zP<;>(intro hg;(try simp only [push_cast]at hg)))|apply And.intro|(intro hg;(try simp only [push_cast]at hg)))
 all_goals first|exact gA|(exact zR (by omega))|skip
 all_goals first|(refine hK _ _ ?_;clear hK K)|(simp only [push_cast];done)
 refine xN 78 9 (Nat.le_of_ble_eq_true rfl) ?_
 simp only [push_cast,↓zK,↓zJ,↓reduceIte,zA,zB,zC,zD,zE,zF,zG,zH,zI,reduceCtorEq]
 refine zg fun K hK=> ?_
 refine zl ?_
 refine zf false zQ zO ?_ rfl ?_
 ·kernel_rfl
 simp only [push_cast,↓zK,↓zJ,↓reduceIte,zA,zB,zC,zD,zE,zF,zG,zH,zI,reduceCtorEq]
 all_goals repeat'(first|(apply zP<;>(intro hg;(try simp only [push_cast]at hg)))|apply And.intro|(intro hg;(try simp only [push_cast]at hg)))
 all_goals first|exact gA|(exact zR (by omega))|skip
 all_goals first|(refine hK _ _ ?_;clear hK K)|(simp only [push_cast];done)
 refine zg fun K1 hK1=> ?_
 refine xN 22 10 (Nat.le_of_ble_eq_true rfl) ?_
 simp only [push_cast,↓zK,↓zJ,↓reduceIte,zA,zB,zC,zD,zE,zF,zG,zH,zI,reduceCtorEq]
 refine zg fun K hK=> ?_
 refine zl ?_
 refine zM zQ zO [] rfl ?_
 all_goals simp only [push_cast,↓zK,↓zJ,↓reduceIte,zA,zB,zC,zD,zE,zF,zG,zH,zI,reduceCtorEq]
 all_goals repeat'(first|(apply zP<;>(intro hg;(try simp only [push_cast]at hg)))|apply And.intro|(intro hg;(try simp only [push_cast]at hg)))
 all_goals first|exact gA|(exact zR (by omega))|skip
 all_goals first|(refine hK _ _ ?_;clear hK K)|(simp only [push_cast];done)
 refine qh ?_
 refine ZU [9,10,11,12,13,14,15,16,18,19,20,21,31,32,33,34,35,36,37,38,39,40,41,42,43,44,45,46,47,48,49,50,51,52,53,54,55,56,57,58,59,60,61,62,63,64,65,66,67,68,69,70,71,72,73,74,75,76,77,78,79,80,81,82,83,84,85,86,87,88,89,90,91,92,93,94,95,96,97,98,99,100,101,102,103,104,105,106,107,108,109,110,111,112,113,114,115,116,117,118] [] (fun(i:Nat)=> [(11, .int .i64 i),(9, .sl 144 [] 0 (stM a m s i).length 78),(10, .sl 160 [] 0 i 22)]) (fun i=> []) (fun i=> [(144,⟨.ex,78,yj (stM a m s i),none⟩),(160,⟨.ex,22,dII (rsM a m s i),none⟩)]) (fun i=>mdF (stM a m s i) 0) (fun i=>i≤(stM a m s i).length) (fun i=>6145 - i) 0 ?_ ?_ (by show 0≤1;decide) ?_
 ·
  rw [show stM a m s 0= [⟨s,[0]⟩]from rfl,zEX]
  refine zb rfl ?_ ?_ ?_<;>simp only [zj,zi,push_cast,↓zK,↓zJ,↓reduceIte,zA,zB,zC,zD,zE,zF,zG,zH,zI,reduceCtorEq]
  all_goals first|exact⟨rfl,rfl⟩|rfl
 ·
  rfl
 ·rintro i hi KL0 hL0
  have hfew:=Wm h i
  have hrs:=wo a m s i
  have hq:QLn 1048576 (stM a m s i):=⟨by omega,fun p hp=>by rw [(qR h i p hp).2.2.1];show 1≤1048576;decide⟩
  simp only [push_cast,↓zK,↓zJ,↓reduceIte,zA,zB,zC,zD,zE,zF,zG,zH,zI,reduceCtorEq]
  refine zg fun K2 hK2=> ?_
  refine zg fun K hK=> ?_
  refine zl ?_
  refine zM zQ zO [] rfl ?_
  all_goals simp only [push_cast,↓zK,↓zJ,↓reduceIte,zA,zB,zC,zD,zE,zF,zG,zH,zI,reduceCtorEq]
  all_goals repeat'(first|(apply zP<;>(intro hg;(try simp only [push_cast]at hg)))|apply And.intro|(intro hg;(try simp only [push_cast]at hg)))
  all_goals first|exact gA|(exact zR (by omega))|skip
  all_goals first|(refine hK _ _ ?_;clear hK K)|(simp only [push_cast];done)
  refine xi rfl (fun hc=> ?_) (fun hc=> ?_)<;>(try simp only [push_cast]at hc)
  ·
   refine vG ?_
   (try simp only [yo,xY,reduceIte,zF]);refine hK2 _ _ ?_
   refine zg fun K3 hK3=> ?_
   refine qh ?_
   have hi2:i<(stM a m s i).length:=by omega
   have hP:=qR h i _ (vk hi2)
   obtain⟨hU1,hU2,hN1,hN2⟩:=Qp h hP
   obtain⟨hP1,hP2,hP3,hP4,hP5⟩:=hP
   have hPl:(gq (stM a m s i) i).record.length=1:=by rw [hP3];rfl
   obtain⟨hr1,hr2,hr3⟩:=hkm (gi (gq (stM a m s i) i).record 0).toNat (by omega)
   have hr4:=(WF hr2).1
   unfold ntM at hN1 hN2
   refine zg fun K hK=> ?_
   refine zl ?_
   refine yu false zQ zO qM ?_ rfl ?_
   ·kernel_rfl
   intro E hE
   all_goals simp only [push_cast,↓zK,↓zJ,↓reduceIte,zA,zB,zC,zD,zE,zF,zG,zH,zI,reduceCtorEq]
   all_goals repeat'(first|(apply zP<;>(intro hg;(try simp only [push_cast]at hg)))|apply And.intro|(intro hg;(try simp only [push_cast]at hg)))
   all_goals first|exact gA|(refine hE _ _ ?_ ?_;kernel_rfl)|(exact zR (by omega))|skip
   all_goals clear hE E
   all_goals first|(refine hK _ _ ?_;clear hK K)|(simp only [push_cast];done)
   refine zg fun K hK=> ?_
   refine zl ?_
   refine zM zQ zO [] rfl ?_
   all_goals simp only [push_cast,↓zK,↓zJ,↓reduceIte,zA,zB,zC,zD,zE,zF,zG,zH,zI,reduceCtorEq]
   all_goals repeat'(first|(apply zP<;>(intro hg;(try simp only [push_cast]at hg)))|apply And.intro|(intro hg;(try simp only [push_cast]at hg)))
   all_goals first|exact gA|(exact zR (by omega))|skip
   all_goals first|(refine hK _ _ ?_;clear hK K)|(simp only [push_cast];done)
   refine zg fun K4 hK4=> ?_
   refine zg fun K hK=> ?_
   refine zl ?_
   refine zM zQ zO [] rfl ?_
   all_goals simp only [push_cast,↓zK,↓zJ,↓reduceIte,zA,zB,zC,zD,zE,zF,zG,zH,zI,reduceCtorEq]
   all_goals repeat'(first|(apply zP<;>(intro hg;(try simp only [push_cast]at hg)))|apply And.intro|(intro hg;(try simp only [push_cast]at hg)))
   all_goals first|exact gA|(exact zR (by omega))|skip
   all_goals first|(refine hK _ _ ?_;clear hK K)|(simp only [push_cast];done)
   refine xi rfl (fun hc=> ?_) (fun hc=> ?_)<;>(try simp only [push_cast]at hc)
   ·
    refine zg fun K hK=> ?_
    refine zl ?_
    refine zM zQ zO [] rfl ?_
    all_goals simp only [push_cast,↓zK,↓zJ,↓reduceIte,zA,zB,zC,zD,zE,zF,zG,zH,zI,reduceCtorEq]
    all_goals repeat'(first|(apply zP<;>(intro hg;(try simp only [push_cast]at hg)))|apply And.intro|(intro hg;(try simp only [push_cast]at hg)))
    all_goals first|exact gA|(exact zR (by omega))|skip
    all_goals first|(refine hK _ _ ?_;clear hK K)|(simp only [push_cast];done)
    refine zg fun K hK=> ?_
    refine zl ?_
    refine zM zQ zO [] rfl ?_
    all_goals simp only [push_cast,↓zK,↓zJ,↓reduceIte,zA,zB,zC,zD,zE,zF,zG,zH,zI,reduceCtorEq]
    all_goals repeat'(first|(apply zP<;>(intro hg;(try simp only [push_cast]at hg)))|apply And.intro|(intro hg;(try simp only [push_cast]at hg)))
    all_goals first|exact gA|(exact zR (by omega))|skip
    all_goals first|(refine hK _ _ ?_;clear hK K)|(simp only [push_cast];done)
    refine zg fun K hK=> ?_
    refine zl ?_
    refine zM zQ zO [] rfl ?_
    all_goals simp only [push_cast,↓zK,↓zJ,↓reduceIte,zA,zB,zC,zD,zE,zF,zG,zH,zI,reduceCtorEq]
    all_goals repeat'(first|(apply zP<;>(intro hg;(try simp only [push_cast]at hg)))|apply And.intro|(intro hg;(try simp only [push_cast]at hg)))
    all_goals first|exact gA|(exact zR (by omega))|skip
    all_goals first|(refine hK _ _ ?_;clear hK K)|(simp only [push_cast];done)
    refine xi rfl (fun hc=> ?_) (fun hc=> ?_)<;>(try simp only [push_cast]at hc)
    ·
     refine zl ?_
     refine zM zQ zO [] rfl ?_
     all_goals simp only [push_cast,↓zK,↓zJ,↓reduceIte,zA,zB,zC,zD,zE,zF,zG,zH,zI,reduceCtorEq]
     all_goals repeat'(first|(apply zP<;>(intro hg;(try simp only [push_cast]at hg)))|apply And.intro|(intro hg;(try simp only [push_cast]at hg)))
     all_goals first|exact gA|(exact zR (by omega))|skip
     (try simp only [yo,xY,reduceIte,zF]);refine hK4 _ _ ?_
     obtain⟨U9,hU9⟩: ∃U:List Int,U= [(gi (gl m.choice (gi (gq (stM a m s i) i).record 0).toNat) (gq (stM a m s i) i).at_.toNat)]:=⟨_,rfl⟩
     have hU:usM a m (gq (stM a m s i) i)=U9:=by rw [hU9];exact VP (by omega) (by unfold chM;omega)
     have hU8:U9.length=1:=by rw [hU9];rfl
     refine zg fun K hK=> ?_
     refine zl ?_
     refine zM zQ zO [] rfl ?_
     all_goals simp only [push_cast,↓zK,↓zJ,↓reduceIte,zA,zB,zC,zD,zE,zF,zG,zH,zI,reduceCtorEq]
     all_goals repeat'(first|(apply zP<;>(intro hg;(try simp only [push_cast]at hg)))|apply And.intro|(intro hg;(try simp only [push_cast]at hg)))
     all_goals first|exact gA|(exact zR (by omega))|skip
     all_goals first|(refine hK _ _ ?_;clear hK K)|(simp only [push_cast];done)
     refine zg fun K5 hK5=> ?_
     refine zg fun K hK=> ?_
     refine zl ?_
     refine zM zQ zO [] rfl ?_
     all_goals simp only [push_cast,↓zK,↓zJ,↓reduceIte,zA,zB,zC,zD,zE,zF,zG,zH,zI,reduceCtorEq]
     all_goals repeat'(first|(apply zP<;>(intro hg;(try simp only [push_cast]at hg)))|apply And.intro|(intro hg;(try simp only [push_cast]at hg)))
     all_goals first|exact gA|(exact zR (by omega))|skip
     all_goals first|(refine hK _ _ ?_;clear hK K)|(simp only [push_cast];done)
     refine qh ?_
     refine ZU [9,14,16,18,19,20,21,32,37,39,40,42,44,45,46,47,75,76,77,78,79,80,81,82,83,84,85,86,87,88,89,90,91,92,93,94,95,96,97,98,99,100,101,102,103,104,105,106,107,108,109,110,111,112,113,114] [224] (fun(k:Nat)=> [(75, .int .i64 k),(9, .sl 144 [] 0 (zh (rcM m (gq (stM a m s i) i)) U9 (stM a m s i) k).1.length 78),(16, .sl 256 [] 0 k 2),(14, .sl 224 [] 0 1 2)]) (fun k=> []) (fun k=> [(144,⟨.ex,78,yj (zh (rcM m (gq (stM a m s i) i)) U9 (stM a m s i) k).1,none⟩),(256,⟨.ex,2,dI (zh (rcM m (gq (stM a m s i) i)) U9 (stM a m s i) k).2,none⟩),(224,⟨.ex,2,dI U9,none⟩)]) (fun k=>mdF (zh (rcM m (gq (stM a m s i) i)) U9 (stM a m s i) k).1 0) (fun k=>k≤U9.length) (fun k=>U9.length - k) 0 ?_ ?_ (by omega) ?_
     ·
      rw [Qk]
      rw [hU9]
      refine zb rfl ?_ ?_ ?_<;>simp only [zj,zi,push_cast,↓zK,↓zJ,↓reduceIte,zA,zB,zC,zD,zE,zF,zG,zH,zI,reduceCtorEq]
      all_goals first|rfl|exact⟨rfl,rfl⟩|exact⟨rfl,rfl,rfl⟩
     ·
      rfl
     ·rintro k hk KL1 hL1
      have hrl:=qn (r:=(rcM m (gq (stM a m s i) i))) (us:=U9) (ps:=(stM a m s i)) (k:=k) hk
      have hfr:=Wn h (i:=i) (k:=k) hi2 (by rw [hU];exact hk)
      rw [hU]at hfr
      have hrr:=VM h (i:=i) (k:=k) hi2 (by rw [hU];exact hk)
      rw [hU]at hrr
      have hrc: ∀p∈(zh (rcM m (gq (stM a m s i) i)) U9 (stM a m s i) k).1,p.record= [gi p.record 0]:=fun p hp=>(hrr p hp).2.2.1
      simp only [push_cast,↓zK,↓zJ,↓reduceIte,zA,zB,zC,zD,zE,zF,zG,zH,zI,reduceCtorEq]
      refine zg fun K hK=> ?_
      refine zl ?_
      refine zM zQ zO [] rfl ?_
      all_goals simp only [push_cast,↓zK,↓zJ,↓reduceIte,zA,zB,zC,zD,zE,zF,zG,zH,zI,reduceCtorEq]
      all_goals repeat'(first|(apply zP<;>(intro hg;(try simp only [push_cast]at hg)))|apply And.intro|(intro hg;(try simp only [push_cast]at hg)))
      all_goals first|exact gA|(exact zR (by omega))|skip
      all_goals first|(refine hK _ _ ?_;clear hK K)|(simp only [push_cast];done)
      refine zg fun K6 hK6=> ?_
      refine xi rfl (fun hc=> ?_) (fun hc=> ?_)<;>(try simp only [push_cast]at hc)
      ·
       refine vG ?_
       (try simp only [yo,xY,reduceIte,zF]);refine hK6 _ _ ?_
       refine zg fun K7 hK7=> ?_
       refine qh ?_
       refine zg fun K hK=> ?_
       refine zl ?_
       refine zM zQ zO [] rfl ?_
       all_goals simp only [push_cast,↓zK,↓zJ,↓reduceIte,zA,zB,zC,zD,zE,zF,zG,zH,zI,reduceCtorEq]
       all_goals repeat'(first|(apply zP<;>(intro hg;(try simp only [push_cast]at hg)))|apply And.intro|(intro hg;(try simp only [push_cast]at hg)))
       all_goals first|exact gA|(exact zR (by omega))|skip
       all_goals first|(refine hK _ _ ?_;clear hK K)|(simp only [push_cast];done)
       refine zg fun K hK=> ?_
       refine xj zQ zO Zk [] rfl ?_
       all_goals simp only [push_cast,↓zK,↓zJ,↓reduceIte,zA,zB,zC,zD,zE,zF,zG,zH,zI,reduceCtorEq]
       all_goals repeat'(first|(apply zP<;>(intro hg;(try simp only [push_cast]at hg)))|apply And.intro|(intro hg;(try simp only [push_cast]at hg)))
       all_goals first|exact gA|exact⟨_,rfl⟩|(exact zR (by omega))|skip
       all_goals first|(refine hK _ _ ?_;clear hK K)|(simp only [push_cast];done)
       by_cases hx:ixQ (yD (gi U9 k) (rcM m (gq (stM a m s i) i))) (zh (rcM m (gq (stM a m s i) i)) U9 (stM a m s i) k).1<0
       ·
        have hlk:lkM (mdF (zh (rcM m (gq (stM a m s i) i)) U9 (stM a m s i) k).1 0) ((gi U9 k),(gi (gl m.next (gi (gq (stM a m s i) i).record 0).toNat) (gq (stM a m s i) i).at_.toNat))=none:=zEP hrc hx
        refine zg fun K hK=> ?_
        refine xj zQ zO Zk [] rfl ?_
        all_goals simp only [push_cast,↓zK,↓zJ,↓reduceIte,zA,zB,zC,zD,zE,zF,zG,zH,zI,reduceCtorEq]
        all_goals repeat'(first|(apply zP<;>(intro hg;(try simp only [push_cast]at hg)))|apply And.intro|(intro hg;(try simp only [push_cast]at hg)))
        all_goals first|exact gA|exact⟨_,rfl⟩|(exact zR (by omega))|skip
        all_goals first|(refine hK _ _ ?_;clear hK K)|(simp only [push_cast];done)
        all_goals rw [hlk]
        all_goals simp only [Option.getD_none,Option.isSome_none]
        refine zg fun K8 hK8=> ?_
        refine zg fun K hK=> ?_
        refine zl ?_
        refine zM zQ zO [] rfl ?_
        all_goals simp only [push_cast,↓zK,↓zJ,↓reduceIte,zA,zB,zC,zD,zE,zF,zG,zH,zI,reduceCtorEq]
        all_goals repeat'(first|(apply zP<;>(intro hg;(try simp only [push_cast]at hg)))|apply And.intro|(intro hg;(try simp only [push_cast]at hg)))
        all_goals first|exact gA|(exact zR (by omega))|skip
        all_goals first|(refine hK _ _ ?_;clear hK K)|(simp only [push_cast];done)
        refine xi rfl (fun hc=> ?_) (fun hc=> ?_)
        rotate_left
        ·exfalso;first|(cases hc;done)|(simp only [push_cast]at hc;done)|(simp only [push_cast]at hc;omega)|omega
        refine zg fun K hK=> ?_
        refine zl ?_
        refine zM zQ zO [] rfl ?_
        all_goals simp only [push_cast,↓zK,↓zJ,↓reduceIte,zA,zB,zC,zD,zE,zF,zG,zH,zI,reduceCtorEq]
        all_goals repeat'(first|(apply zP<;>(intro hg;(try simp only [push_cast]at hg)))|apply And.intro|(intro hg;(try simp only [push_cast]at hg)))
        all_goals first|exact gA|(exact zR (by omega))|skip
        all_goals first|(refine hK _ _ ?_;clear hK K)|(simp only [push_cast];done)
        refine zg fun K hK=> ?_
        refine xj zQ zO Zk [] rfl ?_
        all_goals simp only [push_cast,↓zK,↓zJ,↓reduceIte,zA,zB,zC,zD,zE,zF,zG,zH,zI,reduceCtorEq]
        all_goals repeat'(first|(apply zP<;>(intro hg;(try simp only [push_cast]at hg)))|apply And.intro|(intro hg;(try simp only [push_cast]at hg)))
        all_goals first|exact gA|exact⟨_,rfl⟩|(exact zR (by omega))|skip
        all_goals first|(refine hK _ _ ?_;clear hK K)|(simp only [push_cast];done)
        refine QK false 4 zQ zO Zk ?_ rfl (by decide) ?_
        ·kernel_rfl
        all_goals simp only [push_cast,↓zK,↓zJ,↓reduceIte,zA,zB,zC,zD,zE,zF,zG,zH,zI,reduceCtorEq]
        all_goals repeat'(first|(apply zP<;>(intro hg;(try simp only [push_cast]at hg)))|apply And.intro|(intro hg;(try simp only [push_cast]at hg)))
        all_goals first|exact gA|exact⟨_,rfl⟩|(exact zR (by omega))|skip
        (try simp only [yo,xY,reduceIte,zF]);refine hK8 _ _ ?_
        refine xN 78 9 (Nat.le_of_ble_eq_true rfl) ?_
        simp only [push_cast,↓zK,↓zJ,↓reduceIte,zA,zB,zC,zD,zE,zF,zG,zH,zI,reduceCtorEq]
        refine zl ?_
        refine zM zQ zO [] rfl ?_
        all_goals simp only [push_cast,↓zK,↓zJ,↓reduceIte,zA,zB,zC,zD,zE,zF,zG,zH,zI,reduceCtorEq]
        all_goals repeat'(first|(apply zP<;>(intro hg;(try simp only [push_cast]at hg)))|apply And.intro|(intro hg;(try simp only [push_cast]at hg)))
        all_goals first|exact gA|(exact zR (by omega))|skip
        (try simp only [yo,xY,reduceIte,zF]);refine hK7 _ _ ?_
        refine zl ?_
        refine zM zQ zO [] rfl ?_
        all_goals simp only [push_cast,↓zK,↓zJ,↓reduceIte,zA,zB,zC,zD,zE,zF,zG,zH,zI,reduceCtorEq]
        all_goals repeat'(first|(apply zP<;>(intro hg;(try simp only [push_cast]at hg)))|apply And.intro|(intro hg;(try simp only [push_cast]at hg)))
        all_goals first|exact gA|(exact zR (by omega))|skip
        refine hL1 _ _ ⟨k+1,by omega,by omega,?_,?_⟩
        rotate_left
        ·
         rw [qH (by omega) hx,KB,Nat.zero_add];rfl
        (try rw [List.take_of_length_le (l:=(zh (rcM m (gq (stM a m s i) i)) U9 (stM a m s i) k).2) (by omega)])
        rw [qH (by omega) hx]
        refine zb rfl ?_ ?_ ?_<;>simp only [zj,zi,push_cast,↓zK,↓zJ,↓reduceIte,zA,zB,zC,zD,zE,zF,zG,zH,zI,reduceCtorEq]
        all_goals first|rfl|(rw [List.length_append];rfl)|exact⟨rfl,rfl⟩|skip
       ·
        have hlk:lkM (mdF (zh (rcM m (gq (stM a m s i) i)) U9 (stM a m s i) k).1 0) ((gi U9 k),(gi (gl m.next (gi (gq (stM a m s i) i).record 0).toNat) (gq (stM a m s i) i).at_.toNat))=some (ixQ (yD (gi U9 k) (rcM m (gq (stM a m s i) i))) (zh (rcM m (gq (stM a m s i) i)) U9 (stM a m s i) k).1):=zCF hrc hx
        refine zg fun K hK=> ?_
        refine xj zQ zO Zk [] rfl ?_
        all_goals simp only [push_cast,↓zK,↓zJ,↓reduceIte,zA,zB,zC,zD,zE,zF,zG,zH,zI,reduceCtorEq]
        all_goals repeat'(first|(apply zP<;>(intro hg;(try simp only [push_cast]at hg)))|apply And.intro|(intro hg;(try simp only [push_cast]at hg)))
        all_goals first|exact gA|exact⟨_,rfl⟩|(exact zR (by omega))|skip
        all_goals first|(refine hK _ _ ?_;clear hK K)|(simp only [push_cast];done)
        all_goals rw [hlk]
        all_goals simp only [Option.getD_some,Option.isSome_some]
        refine zg fun K8 hK8=> ?_
        refine zg fun K hK=> ?_
        refine zl ?_
        refine zM zQ zO [] rfl ?_
        all_goals simp only [push_cast,↓zK,↓zJ,↓reduceIte,zA,zB,zC,zD,zE,zF,zG,zH,zI,reduceCtorEq]
        all_goals repeat'(first|(apply zP<;>(intro hg;(try simp only [push_cast]at hg)))|apply And.intro|(intro hg;(try simp only [push_cast]at hg)))
        all_goals first|exact gA|(exact zR (by omega))|skip
        all_goals first|(refine hK _ _ ?_;clear hK K)|(simp only [push_cast];done)
        refine xi rfl (fun hc=> ?_) (fun hc=> ?_)
        skip
        ·exfalso;first|(cases hc;done)|(simp only [push_cast]at hc;done)|(simp only [push_cast]at hc;omega)|omega
        refine vG ?_
        (try simp only [yo,xY,reduceIte,zF]);refine hK8 _ _ ?_
        refine xN 78 9 (Nat.le_of_ble_eq_true rfl) ?_
        simp only [push_cast,↓zK,↓zJ,↓reduceIte,zA,zB,zC,zD,zE,zF,zG,zH,zI,reduceCtorEq]
        refine zl ?_
        refine zM zQ zO [] rfl ?_
        all_goals simp only [push_cast,↓zK,↓zJ,↓reduceIte,zA,zB,zC,zD,zE,zF,zG,zH,zI,reduceCtorEq]
        all_goals repeat'(first|(apply zP<;>(intro hg;(try simp only [push_cast]at hg)))|apply And.intro|(intro hg;(try simp only [push_cast]at hg)))
        all_goals first|exact gA|(exact zR (by omega))|skip
        (try simp only [yo,xY,reduceIte,zF]);refine hK7 _ _ ?_
        refine zl ?_
        refine zM zQ zO [] rfl ?_
        all_goals simp only [push_cast,↓zK,↓zJ,↓reduceIte,zA,zB,zC,zD,zE,zF,zG,zH,zI,reduceCtorEq]
        all_goals repeat'(first|(apply zP<;>(intro hg;(try simp only [push_cast]at hg)))|apply And.intro|(intro hg;(try simp only [push_cast]at hg)))
        all_goals first|exact gA|(exact zR (by omega))|skip
        refine hL1 _ _ ⟨k+1,by omega,by omega,?_,?_⟩
        rotate_left
        ·
         rw [qI (by omega) hx]
        (try rw [List.take_of_length_le (l:=(zh (rcM m (gq (stM a m s i) i)) U9 (stM a m s i) k).2) (by omega)])
        rw [qI (by omega) hx]
        refine zb rfl ?_ ?_ ?_<;>simp only [zj,zi,push_cast,↓zK,↓zJ,↓reduceIte,zA,zB,zC,zD,zE,zF,zG,zH,zI,reduceCtorEq]
        all_goals first|rfl|(rw [List.length_append];rfl)|exact⟨rfl,rfl⟩|skip
      ·
       refine YB ?_
       have hkk:k=U9.length:=by omega
       subst hkk
       have hst:stM a m s (i+1)=(zh (rcM m (gq (stM a m s i) i)) U9 (stM a m s i) U9.length).1:=by have :=JO (a:=a) (m:=m) (s:=s) hi2;rw [hU]at this;exact this
       have hrw:rwM a m s i=(zh (rcM m (gq (stM a m s i) i)) U9 (stM a m s i) U9.length).2:=by unfold rwM;rw [hU]
       have htk:List.take U9.length (zh (rcM m (gq (stM a m s i) i)) U9 (stM a m s i) U9.length).2=(zh (rcM m (gq (stM a m s i) i)) U9 (stM a m s i) U9.length).2:=List.take_of_length_le (by omega)
       (try simp only [yo,xY,reduceIte,zF]);refine hK5 _ _ ?_
       refine zl ?_
       refine zf false zQ zO ?_ rfl ?_
       ·kernel_rfl
       simp only [push_cast,↓zK,↓zJ,↓reduceIte,zA,zB,zC,zD,zE,zF,zG,zH,zI,reduceCtorEq]
       all_goals repeat'(first|(apply zP<;>(intro hg;(try simp only [push_cast]at hg)))|apply And.intro|(intro hg;(try simp only [push_cast]at hg)))
       all_goals first|exact gA|(exact zR (by omega))|skip
       (try simp only [yo,xY,reduceIte,zF]);refine hK3 _ _ ?_
       refine xN 22 10 (Nat.le_of_ble_eq_true rfl) ?_
       simp only [push_cast,↓zK,↓zJ,↓reduceIte,zA,zB,zC,zD,zE,zF,zG,zH,zI,reduceCtorEq]
       refine zl ?_
       refine zM zQ zO [] rfl ?_
       all_goals simp only [push_cast,↓zK,↓zJ,↓reduceIte,zA,zB,zC,zD,zE,zF,zG,zH,zI,reduceCtorEq]
       all_goals repeat'(first|(apply zP<;>(intro hg;(try simp only [push_cast]at hg)))|apply And.intro|(intro hg;(try simp only [push_cast]at hg)))
       all_goals first|exact gA|(exact zR (by omega))|skip
       refine hL0 _ _ ⟨i+1,(by rw [hst];omega),by omega,?_,?_⟩
       rotate_left
       ·
        rw [hst]
       (try rw [List.take_of_length_le (l:=rsM a m s i) (by omega)])
       (try rw [htk])
       rw [hst,jg,hrw]
       refine zb rfl ?_ ?_ ?_<;>simp only [zj,zi,push_cast,↓zK,↓zJ,↓reduceIte,zA,zB,zC,zD,zE,zF,zG,zH,zI,reduceCtorEq]
       all_goals first|rfl|exact⟨rfl,rfl⟩|skip
    ·
     refine vG ?_
     (try simp only [yo,xY,reduceIte,zF]);refine hK4 _ _ ?_
     obtain⟨U9,hU9⟩: ∃U:List Int,U= []:=⟨_,rfl⟩
     have hU:usM a m (gq (stM a m s i) i)=U9:=by rw [hU9];exact JU (by omega) (by unfold chM;omega)
     have hU8:U9.length=0:=by rw [hU9];rfl
     refine zg fun K hK=> ?_
     refine zl ?_
     refine zM zQ zO [] rfl ?_
     all_goals simp only [push_cast,↓zK,↓zJ,↓reduceIte,zA,zB,zC,zD,zE,zF,zG,zH,zI,reduceCtorEq]
     all_goals repeat'(first|(apply zP<;>(intro hg;(try simp only [push_cast]at hg)))|apply And.intro|(intro hg;(try simp only [push_cast]at hg)))
     all_goals first|exact gA|(exact zR (by omega))|skip
     all_goals first|(refine hK _ _ ?_;clear hK K)|(simp only [push_cast];done)
     refine zg fun K5 hK5=> ?_
     refine zg fun K hK=> ?_
     refine zl ?_
     refine zM zQ zO [] rfl ?_
     all_goals simp only [push_cast,↓zK,↓zJ,↓reduceIte,zA,zB,zC,zD,zE,zF,zG,zH,zI,reduceCtorEq]
     all_goals repeat'(first|(apply zP<;>(intro hg;(try simp only [push_cast]at hg)))|apply And.intro|(intro hg;(try simp only [push_cast]at hg)))
     all_goals first|exact gA|(exact zR (by omega))|skip
     all_goals first|(refine hK _ _ ?_;clear hK K)|(simp only [push_cast];done)
     refine qh ?_
     refine ZU [9,14,16,18,19,20,21,32,37,39,40,42,44,45,46,47,75,76,77,78,79,80,81,82,83,84,85,86,87,88,89,90,91,92,93,94,95,96,97,98,99,100,101,102,103,104,105,106,107,108,109,110,111,112,113,114] [224] (fun(k:Nat)=> [(75, .int .i64 k),(9, .sl 144 [] 0 (zh (rcM m (gq (stM a m s i) i)) U9 (stM a m s i) k).1.length 78),(16, .sl 256 [] 0 k 2),(14, .sl 224 [] 0 0 2)]) (fun k=> []) (fun k=> [(144,⟨.ex,78,yj (zh (rcM m (gq (stM a m s i) i)) U9 (stM a m s i) k).1,none⟩),(256,⟨.ex,2,dI (zh (rcM m (gq (stM a m s i) i)) U9 (stM a m s i) k).2,none⟩),(224,⟨.ex,2,dI U9,none⟩)]) (fun k=>mdF (zh (rcM m (gq (stM a m s i) i)) U9 (stM a m s i) k).1 0) (fun k=>k≤U9.length) (fun k=>U9.length - k) 0 ?_ ?_ (by omega) ?_
     ·
      rw [Qk]
      rw [hU9]
      refine zb rfl ?_ ?_ ?_<;>simp only [zj,zi,push_cast,↓zK,↓zJ,↓reduceIte,zA,zB,zC,zD,zE,zF,zG,zH,zI,reduceCtorEq]
      all_goals first|rfl|exact⟨rfl,rfl⟩|exact⟨rfl,rfl,rfl⟩
     ·
      rfl
     ·rintro k hk KL1 hL1
      have hrl:=qn (r:=(rcM m (gq (stM a m s i) i))) (us:=U9) (ps:=(stM a m s i)) (k:=k) hk
      have hfr:=Wn h (i:=i) (k:=k) hi2 (by rw [hU];exact hk)
      rw [hU]at hfr
      have hrr:=VM h (i:=i) (k:=k) hi2 (by rw [hU];exact hk)
      rw [hU]at hrr
      have hrc: ∀p∈(zh (rcM m (gq (stM a m s i) i)) U9 (stM a m s i) k).1,p.record= [gi p.record 0]:=fun p hp=>(hrr p hp).2.2.1
      simp only [push_cast,↓zK,↓zJ,↓reduceIte,zA,zB,zC,zD,zE,zF,zG,zH,zI,reduceCtorEq]
      refine zg fun K hK=> ?_
      refine zl ?_
      refine zM zQ zO [] rfl ?_
      all_goals simp only [push_cast,↓zK,↓zJ,↓reduceIte,zA,zB,zC,zD,zE,zF,zG,zH,zI,reduceCtorEq]
      all_goals repeat'(first|(apply zP<;>(intro hg;(try simp only [push_cast]at hg)))|apply And.intro|(intro hg;(try simp only [push_cast]at hg)))
      all_goals first|exact gA|(exact zR (by omega))|skip
      all_goals first|(refine hK _ _ ?_;clear hK K)|(simp only [push_cast];done)
      refine zg fun K6 hK6=> ?_
      refine xi rfl (fun hc=> ?_) (fun hc=> ?_)
      skip
      ·exfalso;first|(cases hc;done)|(simp only [push_cast]at hc;done)|(simp only [push_cast]at hc;omega)|omega
      refine YB ?_
      have hkk:k=U9.length:=by omega
      subst hkk
      have hst:stM a m s (i+1)=(zh (rcM m (gq (stM a m s i) i)) U9 (stM a m s i) U9.length).1:=by have :=JO (a:=a) (m:=m) (s:=s) hi2;rw [hU]at this;exact this
      have hrw:rwM a m s i=(zh (rcM m (gq (stM a m s i) i)) U9 (stM a m s i) U9.length).2:=by unfold rwM;rw [hU]
      have htk:List.take U9.length (zh (rcM m (gq (stM a m s i) i)) U9 (stM a m s i) U9.length).2=(zh (rcM m (gq (stM a m s i) i)) U9 (stM a m s i) U9.length).2:=List.take_of_length_le (by omega)
      (try simp only [yo,xY,reduceIte,zF]);refine hK5 _ _ ?_
      refine zl ?_
      refine zf false zQ zO ?_ rfl ?_
      ·kernel_rfl
      simp only [push_cast,↓zK,↓zJ,↓reduceIte,zA,zB,zC,zD,zE,zF,zG,zH,zI,reduceCtorEq]
      all_goals repeat'(first|(apply zP<;>(intro hg;(try simp only [push_cast]at hg)))|apply And.intro|(intro hg;(try simp only [push_cast]at hg)))
      all_goals first|exact gA|(exact zR (by omega))|skip
      (try simp only [yo,xY,reduceIte,zF]);refine hK3 _ _ ?_
      refine xN 22 10 (Nat.le_of_ble_eq_true rfl) ?_
      simp only [push_cast,↓zK,↓zJ,↓reduceIte,zA,zB,zC,zD,zE,zF,zG,zH,zI,reduceCtorEq]
      refine zl ?_
      refine zM zQ zO [] rfl ?_
      all_goals simp only [push_cast,↓zK,↓zJ,↓reduceIte,zA,zB,zC,zD,zE,zF,zG,zH,zI,reduceCtorEq]
      all_goals repeat'(first|(apply zP<;>(intro hg;(try simp only [push_cast]at hg)))|apply And.intro|(intro hg;(try simp only [push_cast]at hg)))
      all_goals first|exact gA|(exact zR (by omega))|skip
      refine hL0 _ _ ⟨i+1,(by rw [hst];omega),by omega,?_,?_⟩
      rotate_left
      ·
       rw [hst]
      (try rw [List.take_of_length_le (l:=rsM a m s i) (by omega)])
      (try rw [htk])
      rw [hst,jg,hrw]
      refine zb rfl ?_ ?_ ?_<;>simp only [zj,zi,push_cast,↓zK,↓zJ,↓reduceIte,zA,zB,zC,zD,zE,zF,zG,zH,zI,reduceCtorEq]
      all_goals first|rfl|exact⟨rfl,rfl⟩|skip
   ·
    refine vG ?_
    (try simp only [yo,xY,reduceIte,zF]);refine hK4 _ _ ?_
    have hU:usM a m (gq (stM a m s i) i)=(gl a.next (gq (stM a m s i) i).at_.toNat):=XI (by omega)
    have hU3:(gl a.next (gq (stM a m s i) i).at_.toNat).length≤16:=by rw [←hU];exact hU1
    refine zg fun K hK=> ?_
    refine zl ?_
    refine zM zQ zO [] rfl ?_
    all_goals simp only [push_cast,↓zK,↓zJ,↓reduceIte,zA,zB,zC,zD,zE,zF,zG,zH,zI,reduceCtorEq]
    all_goals repeat'(first|(apply zP<;>(intro hg;(try simp only [push_cast]at hg)))|apply And.intro|(intro hg;(try simp only [push_cast]at hg)))
    all_goals first|exact gA|(exact zR (by omega))|skip
    all_goals first|(refine hK _ _ ?_;clear hK K)|(simp only [push_cast];done)
    refine zg fun K5 hK5=> ?_
    refine zg fun K hK=> ?_
    refine zl ?_
    refine zM zQ zO [] rfl ?_
    all_goals simp only [push_cast,↓zK,↓zJ,↓reduceIte,zA,zB,zC,zD,zE,zF,zG,zH,zI,reduceCtorEq]
    all_goals repeat'(first|(apply zP<;>(intro hg;(try simp only [push_cast]at hg)))|apply And.intro|(intro hg;(try simp only [push_cast]at hg)))
    all_goals first|exact gA|(exact zR (by omega))|skip
    all_goals first|(refine hK _ _ ?_;clear hK K)|(simp only [push_cast];done)
    refine qh ?_
    refine ZU [9,16,18,19,20,21,32,37,39,40,42,44,45,46,47,75,76,77,78,79,80,81,82,83,84,85,86,87,88,89,90,91,92,93,94,95,96,97,98,99,100,101,102,103,104,105,106,107,108,109,110,111,112,113,114] [] (fun(k:Nat)=> [(75, .int .i64 k),(9, .sl 144 [] 0 (zh (rcM m (gq (stM a m s i) i)) (gl a.next (gq (stM a m s i) i).at_.toNat) (stM a m s i) k).1.length 78),(16, .sl 256 [] 0 k 2)]) (fun k=> []) (fun k=> [(144,⟨.ex,78,yj (zh (rcM m (gq (stM a m s i) i)) (gl a.next (gq (stM a m s i) i).at_.toNat) (stM a m s i) k).1,none⟩),(256,⟨.ex,2,dI (zh (rcM m (gq (stM a m s i) i)) (gl a.next (gq (stM a m s i) i).at_.toNat) (stM a m s i) k).2,none⟩)]) (fun k=>mdF (zh (rcM m (gq (stM a m s i) i)) (gl a.next (gq (stM a m s i) i).at_.toNat) (stM a m s i) k).1 0) (fun k=>k≤(gl a.next (gq (stM a m s i) i).at_.toNat).length) (fun k=>(gl a.next (gq (stM a m s i) i).at_.toNat).length - k) 0 ?_ ?_ (by omega) ?_
    ·
     rw [Qk]
     refine zb rfl ?_ ?_ ?_<;>simp only [zj,zi,push_cast,↓zK,↓zJ,↓reduceIte,zA,zB,zC,zD,zE,zF,zG,zH,zI,reduceCtorEq]
     all_goals first|rfl|exact⟨rfl,rfl⟩|exact⟨rfl,rfl,rfl⟩
    ·
     rfl
    ·rintro k hk KL1 hL1
     have hrl:=qn (r:=(rcM m (gq (stM a m s i) i))) (us:=(gl a.next (gq (stM a m s i) i).at_.toNat)) (ps:=(stM a m s i)) (k:=k) hk
     have hfr:=Wn h (i:=i) (k:=k) hi2 (by rw [hU];exact hk)
     rw [hU]at hfr
     have hrr:=VM h (i:=i) (k:=k) hi2 (by rw [hU];exact hk)
     rw [hU]at hrr
     have hrc: ∀p∈(zh (rcM m (gq (stM a m s i) i)) (gl a.next (gq (stM a m s i) i).at_.toNat) (stM a m s i) k).1,p.record= [gi p.record 0]:=fun p hp=>(hrr p hp).2.2.1
     simp only [push_cast,↓zK,↓zJ,↓reduceIte,zA,zB,zC,zD,zE,zF,zG,zH,zI,reduceCtorEq]
     refine zg fun K hK=> ?_
     refine zl ?_
     refine zM zQ zO [] rfl ?_
     all_goals simp only [push_cast,↓zK,↓zJ,↓reduceIte,zA,zB,zC,zD,zE,zF,zG,zH,zI,reduceCtorEq]
     all_goals repeat'(first|(apply zP<;>(intro hg;(try simp only [push_cast]at hg)))|apply And.intro|(intro hg;(try simp only [push_cast]at hg)))
     all_goals first|exact gA|(exact zR (by omega))|skip
     all_goals first|(refine hK _ _ ?_;clear hK K)|(simp only [push_cast];done)
     refine zg fun K6 hK6=> ?_
     refine xi rfl (fun hc=> ?_) (fun hc=> ?_)<;>(try simp only [push_cast]at hc)
     ·
      refine vG ?_
      (try simp only [yo,xY,reduceIte,zF]);refine hK6 _ _ ?_
      refine zg fun K7 hK7=> ?_
      refine qh ?_
      refine zg fun K hK=> ?_
      refine zl ?_
      refine zM zQ zO [] rfl ?_
      all_goals simp only [push_cast,↓zK,↓zJ,↓reduceIte,zA,zB,zC,zD,zE,zF,zG,zH,zI,reduceCtorEq]
      all_goals repeat'(first|(apply zP<;>(intro hg;(try simp only [push_cast]at hg)))|apply And.intro|(intro hg;(try simp only [push_cast]at hg)))
      all_goals first|exact gA|(exact zR (by omega))|skip
      all_goals first|(refine hK _ _ ?_;clear hK K)|(simp only [push_cast];done)
      refine zg fun K hK=> ?_
      refine xj zQ zO Zk [] rfl ?_
      all_goals simp only [push_cast,↓zK,↓zJ,↓reduceIte,zA,zB,zC,zD,zE,zF,zG,zH,zI,reduceCtorEq]
      all_goals repeat'(first|(apply zP<;>(intro hg;(try simp only [push_cast]at hg)))|apply And.intro|(intro hg;(try simp only [push_cast]at hg)))
      all_goals first|exact gA|exact⟨_,rfl⟩|(exact zR (by omega))|skip
      all_goals first|(refine hK _ _ ?_;clear hK K)|(simp only [push_cast];done)
      by_cases hx:ixQ (yD (gi (gl a.next (gq (stM a m s i) i).at_.toNat) k) (rcM m (gq (stM a m s i) i))) (zh (rcM m (gq (stM a m s i) i)) (gl a.next (gq (stM a m s i) i).at_.toNat) (stM a m s i) k).1<0
      ·
       have hlk:lkM (mdF (zh (rcM m (gq (stM a m s i) i)) (gl a.next (gq (stM a m s i) i).at_.toNat) (stM a m s i) k).1 0) ((gi (gl a.next (gq (stM a m s i) i).at_.toNat) k),(gi (gl m.next (gi (gq (stM a m s i) i).record 0).toNat) (gq (stM a m s i) i).at_.toNat))=none:=zEP hrc hx
       refine zg fun K hK=> ?_
       refine xj zQ zO Zk [] rfl ?_
       all_goals simp only [push_cast,↓zK,↓zJ,↓reduceIte,zA,zB,zC,zD,zE,zF,zG,zH,zI,reduceCtorEq]
       all_goals repeat'(first|(apply zP<;>(intro hg;(try simp only [push_cast]at hg)))|apply And.intro|(intro hg;(try simp only [push_cast]at hg)))
       all_goals first|exact gA|exact⟨_,rfl⟩|(exact zR (by omega))|skip
       all_goals first|(refine hK _ _ ?_;clear hK K)|(simp only [push_cast];done)
       all_goals rw [hlk]
       all_goals simp only [Option.getD_none,Option.isSome_none]
       refine zg fun K8 hK8=> ?_
       refine zg fun K hK=> ?_
       refine zl ?_
       refine zM zQ zO [] rfl ?_
       all_goals simp only [push_cast,↓zK,↓zJ,↓reduceIte,zA,zB,zC,zD,zE,zF,zG,zH,zI,reduceCtorEq]
       all_goals repeat'(first|(apply zP<;>(intro hg;(try simp only [push_cast]at hg)))|apply And.intro|(intro hg;(try simp only [push_cast]at hg)))
       all_goals first|exact gA|(exact zR (by omega))|skip
       all_goals first|(refine hK _ _ ?_;clear hK K)|(simp only [push_cast];done)
       refine xi rfl (fun hc=> ?_) (fun hc=> ?_)
       rotate_left
       ·exfalso;first|(cases hc;done)|(simp only [push_cast]at hc;done)|(simp only [push_cast]at hc;omega)|omega
       refine zg fun K hK=> ?_
       refine zl ?_
       refine zM zQ zO [] rfl ?_
       all_goals simp only [push_cast,↓zK,↓zJ,↓reduceIte,zA,zB,zC,zD,zE,zF,zG,zH,zI,reduceCtorEq]
       all_goals repeat'(first|(apply zP<;>(intro hg;(try simp only [push_cast]at hg)))|apply And.intro|(intro hg;(try simp only [push_cast]at hg)))
       all_goals first|exact gA|(exact zR (by omega))|skip
       all_goals first|(refine hK _ _ ?_;clear hK K)|(simp only [push_cast];done)
       refine zg fun K hK=> ?_
       refine xj zQ zO Zk [] rfl ?_
       all_goals simp only [push_cast,↓zK,↓zJ,↓reduceIte,zA,zB,zC,zD,zE,zF,zG,zH,zI,reduceCtorEq]
       all_goals repeat'(first|(apply zP<;>(intro hg;(try simp only [push_cast]at hg)))|apply And.intro|(intro hg;(try simp only [push_cast]at hg)))
       all_goals first|exact gA|exact⟨_,rfl⟩|(exact zR (by omega))|skip
       all_goals first|(refine hK _ _ ?_;clear hK K)|(simp only [push_cast];done)
       refine QK false 4 zQ zO Zk ?_ rfl (by decide) ?_
       ·kernel_rfl
       all_goals simp only [push_cast,↓zK,↓zJ,↓reduceIte,zA,zB,zC,zD,zE,zF,zG,zH,zI,reduceCtorEq]
       all_goals repeat'(first|(apply zP<;>(intro hg;(try simp only [push_cast]at hg)))|apply And.intro|(intro hg;(try simp only [push_cast]at hg)))
       all_goals first|exact gA|exact⟨_,rfl⟩|(exact zR (by omega))|skip
       (try simp only [yo,xY,reduceIte,zF]);refine hK8 _ _ ?_
       refine xN 78 9 (Nat.le_of_ble_eq_true rfl) ?_
       simp only [push_cast,↓zK,↓zJ,↓reduceIte,zA,zB,zC,zD,zE,zF,zG,zH,zI,reduceCtorEq]
       refine zl ?_
       refine zM zQ zO [] rfl ?_
       all_goals simp only [push_cast,↓zK,↓zJ,↓reduceIte,zA,zB,zC,zD,zE,zF,zG,zH,zI,reduceCtorEq]
       all_goals repeat'(first|(apply zP<;>(intro hg;(try simp only [push_cast]at hg)))|apply And.intro|(intro hg;(try simp only [push_cast]at hg)))
       all_goals first|exact gA|(exact zR (by omega))|skip
       (try simp only [yo,xY,reduceIte,zF]);refine hK7 _ _ ?_
       refine zl ?_
       refine zM zQ zO [] rfl ?_
       all_goals simp only [push_cast,↓zK,↓zJ,↓reduceIte,zA,zB,zC,zD,zE,zF,zG,zH,zI,reduceCtorEq]
       all_goals repeat'(first|(apply zP<;>(intro hg;(try simp only [push_cast]at hg)))|apply And.intro|(intro hg;(try simp only [push_cast]at hg)))
       all_goals first|exact gA|(exact zR (by omega))|skip
       refine hL1 _ _ ⟨k+1,by omega,by omega,?_,?_⟩
       rotate_left
       ·
        rw [qH (by omega) hx,KB,Nat.zero_add];rfl
       (try rw [List.take_of_length_le (l:=(zh (rcM m (gq (stM a m s i) i)) (gl a.next (gq (stM a m s i) i).at_.toNat) (stM a m s i) k).2) (by omega)])
       rw [qH (by omega) hx]
       refine zb rfl ?_ ?_ ?_<;>simp only [zj,zi,push_cast,↓zK,↓zJ,↓reduceIte,zA,zB,zC,zD,zE,zF,zG,zH,zI,reduceCtorEq]
       all_goals first|rfl|(rw [List.length_append];rfl)|exact⟨rfl,rfl⟩|skip
      ·
       have hlk:lkM (mdF (zh (rcM m (gq (stM a m s i) i)) (gl a.next (gq (stM a m s i) i).at_.toNat) (stM a m s i) k).1 0) ((gi (gl a.next (gq (stM a m s i) i).at_.toNat) k),(gi (gl m.next (gi (gq (stM a m s i) i).record 0).toNat) (gq (stM a m s i) i).at_.toNat))=some (ixQ (yD (gi (gl a.next (gq (stM a m s i) i).at_.toNat) k) (rcM m (gq (stM a m s i) i))) (zh (rcM m (gq (stM a m s i) i)) (gl a.next (gq (stM a m s i) i).at_.toNat) (stM a m s i) k).1):=zCF hrc hx
       refine zg fun K hK=> ?_
       refine xj zQ zO Zk [] rfl ?_
       all_goals simp only [push_cast,↓zK,↓zJ,↓reduceIte,zA,zB,zC,zD,zE,zF,zG,zH,zI,reduceCtorEq]
       all_goals repeat'(first|(apply zP<;>(intro hg;(try simp only [push_cast]at hg)))|apply And.intro|(intro hg;(try simp only [push_cast]at hg)))
       all_goals first|exact gA|exact⟨_,rfl⟩|(exact zR (by omega))|skip
       all_goals first|(refine hK _ _ ?_;clear hK K)|(simp only [push_cast];done)
       all_goals rw [hlk]
       all_goals simp only [Option.getD_some,Option.isSome_some]
       refine zg fun K8 hK8=> ?_
       refine zg fun K hK=> ?_
       refine zl ?_
       refine zM zQ zO [] rfl ?_
       all_goals simp only [push_cast,↓zK,↓zJ,↓reduceIte,zA,zB,zC,zD,zE,zF,zG,zH,zI,reduceCtorEq]
       all_goals repeat'(first|(apply zP<;>(intro hg;(try simp only [push_cast]at hg)))|apply And.intro|(intro hg;(try simp only [push_cast]at hg)))
       all_goals first|exact gA|(exact zR (by omega))|skip
       all_goals first|(refine hK _ _ ?_;clear hK K)|(simp only [push_cast];done)
       refine xi rfl (fun hc=> ?_) (fun hc=> ?_)
       skip
       ·exfalso;first|(cases hc;done)|(simp only [push_cast]at hc;done)|(simp only [push_cast]at hc;omega)|omega
       refine vG ?_
       (try simp only [yo,xY,reduceIte,zF]);refine hK8 _ _ ?_
       refine xN 78 9 (Nat.le_of_ble_eq_true rfl) ?_
       simp only [push_cast,↓zK,↓zJ,↓reduceIte,zA,zB,zC,zD,zE,zF,zG,zH,zI,reduceCtorEq]
       refine zl ?_
       refine zM zQ zO [] rfl ?_
       all_goals simp only [push_cast,↓zK,↓zJ,↓reduceIte,zA,zB,zC,zD,zE,zF,zG,zH,zI,reduceCtorEq]
       all_goals repeat'(first|(apply zP<;>(intro hg;(try simp only [push_cast]at hg)))|apply And.intro|(intro hg;(try simp only [push_cast]at hg)))
       all_goals first|exact gA|(exact zR (by omega))|skip
       (try simp only [yo,xY,reduceIte,zF]);refine hK7 _ _ ?_
       refine zl ?_
       refine zM zQ zO [] rfl ?_
       all_goals simp only [push_cast,↓zK,↓zJ,↓reduceIte,zA,zB,zC,zD,zE,zF,zG,zH,zI,reduceCtorEq]
       all_goals repeat'(first|(apply zP<;>(intro hg;(try simp only [push_cast]at hg)))|apply And.intro|(intro hg;(try simp only [push_cast]at hg)))
       all_goals first|exact gA|(exact zR (by omega))|skip
       refine hL1 _ _ ⟨k+1,by omega,by omega,?_,?_⟩
       rotate_left
       ·
        rw [qI (by omega) hx]
       (try rw [List.take_of_length_le (l:=(zh (rcM m (gq (stM a m s i) i)) (gl a.next (gq (stM a m s i) i).at_.toNat) (stM a m s i) k).2) (by omega)])
       rw [qI (by omega) hx]
       refine zb rfl ?_ ?_ ?_<;>simp only [zj,zi,push_cast,↓zK,↓zJ,↓reduceIte,zA,zB,zC,zD,zE,zF,zG,zH,zI,reduceCtorEq]
       all_goals first|rfl|(rw [List.length_append];rfl)|exact⟨rfl,rfl⟩|skip
     ·
      refine YB ?_
      have hkk:k=(gl a.next (gq (stM a m s i) i).at_.toNat).length:=by omega
      subst hkk
      have hst:stM a m s (i+1)=(zh (rcM m (gq (stM a m s i) i)) (gl a.next (gq (stM a m s i) i).at_.toNat) (stM a m s i) (gl a.next (gq (stM a m s i) i).at_.toNat).length).1:=by have :=JO (a:=a) (m:=m) (s:=s) hi2;rw [hU]at this;exact this
      have hrw:rwM a m s i=(zh (rcM m (gq (stM a m s i) i)) (gl a.next (gq (stM a m s i) i).at_.toNat) (stM a m s i) (gl a.next (gq (stM a m s i) i).at_.toNat).length).2:=by unfold rwM;rw [hU]
      have htk:List.take (gl a.next (gq (stM a m s i) i).at_.toNat).length (zh (rcM m (gq (stM a m s i) i)) (gl a.next (gq (stM a m s i) i).at_.toNat) (stM a m s i) (gl a.next (gq (stM a m s i) i).at_.toNat).length).2=(zh (rcM m (gq (stM a m s i) i)) (gl a.next (gq (stM a m s i) i).at_.toNat) (stM a m s i) (gl a.next (gq (stM a m s i) i).at_.toNat).length).2:=List.take_of_length_le (by omega)
      (try simp only [yo,xY,reduceIte,zF]);refine hK5 _ _ ?_
      refine zl ?_
      refine zf false zQ zO ?_ rfl ?_
      ·kernel_rfl
      simp only [push_cast,↓zK,↓zJ,↓reduceIte,zA,zB,zC,zD,zE,zF,zG,zH,zI,reduceCtorEq]
      all_goals repeat'(first|(apply zP<;>(intro hg;(try simp only [push_cast]at hg)))|apply And.intro|(intro hg;(try simp only [push_cast]at hg)))
      all_goals first|exact gA|(exact zR (by omega))|skip
      (try simp only [yo,xY,reduceIte,zF]);refine hK3 _ _ ?_
      refine xN 22 10 (Nat.le_of_ble_eq_true rfl) ?_
      simp only [push_cast,↓zK,↓zJ,↓reduceIte,zA,zB,zC,zD,zE,zF,zG,zH,zI,reduceCtorEq]
      refine zl ?_
      refine zM zQ zO [] rfl ?_
      all_goals simp only [push_cast,↓zK,↓zJ,↓reduceIte,zA,zB,zC,zD,zE,zF,zG,zH,zI,reduceCtorEq]
      all_goals repeat'(first|(apply zP<;>(intro hg;(try simp only [push_cast]at hg)))|apply And.intro|(intro hg;(try simp only [push_cast]at hg)))
      all_goals first|exact gA|(exact zR (by omega))|skip
      refine hL0 _ _ ⟨i+1,(by rw [hst];omega),by omega,?_,?_⟩
      rotate_left
      ·
       rw [hst]
      (try rw [List.take_of_length_le (l:=rsM a m s i) (by omega)])
      (try rw [htk])
      rw [hst,jg,hrw]
      refine zb rfl ?_ ?_ ?_<;>simp only [zj,zi,push_cast,↓zK,↓zJ,↓reduceIte,zA,zB,zC,zD,zE,zF,zG,zH,zI,reduceCtorEq]
      all_goals first|rfl|exact⟨rfl,rfl⟩|skip
  ·
   refine YB ?_
   (try simp only [yo,xY,reduceIte,zF]);refine hK1 _ _ ?_
   refine zg fun K hK=> ?_
   refine zl ?_
   refine zM zQ zO [] rfl ?_
   all_goals simp only [push_cast,↓zK,↓zJ,↓reduceIte,zA,zB,zC,zD,zE,zF,zG,zH,zI,reduceCtorEq]
   all_goals repeat'(first|(apply zP<;>(intro hg;(try simp only [push_cast]at hg)))|apply And.intro|(intro hg;(try simp only [push_cast]at hg)))
   all_goals first|exact gA|(exact zR (by omega))|skip
   all_goals first|(refine hK _ _ ?_;clear hK K)|(simp only [push_cast];done)
   refine zDB ?_
   (try simp only [yo,xY])
   refine⟨Or.inl rfl,?_⟩
   simp only [ze,qY,Zs,push_cast,↓zK,↓zJ,↓reduceIte,zA,zB,zC,zD,zE,zF,zG,zH,zI,reduceCtorEq]
   have hE:=zA0 h (by omega) (show ¬i<(stM a m s i).length by omega)
   rw [hE,show(stM a m s i).length=i by omega,hrs]
   all_goals first|rfl|exact⟨⟨rfl,rfl⟩,rfl,rfl⟩|skip
theorem zFS {a:Ar}{m:Me}{s:Int}(h:(ym a&&vh a m)=false):mmB a m s=false:=by unfold mmB;rw [h];rfl
theorem zFG {ps qs:List Plc}{i:Nat}(h:i<ps.length):gq (ps++qs) i=gq ps i:=by
 unfold gq
 rw [List.getD_eq_getElem?_getD,List.getElem?_append_left h,List.getD_eq_getElem?_getD]
theorem uW {r us:List Int}{ps:List Plc}{i:Nat}(hi:i<ps.length): ∀{k:Nat},k≤us.length→gq (zh r us ps k).1 i=gq ps i
 |0,_=>rfl
 |k+1,h=>by
  have h1:=uW (r:=r) (us:=us) hi (k:=k) (by omega)
  have h3:=(qn (r:=r) (us:=us) (ps:=ps) (k:=k) (by omega)).2.1
  by_cases h2:ixQ (yD (gi us k) r) (zh r us ps k).1<0
  ·rw [qH (by omega) h2]
   show gq ((zh r us ps k).1++ [_]) i=_
   rw [zFG (by omega)];exact h1
  ·rw [qI (by omega) h2];exact h1
section
variable {us rc:Plc→List Int} {p0:Plc}
theorem zAV {i:Nat}{k:Nat}(hk:k<(stQ us rc p0 i).length): ∀d,gq (stQ us rc p0 (i+d)) k=gq (stQ us rc p0 i) k
 |0=>rfl
 |d+1=>by
  have ih:=zAV hk d
  have hm:=ui (us:=us) (rc:=rc) (p0:=p0) (i:=i) (j:=i+d) (by omega)
  by_cases h:i+d<(stQ us rc p0 (i+d)).length
  ·rw [show i+(d+1)=i+d+1 from rfl,JP h]
   rw [show rowQ us rc p0 (i+d) (us (plQ us rc p0 (i+d))).length=zh (rc (gq (stQ us rc p0 (i+d)) (i+d))) (us (gq (stQ us rc p0 (i+d)) (i+d))) (stQ us rc p0 (i+d)) (us (gq (stQ us rc p0 (i+d)) (i+d))).length from rfl]
   rw [uW (by omega) (Nat.le_refl _)]
   exact ih
  ·rw [show i+(d+1)=i+d+1 from rfl,Zv h]
   exact ih
end
section
variable {O:List Int} {n:Nat} {ps:List Plc} {X:Plc→Int} {N:Nat→List (List Int)}
end
section
variable {a:Ar} {m:Me} {s:Int}
attribute [local irreducible] stM
end
end Go.Proofs.Ytggpbepdeilpgaa
