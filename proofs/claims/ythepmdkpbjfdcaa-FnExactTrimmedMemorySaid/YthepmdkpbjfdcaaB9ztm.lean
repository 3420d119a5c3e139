/- the places of a memory: the reference's walk -/
import Derived.Test.YthepmdkpbjfdcaaB8ztm
import Derived.Test.YthepmdkpbjfdcaaGDztm
import Derived.Test.YthepmdkpbjfdcaaB6ztm
namespace Go.Proofs.Ythepmdkpbjfdcaa
open Nat renaming reduceMod → zA, reduceMul → zB, reduceDiv → zC, reduceAdd → zD, reduceSub → zE, reduceEqDiff → zF, reduceBEq → zG, reduceLT → zH, reduceLeDiff → zI
open Go.RowKit
set_option linter.unusedVariables false
set_option linter.unusedSimpArgs false
def qp (N j:Nat):List Int:=(List.range N).map fun i=>if i<j then -1 else 0
theorem Xk (N j:Nat):(qp N j).length=N:=by simp [qp]
theorem Wl (N:Nat):qp N 0=List.replicate N 0:=by
 unfold qp
 rw [List.eq_replicate_iff]
 refine⟨by simp,fun b hb=> ?_⟩
 obtain⟨i,-,rfl⟩:=List.mem_map.1 hb
 rw [if_neg (by omega)]
theorem Xl {N j:Nat}(h:j<N):(qp N j).set j (-1)=qp N (j+1):=by
 refine List.ext_getElem? fun i=> ?_
 rw [List.getElem?_set]
 unfold qp
 rw [List.length_map,List.length_range,List.getElem?_map,List.getElem?_map]
 by_cases e:j=i
 ·subst e;rw [if_pos rfl,if_pos h,List.getElem?_range h];simp
 ·rw [if_neg e]
  by_cases h2:i<N
  ·rw [List.getElem?_range h2]
   simp only [Option.map_some]
   by_cases h3:i<j
   ·rw [if_pos h3,if_pos (by omega)]
   ·rw [if_neg h3,if_neg (by omega)]
  ·rw [List.getElem?_eq_none (by simp;omega)];rfl
theorem Ux (n k:Nat):qp (n*k) (n*k)=whV n k []:=by
 unfold qp whV
 refine List.map_congr_left fun i hi=> ?_
 rw [if_pos (List.mem_range.1 hi),Wn]
theorem zAg {n k:Nat}{s:Int}(hs:0≤s∧s<n)(hk:1≤k):(whV n k []).set s.toNat 0=whV n k [⟨s,[0]⟩]:=by
 have :=uV (n:=n) (k:=k) (ps:= []) (u:=s) (t:=0) hs (by omega) (by rw [Wn];decide)
 rw [Int.zero_mul,Int.zero_add]at this
 exact this
theorem mulT {t n:Int}(h:0≤t∧t≤24)(h2:0≤n∧n≤256):0≤t*n∧t*n≤6144:=by
 have h3:=Int.mul_nonneg h.1 h2.1
 have h4:=Int.mul_le_mul h.2 h2.2 h2.1 (by decide)
 exact⟨h3,by omega⟩
set_option maxRecDepth 20000 in
set_option maxHeartbeats 8000000 in
theorem UC (a:Ar)(ha:a.Ln 1048576)(m:Me)(hm:m.Ln 1048576)(s:Int)(h:MmI a m s):Fn Try.prog tyT 67 [.agg (dAr a), .agg (dMe m), .c (.int .i64 s)] [.c (.lst 102 (yd (stM a m s 6145))), .c (DII (rsM a m s (stM a m s 6145).length))]:=by
 have hno:=ha.owner
 have hnn:=ha.next.1
 have hrr9: ∀v,(gl a.next v).length≤1048576:=fun v=>wW ha.next v
 unfold LnI at hno
 have hal:=yc h.ar
 obtain⟨hk0,hkm⟩:=xg h.mem
 have hs0:=h.st
 have hnk0:a.owner.length*m.next.length≤256*24:=Nat.mul_le_mul (by omega) (by omega)
 have hnk1:a.owner.length*1≤a.owner.length*m.next.length:=Nat.mul_le_mul_left _ (by omega)
 have hcast:(((a.owner.length*m.next.length):Nat):Int)=(a.owner.length:Int)*m.next.length:=by push_cast
 have hcn:((a.owner.length:Int)*m.next.length).toNat=(a.owner.length*m.next.length):=by rw [←hcast];exact Int.toNat_natCast _
 unfold dAr dMe
 refine yT (fn:=Try.f67) (ts:= [6,7]) Try.func67 (by kernel_rfl) rfl rfl (by rw [Try.ntmps67];exact Nat.le_of_ble_eq_true rfl) rfl (by simp only [szA,List.mem_cons,List.not_mem_nil,or_false,forall_eq_or_imp,forall_eq,VT.cells,szL];try decide) ?_
 rw [Try.ntmps67]
 simp only [push_cast,↓zK,↓zJ,↓reduceIte,zA,zB,zC,zD,zE,zF,zG,zH,zI,reduceCtorEq]
 refine zM fun K hK=> ?_
 refine zL zO zN [] rfl ?_
 all_goals simp only [push_cast,↓zK,↓zJ,↓reduceIte,zA,zB,zC,zD,zE,zF,zG,zH,zI,reduceCtorEq]
 all_goals repeat'(first|(apply zP<;>(intro hg;(try simp only [push_cast]at hg)))|apply And.intro|(intro hg;(try simp only [push_cast]at hg)))
 all_goals first|exact gA|(exact zR (by omega))|skip
 all_goals first|(refine hK _ ?_;clear hK K)|(simp only [push_cast];done)
 refine zM fun K hK=> ?_
 refine zL zO zN [] rfl ?_
 all_goals simp only [push_cast,↓zK,↓zJ,↓reduceIte,zA,zB,zC,zD,zE,zF,zG,zH,zI,reduceCtorEq]
 all_goals repeat'(first|(apply zP<;>(intro hg;(try simp only [push_cast]at hg)))|apply And.intro|(intro hg;(try simp only [push_cast]at hg)))
 all_goals first|exact gA|(exact zR (by omega))|skip
 all_goals first|(refine hK _ ?_;clear hK K)|(simp only [push_cast];done)
 refine zM fun K hK=> ?_
 refine zL zO zN [] rfl ?_
 all_goals simp only [push_cast,↓zK,↓zJ,↓reduceIte,zA,zB,zC,zD,zE,zF,zG,zH,zI,reduceCtorEq]
 all_goals repeat'(first|(apply zP<;>(intro hg;(try simp only [push_cast]at hg)))|apply And.intro|(intro hg;(try simp only [push_cast]at hg)))
 all_goals first|exact gA|(exact zR (by omega))|skip
 all_goals first|(refine hK _ ?_;clear hK K)|(simp only [push_cast];done)
 refine zM fun K1 hK1=> ?_
 refine zM fun K hK=> ?_
 refine zL zO zN [] rfl ?_
 all_goals simp only [push_cast,↓zK,↓zJ,↓reduceIte,zA,zB,zC,zD,zE,zF,zG,zH,zI,reduceCtorEq]
 all_goals repeat'(first|(apply zP<;>(intro hg;(try simp only [push_cast]at hg)))|apply And.intro|(intro hg;(try simp only [push_cast]at hg)))
 all_goals first|exact gA|(exact zR (by omega))|skip
 all_goals first|(refine hK _ ?_;clear hK K)|(simp only [push_cast];done)
 refine zZ ?_
 refine zo [10,29,30,31,32,33,34,35,36,37] [144] (fun(j:Nat)=> [(10, .int .i64 j)]) (fun j=> []) (fun j=> [(144,⟨.ex,2,dI (qp (a.owner.length*m.next.length) j),none⟩)]) (fun j=>j≤(a.owner.length*m.next.length)) (fun j=>(a.owner.length*m.next.length) - j) 0 ?_ (by omega) ?_
 ·
  rw [Wl]
  refine zd rfl ?_ ?_ ?_<;>simp only [zl,zk,push_cast,↓zK,↓zJ,↓reduceIte,zA,zB,zC,zD,zE,zF,zG,zH,zI,reduceCtorEq]
  all_goals first|rfl|skip
 ·rintro j hj KL0 hL0
  have hfl:=Xk (a.owner.length*m.next.length) j
  simp only [push_cast,↓zK,↓zJ,↓reduceIte,zA,zB,zC,zD,zE,zF,zG,zH,zI,reduceCtorEq]
  refine zM fun K2 hK2=> ?_
  refine zM fun K hK=> ?_
  refine zL zO zN [] rfl ?_
  all_goals simp only [push_cast,↓zK,↓zJ,↓reduceIte,zA,zB,zC,zD,zE,zF,zG,zH,zI,reduceCtorEq]
  all_goals repeat'(first|(apply zP<;>(intro hg;(try simp only [push_cast]at hg)))|apply And.intro|(intro hg;(try simp only [push_cast]at hg)))
  all_goals first|exact gA|(exact zR (by omega))|skip
  all_goals first|(refine hK _ ?_;clear hK K)|(simp only [push_cast];done)
  refine zU rfl (fun hc=> ?_) (fun hc=> ?_)<;>(try simp only [push_cast]at hc)
  ·
   refine zV ?_
   (try simp only [zS,zT,reduceIte,zF]);refine hK2 _ ?_
   refine zM fun K3 hK3=> ?_
   refine zZ ?_
   refine zL zO zN [] rfl ?_
   all_goals simp only [push_cast,↓zK,↓zJ,↓reduceIte,zA,zB,zC,zD,zE,zF,zG,zH,zI,reduceCtorEq]
   all_goals repeat'(first|(apply zP<;>(intro hg;(try simp only [push_cast]at hg)))|apply And.intro|(intro hg;(try simp only [push_cast]at hg)))
   all_goals first|exact gA|(exact zR (by omega))|skip
   (try simp only [zS,zT,reduceIte,zF]);refine hK3 _ ?_
   refine zL zO zN [] rfl ?_
   all_goals simp only [push_cast,↓zK,↓zJ,↓reduceIte,zA,zB,zC,zD,zE,zF,zG,zH,zI,reduceCtorEq]
   all_goals repeat'(first|(apply zP<;>(intro hg;(try simp only [push_cast]at hg)))|apply And.intro|(intro hg;(try simp only [push_cast]at hg)))
   all_goals first|exact gA|(exact zR (by omega))|skip
   refine hL0 _ ⟨j+1,by omega,by omega,?_⟩
   rw [←Xl (by omega)]
   refine zd rfl ?_ ?_ ?_<;>simp only [zl,zk,push_cast,↓zK,↓zJ,↓reduceIte,zA,zB,zC,zD,zE,zF,zG,zH,zI,reduceCtorEq]
   all_goals first|rfl|skip
  ·
   refine zr ?_
   have hjj:j=(a.owner.length*m.next.length):=by omega
   subst hjj
   rw [Ux]
   have hwl0:=Qc a.owner.length m.next.length []
   (try simp only [zS,zT,reduceIte,zF]);refine hK1 _ ?_
   refine zM fun K hK=> ?_
   refine zp false zO zN ?_ rfl ?_
   ·kernel_rfl
   simp only [push_cast,↓zK,↓zJ,↓reduceIte,zA,zB,zC,zD,zE,zF,zG,zH,zI,reduceCtorEq]
   all_goals repeat'(first|(apply zP<;>(intro hg;(try simp only [push_cast]at hg)))|apply And.intro|(intro hg;(try simp only [push_cast]at hg)))
   all_goals first|exact gA|(exact zR (by omega))|skip
   all_goals first|(refine hK _ ?_;clear hK K)|(simp only [push_cast];done)
   refine wx 102 11 (Nat.le_of_ble_eq_true rfl) ?_
   simp only [push_cast,↓zK,↓zJ,↓reduceIte,zA,zB,zC,zD,zE,zF,zG,zH,zI,reduceCtorEq]
   refine zM fun K hK=> ?_
   refine zL zO zN [] rfl ?_
   all_goals simp only [push_cast,↓zK,↓zJ,↓reduceIte,zA,zB,zC,zD,zE,zF,zG,zH,zI,reduceCtorEq]
   all_goals repeat'(first|(apply zP<;>(intro hg;(try simp only [push_cast]at hg)))|apply And.intro|(intro hg;(try simp only [push_cast]at hg)))
   all_goals first|exact gA|(exact zR (by omega))|skip
   all_goals first|(refine hK _ ?_;clear hK K)|(simp only [push_cast];done)
   refine zM fun K hK=> ?_
   refine zp false zO zN ?_ rfl ?_
   ·kernel_rfl
   simp only [push_cast,↓zK,↓zJ,↓reduceIte,zA,zB,zC,zD,zE,zF,zG,zH,zI,reduceCtorEq]
   all_goals repeat'(first|(apply zP<;>(intro hg;(try simp only [push_cast]at hg)))|apply And.intro|(intro hg;(try simp only [push_cast]at hg)))
   all_goals first|exact gA|(exact zR (by omega))|skip
   all_goals first|(refine hK _ ?_;clear hK K)|(simp only [push_cast];done)
   refine zM fun K4 hK4=> ?_
   refine wx 22 12 (Nat.le_of_ble_eq_true rfl) ?_
   simp only [push_cast,↓zK,↓zJ,↓reduceIte,zA,zB,zC,zD,zE,zF,zG,zH,zI,reduceCtorEq]
   refine zM fun K hK=> ?_
   refine zL zO zN [] rfl ?_
   all_goals simp only [push_cast,↓zK,↓zJ,↓reduceIte,zA,zB,zC,zD,zE,zF,zG,zH,zI,reduceCtorEq]
   all_goals repeat'(first|(apply zP<;>(intro hg;(try simp only [push_cast]at hg)))|apply And.intro|(intro hg;(try simp only [push_cast]at hg)))
   all_goals first|exact gA|(exact zR (by omega))|skip
   all_goals first|(refine hK _ ?_;clear hK K)|(simp only [push_cast];done)
   refine zZ ?_
   refine zo [11,12,13,14,15,16,17,18,19,46,47,48,49,50,51,52,53,54,55,56,57,58,59,60,61,62,63,64,65,66,67,68,69,70,71,72,73,74,75,76,77,78,79,80,81,82,83,84,85,86,87,88,89,90,91,92,93,94,95,96,97,98,99,100,101,102,103,104,105,106,107,108,109,110,111,112,113,114,115,116,117,118,119,120,121,122,123,124,125,126,127,128] [144] (fun(i:Nat)=> [(13, .int .i64 i),(11, .sl 176 [] 0 (stM a m s i).length 102),(12, .sl 192 [] 0 i 22)]) (fun i=> []) (fun i=> [(176,⟨.ex,102,yd (stM a m s i),none⟩),(192,⟨.ex,22,dII (rsM a m s i),none⟩),(144,⟨.ex,2,dI (whV a.owner.length m.next.length (stM a m s i)),none⟩)]) (fun i=>i≤(stM a m s i).length) (fun i=>6145 - i) 0 ?_ (by show 0≤1;decide) ?_
   ·
    rw [show stM a m s 0= [⟨s,[0]⟩]from rfl,zBx,←zAg hs0 hk0.1]
    refine zd rfl ?_ ?_ ?_<;>simp only [zl,zk,push_cast,↓zK,↓zJ,↓reduceIte,zA,zB,zC,zD,zE,zF,zG,zH,zI,reduceCtorEq]
    all_goals first|exact⟨rfl,rfl⟩|exact⟨rfl,rfl,rfl⟩|rfl|skip
   ·rintro i hi KL1 hL1
    have hfew:=KO h i
    have hrs:=uT a m s i
    have hwl1:=Qc a.owner.length m.next.length (stM a m s i)
    have hq:QLn 1048576 (stM a m s i):=⟨by omega,fun p hp=>by rw [(qj h i p hp).2.2.1];show 1≤1048576;decide⟩
    simp only [push_cast,↓zK,↓zJ,↓reduceIte,zA,zB,zC,zD,zE,zF,zG,zH,zI,reduceCtorEq]
    refine zM fun K5 hK5=> ?_
    refine zM fun K hK=> ?_
    refine zL zO zN [] rfl ?_
    all_goals simp only [push_cast,↓zK,↓zJ,↓reduceIte,zA,zB,zC,zD,zE,zF,zG,zH,zI,reduceCtorEq]
    all_goals repeat'(first|(apply zP<;>(intro hg;(try simp only [push_cast]at hg)))|apply And.intro|(intro hg;(try simp only [push_cast]at hg)))
    all_goals first|exact gA|(exact zR (by omega))|skip
    all_goals first|(refine hK _ ?_;clear hK K)|(simp only [push_cast];done)
    refine zU rfl (fun hc=> ?_) (fun hc=> ?_)<;>(try simp only [push_cast]at hc)
    ·
     refine zV ?_
     (try simp only [zS,zT,reduceIte,zF]);refine hK5 _ ?_
     refine zM fun K6 hK6=> ?_
     refine zZ ?_
     have hi2:i<(stM a m s i).length:=by omega
     have hP:=qj h i _ (qC hi2)
     obtain⟨hU1,hU2,hN1,hN2⟩:=WZ h hP
     have hE:=kX a m s h _ hP
     unfold dAr dMe at hE
     obtain⟨hP1,hP2,hP3,hP4,hP5⟩:=hP
     have hPl:(gq (stM a m s i) i).record.length=1:=by rw [hP3];rfl
     obtain⟨hr1,hr2,hr3⟩:=hkm (gi (gq (stM a m s i) i).record 0).toNat (by omega)
     unfold ntM at hN1 hN2
     have hTn:=mulT (t:=(gi (gl m.next (gi (gq (stM a m s i) i).record 0).toNat) (gq (stM a m s i) i).at_.toNat)) (n:=a.owner.length) (by omega) (by omega)
     refine zM fun K hK=> ?_
     refine zL zO zN [] rfl ?_
     all_goals simp only [push_cast,↓zK,↓zJ,↓reduceIte,zA,zB,zC,zD,zE,zF,zG,zH,zI,reduceCtorEq]
     all_goals repeat'(first|(apply zP<;>(intro hg;(try simp only [push_cast]at hg)))|apply And.intro|(intro hg;(try simp only [push_cast]at hg)))
     all_goals first|exact gA|(exact zR (by omega))|skip
     all_goals first|(refine hK _ ?_;clear hK K)|(simp only [push_cast];done)
     refine zM fun K hK=> ?_
     refine zL zO zN [] rfl ?_
     all_goals simp only [push_cast,↓zK,↓zJ,↓reduceIte,zA,zB,zC,zD,zE,zF,zG,zH,zI,reduceCtorEq]
     all_goals repeat'(first|(apply zP<;>(intro hg;(try simp only [push_cast]at hg)))|apply And.intro|(intro hg;(try simp only [push_cast]at hg)))
     all_goals first|exact gA|(exact zR (by omega))|skip
     all_goals first|(refine hK _ ?_;clear hK K)|(simp only [push_cast];done)
     refine zM fun K hK=> ?_
     refine kQ 68 zO zN [] rfl ?_
     all_goals simp only [push_cast,↓zK,↓zJ,↓reduceIte,zA,zB,zC,zD,zE,zF,zG,zH,zI,reduceCtorEq]
     all_goals repeat'(first|(apply zP<;>(intro hg;(try simp only [push_cast]at hg)))|(refine⟨_,_,hE,?_⟩;(try simp only [push_cast,↓zK,↓zJ,↓reduceIte,zA,zB,zC,zD,zE,zF,zG,zH,zI,reduceCtorEq]))|apply And.intro|(intro hg;(try simp only [push_cast]at hg)))
     all_goals first|exact gA|(exact zR (by omega))|skip
     all_goals first|(refine hK _ ?_;clear hK K)|(simp only [push_cast];done)
     refine zM fun K hK=> ?_
     refine zL zO zN [] rfl ?_
     all_goals simp only [push_cast,↓zK,↓zJ,↓reduceIte,zA,zB,zC,zD,zE,zF,zG,zH,zI,reduceCtorEq]
     all_goals repeat'(first|(apply zP<;>(intro hg;(try simp only [push_cast]at hg)))|apply And.intro|(intro hg;(try simp only [push_cast]at hg)))
     all_goals first|exact gA|(exact zR (by omega))|skip
     all_goals first|(refine hK _ ?_;clear hK K)|(simp only [push_cast];done)
     refine zM fun K7 hK7=> ?_
     refine zM fun K hK=> ?_
     refine zL zO zN [] rfl ?_
     all_goals simp only [push_cast,↓zK,↓zJ,↓reduceIte,zA,zB,zC,zD,zE,zF,zG,zH,zI,reduceCtorEq]
     all_goals repeat'(first|(apply zP<;>(intro hg;(try simp only [push_cast]at hg)))|apply And.intro|(intro hg;(try simp only [push_cast]at hg)))
     all_goals first|exact gA|(exact zR (by omega))|skip
     all_goals first|(refine hK _ ?_;clear hK K)|(simp only [push_cast];done)
     refine zZ ?_
     refine zo [11,17,18,19,47,52,54,55,57,59,60,61,62,70,71,72,73,74,75,76,77,78,79,80,81,82,83,84,85,86,87,88,89,90,91,92,93,94,95,96,97,98,99,100,101,102,103,104,105,106,107,108,109,110,111,112,113,114,115,116,117,118,119,120,121,122,123,124] [144] (fun(k:Nat)=> [(18, .int .i64 k),(11, .sl 176 [] 0 (zi (rcM m (gq (stM a m s i) i)) (usM a m (gq (stM a m s i) i)) (stM a m s i) k).1.length 102),(17, .sl 272 [] 0 k 2)]) (fun k=> []) (fun k=> [(176,⟨.ex,102,yd (zi (rcM m (gq (stM a m s i) i)) (usM a m (gq (stM a m s i) i)) (stM a m s i) k).1,none⟩),(272,⟨.ex,2,dI (zi (rcM m (gq (stM a m s i) i)) (usM a m (gq (stM a m s i) i)) (stM a m s i) k).2,none⟩),(144,⟨.ex,2,dI (whV a.owner.length m.next.length (zi (rcM m (gq (stM a m s i) i)) (usM a m (gq (stM a m s i) i)) (stM a m s i) k).1),none⟩)]) (fun k=>k≤(usM a m (gq (stM a m s i) i)).length) (fun k=>(usM a m (gq (stM a m s i) i)).length - k) 0 ?_ (by omega) ?_
     ·
      rw [Xx]
      refine zd rfl ?_ ?_ ?_<;>simp only [zl,zk,push_cast,↓zK,↓zJ,↓reduceIte,zA,zB,zC,zD,zE,zF,zG,zH,zI,reduceCtorEq]
      all_goals first|rfl|exact⟨rfl,rfl⟩|exact⟨rfl,rfl,rfl⟩|skip
     ·rintro k hk KL2 hL2
      have hrl:=ZW (r:=(rcM m (gq (stM a m s i) i))) (us:=(usM a m (gq (stM a m s i) i))) (ps:=(stM a m s i)) (k:=k) hk
      have hfr:=Vx h (i:=i) (k:=k) hi2 hk
      have hwl:=Qc a.owner.length m.next.length (zi (rcM m (gq (stM a m s i) i)) (usM a m (gq (stM a m s i) i)) (stM a m s i) k).1
      have huu0:k<(usM a m (gq (stM a m s i) i)).length→0≤(gi (usM a m (gq (stM a m s i) i)) k)∧(gi (usM a m (gq (stM a m s i) i)) k)<(a.owner.length:Int):=fun hk9=>hU2 _ (zAB hk9)
      simp only [push_cast,↓zK,↓zJ,↓reduceIte,zA,zB,zC,zD,zE,zF,zG,zH,zI,reduceCtorEq]
      refine zM fun K8 hK8=> ?_
      refine zM fun K hK=> ?_
      refine zL zO zN [] rfl ?_
      all_goals simp only [push_cast,↓zK,↓zJ,↓reduceIte,zA,zB,zC,zD,zE,zF,zG,zH,zI,reduceCtorEq]
      all_goals repeat'(first|(apply zP<;>(intro hg;(try simp only [push_cast]at hg)))|apply And.intro|(intro hg;(try simp only [push_cast]at hg)))
      all_goals first|exact gA|(exact zR (by omega))|skip
      all_goals first|(refine hK _ ?_;clear hK K)|(simp only [push_cast];done)
      refine zU rfl (fun hc=> ?_) (fun hc=> ?_)<;>(try simp only [push_cast]at hc)
      ·
       refine zV ?_
       (try simp only [zS,zT,reduceIte,zF]);refine hK8 _ ?_
       refine zM fun K9 hK9=> ?_
       refine zZ ?_
       have huu:=huu0 (by omega)
       have hwx:gi (whV a.owner.length m.next.length (zi (rcM m (gq (stM a m s i) i)) (usM a m (gq (stM a m s i) i)) (stM a m s i) k).1) ((gi (gl m.next (gi (gq (stM a m s i) i).record 0).toNat) (gq (stM a m s i) i).at_.toNat)*(a.owner.length:Int)+(gi (usM a m (gq (stM a m s i) i)) k)).toNat=ixQ (yO (gi (usM a m (gq (stM a m s i) i)) k) (rcM m (gq (stM a m s i) i))) (zi (rcM m (gq (stM a m s i) i)) (usM a m (gq (stM a m s i) i)) (stM a m s i) k).1:=(Wa huu ⟨hN1,hN2⟩).2
       have hwb:((gi (gl m.next (gi (gq (stM a m s i) i).record 0).toNat) (gq (stM a m s i) i).at_.toNat)*(a.owner.length:Int)+(gi (usM a m (gq (stM a m s i) i)) k)).toNat<(a.owner.length*m.next.length):=(Wa (ps:=(zi (rcM m (gq (stM a m s i) i)) (usM a m (gq (stM a m s i) i)) (stM a m s i) k).1) huu ⟨hN1,hN2⟩).1
       refine zM fun K hK=> ?_
       refine yN false zO zN xM ?_ rfl ?_
       ·kernel_rfl
       intro E hE
       all_goals simp only [push_cast,↓zK,↓zJ,↓reduceIte,zA,zB,zC,zD,zE,zF,zG,zH,zI,reduceCtorEq]
       all_goals repeat'(first|(apply zP<;>(intro hg;(try simp only [push_cast]at hg)))|apply And.intro|(intro hg;(try simp only [push_cast]at hg)))
       all_goals first|exact gA|(refine hE _ _ ?_ ?_;kernel_rfl)|(exact zR (by omega))|skip
       all_goals clear hE E
       all_goals first|(refine hK _ ?_;clear hK K)|(simp only [push_cast];done)
       refine zM fun K10 hK10=> ?_
       by_cases hx:ixQ (yO (gi (usM a m (gq (stM a m s i) i)) k) (rcM m (gq (stM a m s i) i))) (zi (rcM m (gq (stM a m s i) i)) (usM a m (gq (stM a m s i) i)) (stM a m s i) k).1<0
       ·
        refine zM fun K hK=> ?_
        refine zL zO zN [] rfl ?_
        all_goals simp only [push_cast,↓zK,↓zJ,↓reduceIte,zA,zB,zC,zD,zE,zF,zG,zH,zI,reduceCtorEq]
        all_goals repeat'(first|(apply zP<;>(intro hg;(try simp only [push_cast]at hg)))|apply And.intro|(intro hg;(try simp only [push_cast]at hg)))
        all_goals first|exact gA|(exact zR (by omega))|skip
        all_goals first|(refine hK _ ?_;clear hK K)|(simp only [push_cast];done)
        refine zU rfl (fun hc=> ?_) (fun hc=> ?_)
        rotate_left
        ·exfalso;first|(cases hc;done)|(simp only [push_cast]at hc;done)|(simp only [push_cast]at hc;omega)|omega
        have hws:(whV a.owner.length m.next.length (zi (rcM m (gq (stM a m s i) i)) (usM a m (gq (stM a m s i) i)) (stM a m s i) k).1).set ((gi (gl m.next (gi (gq (stM a m s i) i).record 0).toNat) (gq (stM a m s i) i).at_.toNat)*(a.owner.length:Int)+(gi (usM a m (gq (stM a m s i) i)) k)).toNat ((zi (rcM m (gq (stM a m s i) i)) (usM a m (gq (stM a m s i) i)) (stM a m s i) k).1.length:Int)=(whV a.owner.length m.next.length ((zi (rcM m (gq (stM a m s i) i)) (usM a m (gq (stM a m s i) i)) (stM a m s i) k).1++ [⟨(gi (usM a m (gq (stM a m s i) i)) k),[(gi (gl m.next (gi (gq (stM a m s i) i).record 0).toNat) (gq (stM a m s i) i).at_.toNat)]⟩])):=uV huu ⟨hN1,hN2⟩ hx
        refine zM fun K hK=> ?_
        refine zL zO zN [] rfl ?_
        all_goals simp only [push_cast,↓zK,↓zJ,↓reduceIte,zA,zB,zC,zD,zE,zF,zG,zH,zI,reduceCtorEq]
        all_goals repeat'(first|(apply zP<;>(intro hg;(try simp only [push_cast]at hg)))|apply And.intro|(intro hg;(try simp only [push_cast]at hg)))
        all_goals first|exact gA|(exact zR (by omega))|skip
        all_goals first|(refine hK _ ?_;clear hK K)|(simp only [push_cast];done)
        all_goals rw [hws]
        refine yN false zO zN xM ?_ rfl ?_
        ·kernel_rfl
        intro E hE
        all_goals simp only [push_cast,↓zK,↓zJ,↓reduceIte,zA,zB,zC,zD,zE,zF,zG,zH,zI,reduceCtorEq]
        all_goals repeat'(first|(apply zP<;>(intro hg;(try simp only [push_cast]at hg)))|apply And.intro|(intro hg;(try simp only [push_cast]at hg)))
        all_goals first|exact gA|(refine hE _ _ ?_ ?_;kernel_rfl)|(exact zR (by omega))|skip
        all_goals clear hE E
        (try simp only [zS,zT,reduceIte,zF]);refine hK10 _ ?_
        refine wx 102 11 (Nat.le_of_ble_eq_true rfl) ?_
        simp only [push_cast,↓zK,↓zJ,↓reduceIte,zA,zB,zC,zD,zE,zF,zG,zH,zI,reduceCtorEq]
        have hwl2:=Qc a.owner.length m.next.length ((zi (rcM m (gq (stM a m s i) i)) (usM a m (gq (stM a m s i) i)) (stM a m s i) k).1++ [⟨(gi (usM a m (gq (stM a m s i) i)) k),[(gi (gl m.next (gi (gq (stM a m s i) i).record 0).toNat) (gq (stM a m s i) i).at_.toNat)]⟩])
        have hwn:gi (whV a.owner.length m.next.length ((zi (rcM m (gq (stM a m s i) i)) (usM a m (gq (stM a m s i) i)) (stM a m s i) k).1++ [⟨(gi (usM a m (gq (stM a m s i) i)) k),[(gi (gl m.next (gi (gq (stM a m s i) i).record 0).toNat) (gq (stM a m s i) i).at_.toNat)]⟩])) ((gi (gl m.next (gi (gq (stM a m s i) i).record 0).toNat) (gq (stM a m s i) i).at_.toNat)*(a.owner.length:Int)+(gi (usM a m (gq (stM a m s i) i)) k)).toNat=((zi (rcM m (gq (stM a m s i) i)) (usM a m (gq (stM a m s i) i)) (stM a m s i) k).1.length:Int):=by rw [(Wa huu ⟨hN1,hN2⟩).2,jW,if_pos (show ixQ (yO (gi (usM a m (gq (stM a m s i) i)) k) [(gi (gl m.next (gi (gq (stM a m s i) i).record 0).toNat) (gq (stM a m s i) i).at_.toNat)]) (zi (rcM m (gq (stM a m s i) i)) (usM a m (gq (stM a m s i) i)) (stM a m s i) k).1<0 from hx),Zp (p:=⟨(gi (usM a m (gq (stM a m s i) i)) k),[(gi (gl m.next (gi (gq (stM a m s i) i).record 0).toNat) (gq (stM a m s i) i).at_.toNat)]⟩) rfl rfl,if_pos rfl]
        refine zL zO zN [] rfl ?_
        all_goals simp only [push_cast,↓zK,↓zJ,↓reduceIte,zA,zB,zC,zD,zE,zF,zG,zH,zI,reduceCtorEq]
        all_goals repeat'(first|(apply zP<;>(intro hg;(try simp only [push_cast]at hg)))|apply And.intro|(intro hg;(try simp only [push_cast]at hg)))
        all_goals first|exact gA|(exact zR (by omega))|skip
        all_goals rw [hwn]
        (try simp only [zS,zT,reduceIte,zF]);refine hK9 _ ?_
        refine zL zO zN [] rfl ?_
        all_goals simp only [push_cast,↓zK,↓zJ,↓reduceIte,zA,zB,zC,zD,zE,zF,zG,zH,zI,reduceCtorEq]
        all_goals repeat'(first|(apply zP<;>(intro hg;(try simp only [push_cast]at hg)))|apply And.intro|(intro hg;(try simp only [push_cast]at hg)))
        all_goals first|exact gA|(exact zR (by omega))|skip
        refine hL2 _ ⟨k+1,by omega,by omega,?_⟩
        (try rw [List.take_of_length_le (l:=(zi (rcM m (gq (stM a m s i) i)) (usM a m (gq (stM a m s i) i)) (stM a m s i) k).2) (by omega)])
        rw [vA (by omega) hx]
        refine zd rfl ?_ ?_ ?_<;>simp only [zl,zk,push_cast,↓zK,↓zJ,↓reduceIte,zA,zB,zC,zD,zE,zF,zG,zH,zI,reduceCtorEq]
        all_goals first|rfl|(rw [List.length_append];rfl)|exact⟨rfl,rfl⟩|exact⟨rfl,rfl,rfl⟩|skip
       ·
        refine zM fun K hK=> ?_
        refine zL zO zN [] rfl ?_
        all_goals simp only [push_cast,↓zK,↓zJ,↓reduceIte,zA,zB,zC,zD,zE,zF,zG,zH,zI,reduceCtorEq]
        all_goals repeat'(first|(apply zP<;>(intro hg;(try simp only [push_cast]at hg)))|apply And.intro|(intro hg;(try simp only [push_cast]at hg)))
        all_goals first|exact gA|(exact zR (by omega))|skip
        all_goals first|(refine hK _ ?_;clear hK K)|(simp only [push_cast];done)
        refine zU rfl (fun hc=> ?_) (fun hc=> ?_)
        skip
        ·exfalso;first|(cases hc;done)|(simp only [push_cast]at hc;done)|(simp only [push_cast]at hc;omega)|omega
        refine zV ?_
        (try simp only [zS,zT,reduceIte,zF]);refine hK10 _ ?_
        refine zL zO zN [] rfl ?_
        all_goals simp only [push_cast,↓zK,↓zJ,↓reduceIte,zA,zB,zC,zD,zE,zF,zG,zH,zI,reduceCtorEq]
        all_goals repeat'(first|(apply zP<;>(intro hg;(try simp only [push_cast]at hg)))|apply And.intro|(intro hg;(try simp only [push_cast]at hg)))
        all_goals first|exact gA|(exact zR (by omega))|skip
        all_goals rw [hwx]
        (try simp only [zS,zT,reduceIte,zF]);refine hK9 _ ?_
        refine zL zO zN [] rfl ?_
        all_goals simp only [push_cast,↓zK,↓zJ,↓reduceIte,zA,zB,zC,zD,zE,zF,zG,zH,zI,reduceCtorEq]
        all_goals repeat'(first|(apply zP<;>(intro hg;(try simp only [push_cast]at hg)))|apply And.intro|(intro hg;(try simp only [push_cast]at hg)))
        all_goals first|exact gA|(exact zR (by omega))|skip
        refine hL2 _ ⟨k+1,by omega,by omega,?_⟩
        (try rw [List.take_of_length_le (l:=(zi (rcM m (gq (stM a m s i) i)) (usM a m (gq (stM a m s i) i)) (stM a m s i) k).2) (by omega)])
        rw [vB (by omega) hx]
        refine zd rfl ?_ ?_ ?_<;>simp only [zl,zk,push_cast,↓zK,↓zJ,↓reduceIte,zA,zB,zC,zD,zE,zF,zG,zH,zI,reduceCtorEq]
        all_goals first|rfl|(rw [List.length_append];rfl)|exact⟨rfl,rfl⟩|exact⟨rfl,rfl,rfl⟩|skip
      ·
       refine zr ?_
       have hkk:k=(usM a m (gq (stM a m s i) i)).length:=by omega
       subst hkk
       have hst:stM a m s (i+1)=(zi (rcM m (gq (stM a m s i) i)) (usM a m (gq (stM a m s i) i)) (stM a m s i) (usM a m (gq (stM a m s i) i)).length).1:=KW (a:=a) (m:=m) (s:=s) hi2
       have hrw:rwM a m s i=(zi (rcM m (gq (stM a m s i) i)) (usM a m (gq (stM a m s i) i)) (stM a m s i) (usM a m (gq (stM a m s i) i)).length).2:=rfl
       have htk:List.take (usM a m (gq (stM a m s i) i)).length (zi (rcM m (gq (stM a m s i) i)) (usM a m (gq (stM a m s i) i)) (stM a m s i) (usM a m (gq (stM a m s i) i)).length).2=(zi (rcM m (gq (stM a m s i) i)) (usM a m (gq (stM a m s i) i)) (stM a m s i) (usM a m (gq (stM a m s i) i)).length).2:=List.take_of_length_le (by omega)
       (try simp only [zS,zT,reduceIte,zF]);refine hK7 _ ?_
       refine zp false zO zN ?_ rfl ?_
       ·kernel_rfl
       simp only [push_cast,↓zK,↓zJ,↓reduceIte,zA,zB,zC,zD,zE,zF,zG,zH,zI,reduceCtorEq]
       all_goals repeat'(first|(apply zP<;>(intro hg;(try simp only [push_cast]at hg)))|apply And.intro|(intro hg;(try simp only [push_cast]at hg)))
       all_goals first|exact gA|(exact zR (by omega))|skip
       (try simp only [zS,zT,reduceIte,zF]);refine hK6 _ ?_
       refine wx 22 12 (Nat.le_of_ble_eq_true rfl) ?_
       simp only [push_cast,↓zK,↓zJ,↓reduceIte,zA,zB,zC,zD,zE,zF,zG,zH,zI,reduceCtorEq]
       refine zL zO zN [] rfl ?_
       all_goals simp only [push_cast,↓zK,↓zJ,↓reduceIte,zA,zB,zC,zD,zE,zF,zG,zH,zI,reduceCtorEq]
       all_goals repeat'(first|(apply zP<;>(intro hg;(try simp only [push_cast]at hg)))|apply And.intro|(intro hg;(try simp only [push_cast]at hg)))
       all_goals first|exact gA|(exact zR (by omega))|skip
       refine hL1 _ ⟨i+1,(by rw [hst];omega),by omega,?_⟩
       (try rw [List.take_of_length_le (l:=rsM a m s i) (by omega)])
       (try rw [htk])
       rw [hst,KV,hrw]
       refine zd rfl ?_ ?_ ?_<;>simp only [zl,zk,push_cast,↓zK,↓zJ,↓reduceIte,zA,zB,zC,zD,zE,zF,zG,zH,zI,reduceCtorEq]
       all_goals first|rfl|exact⟨rfl,rfl⟩|skip
    ·
     refine zr ?_
     (try simp only [zS,zT,reduceIte,zF]);refine hK4 _ ?_
     refine zM fun K hK=> ?_
     refine zL zO zN [] rfl ?_
     all_goals simp only [push_cast,↓zK,↓zJ,↓reduceIte,zA,zB,zC,zD,zE,zF,zG,zH,zI,reduceCtorEq]
     all_goals repeat'(first|(apply zP<;>(intro hg;(try simp only [push_cast]at hg)))|apply And.intro|(intro hg;(try simp only [push_cast]at hg)))
     all_goals first|exact gA|(exact zR (by omega))|skip
     all_goals first|(refine hK _ ?_;clear hK K)|(simp only [push_cast];done)
     refine zc ?_
     (try simp only [zS,zT])
     refine⟨Or.inl rfl,?_⟩
     simp only [zh,push_cast,↓zK,↓zJ,↓reduceIte,zA,zB,zC,zD,zE,zF,zG,zH,zI,reduceCtorEq]
     have hE:=zBq h (by omega) (show ¬i<(stM a m s i).length by omega)
     rw [hE,show(stM a m s i).length=i by omega,hrs]
     all_goals first|rfl|exact⟨⟨rfl,rfl⟩,rfl,rfl⟩|skip
structure Pa where
 a:Ar
 prio:List Int
 deriving DecidableEq
def Pa.tot (x:Pa):Nat:=x.a.owner.length+xL x.a.next+x.prio.length
structure Pa.Ln (B:Nat)(x:Pa):Prop where
 a:x.a.Ln B
 prio:LnI B x.prio
theorem Pa.ln_of {B:Nat}{x:Pa}(h:x.tot≤B):x.Ln B:=by
 unfold Pa.tot at h
 exact⟨Ar.ln_of (by unfold Ar.tot;omega),wZ (by omega)⟩
def Pa.cnt (x:Pa):Nat:=x.a.owner.length+zx x.a.next+x.prio.length
theorem Pa.ln_mono {B C:Nat}(hB:B≤C){x:Pa}(h:x.Ln B):x.Ln C:=⟨Ar.ln_mono hB h.a,LnI.mono hB h.prio⟩
theorem Pa.cnt_le {x:Pa}(h:x.Ln 1048576):x.cnt≤3298534883328:=by
 have h0:=Ar.cnt_le h.a
 have h1:=ZQ h.prio
 unfold Pa.cnt
 try unfold Ar.cnt at*
 omega
def YJ (g:Int→Int)(r:List Int)(k:Nat):List Int:=(r.take k).map g++r.drop k
theorem zA8 {c:List Int}{k:Nat}(h:k<c.length):c.drop k=gi c k::c.drop (k+1):=by
 rw [List.drop_eq_getElem_cons h]
 congr 1
 unfold gi
 rw [List.getD_eq_getElem?_getD,List.getElem?_eq_getElem h]
 rfl
theorem zDp (g:Int→Int)(r:List Int):YJ g r 0=r:=by simp [YJ]
theorem zBM (g:Int→Int)(r:List Int):YJ g r r.length=r.map g:=by simp [YJ]
theorem zBN {g:Int→Int}{r:List Int}{k:Nat}(h:k≤r.length):(YJ g r k).length=r.length:=by simp [YJ];omega
theorem zBO {g:Int→Int}{r:List Int}{k:Nat}(h:k<r.length):(YJ g r k).set k (g (gi r k))=YJ g r (k+1):=by
 have hl:((r.take k).map g).length=k:=by simp;omega
 unfold YJ
 rw [List.set_append_right _ _ (by omega),hl,Nat.sub_self,zA8 h,List.set_cons_zero,List.take_add_one,vJ h]
 simp
set_option maxRecDepth 20000 in
set_option maxHeartbeats 4000000 in
theorem UJ (a:Ar)(ha:a.Ln 1048576):Fn Try.prog tyT 153 [.agg (dAr a)] [.c (DI (List.replicate a.owner.length (-1)))]:=by
 have h0:=ha.owner
 unfold LnI at h0
 have hrl:(List.replicate a.owner.length (0:Int)).length=a.owner.length:=List.length_replicate ..
 unfold dAr
 refine yT (fn:=Try.f153) (ts:= [2]) Try.func153 (by kernel_rfl) rfl rfl (by rw [Try.ntmps153];exact Nat.le_of_ble_eq_true rfl) rfl (by simp only [szA,List.mem_cons,List.not_mem_nil,or_false,forall_eq_or_imp,forall_eq,VT.cells,szL];try decide) ?_
 rw [Try.ntmps153]
 simp only [push_cast,↓zK,↓zJ,↓reduceIte,zA,zB,zC,zD,zE,zF,zG,zH,zI,reduceCtorEq]
 refine zM fun K hK=> ?_
 refine zL zO zN [] rfl ?_
 simp only [push_cast,↓zK,↓zJ,↓reduceIte,zA,zB,zC,zD,zE,zF,zG,zH,zI,reduceCtorEq]
 repeat' apply And.intro
 all_goals try exact gB
 all_goals first|(refine hK _ ?_;clear hK K)|(simp only [push_cast];done)
 refine zM fun K hK=> ?_
 refine zL zO zN [] rfl ?_
 simp only [push_cast,↓zK,↓zJ,↓reduceIte,zA,zB,zC,zD,zE,zF,zG,zH,zI,reduceCtorEq]
 repeat' apply And.intro
 all_goals try exact gB
 all_goals first|(refine hK _ ?_;clear hK K)|(simp only [push_cast];done)
 refine zM fun K1 hK1=> ?_
 refine zM fun K hK=> ?_
 refine zL zO zN [] rfl ?_
 simp only [push_cast,↓zK,↓zJ,↓reduceIte,zA,zB,zC,zD,zE,zF,zG,zH,zI,reduceCtorEq]
 repeat' apply And.intro
 all_goals try exact gB
 all_goals first|(refine hK _ ?_;clear hK K)|(simp only [push_cast];done)
 refine zZ ?_
 refine zo [4,11,12,13,14,15,16,17] [48] (fun(k:Nat)=> [(11, .int .i64 k)]) (fun k=> []) (fun k=> [(48,⟨.ex,2,dI (YJ (fun _=> -1) (List.replicate a.owner.length 0) k),none⟩)]) (fun k=>k≤a.owner.length) (fun k=>a.owner.length - k) 0 ?_ (by omega) ?_
 ·
  rw [zDp]
  refine zd rfl ?_ ?_ ?_<;>simp only [zl,zk,push_cast,↓zK,↓zJ,↓reduceIte,zA,zB,zC,zD,zE,zF,zG,zH,zI,reduceCtorEq]
 ·rintro k hk KL0 hL0
  have hml:=zBN (g:=fun _=> -1) (r:=List.replicate a.owner.length 0) (k:=k) (by omega)
  simp only [push_cast,↓zK,↓zJ,↓reduceIte,zA,zB,zC,zD,zE,zF,zG,zH,zI,reduceCtorEq]
  refine zM fun K hK=> ?_
  refine zL zO zN [] rfl ?_
  simp only [push_cast,↓zK,↓zJ,↓reduceIte,zA,zB,zC,zD,zE,zF,zG,zH,zI,reduceCtorEq]
  repeat' apply And.intro
  all_goals try exact gB
  all_goals first|(refine hK _ ?_;clear hK K)|(simp only [push_cast];done)
  refine zM fun K2 hK2=> ?_
  refine zU rfl (fun hc=> ?_) (fun hc=> ?_)<;>(try simp only [push_cast]at hc)
  ·
   refine zV ?_
   (try simp only [zS,zT,reduceIte,zF]);refine hK2 _ ?_
   refine zM fun K3 hK3=> ?_
   refine zZ ?_
   refine zM fun K hK=> ?_
   refine zL zO zN [] rfl ?_
   simp only [push_cast,↓zK,↓zJ,↓reduceIte,zA,zB,zC,zD,zE,zF,zG,zH,zI,reduceCtorEq]
   repeat' apply And.intro
   all_goals try exact gB
   all_goals first|(refine hK _ ?_;clear hK K)|(simp only [push_cast];done)
   refine zL zO zN [] rfl ?_
   simp only [push_cast,↓zK,↓zJ,↓reduceIte,zA,zB,zC,zD,zE,zF,zG,zH,zI,reduceCtorEq]
   repeat' apply And.intro
   all_goals try exact gB
   (try simp only [zS,zT,reduceIte,zF]);refine hK3 _ ?_
   refine zL zO zN [] rfl ?_
   simp only [push_cast,↓zK,↓zJ,↓reduceIte,zA,zB,zC,zD,zE,zF,zG,zH,zI,reduceCtorEq]
   repeat' apply And.intro
   all_goals try exact gB
   rw [zBO (g:=fun _=> -1) (by omega)]
   refine hL0 _ ⟨k+1,by omega,by omega,?_⟩
   refine zd rfl ?_ ?_ ?_<;>simp only [zl,zk,push_cast,↓zK,↓zJ,↓reduceIte,zA,zB,zC,zD,zE,zF,zG,zH,zI,reduceCtorEq]
  ·
   refine zr ?_
   have hkk:k=(List.replicate a.owner.length (0:Int)).length:=by omega
   subst hkk
   rw [zBM,List.map_replicate]
   (try simp only [zS,zT,reduceIte,zF]);refine hK1 _ ?_
   refine zM fun K hK=> ?_
   refine zL zO zN [] rfl ?_
   simp only [push_cast,↓zK,↓zJ,↓reduceIte,zA,zB,zC,zD,zE,zF,zG,zH,zI,reduceCtorEq]
   repeat' apply And.intro
   all_goals try exact gB
   all_goals first|(refine hK _ ?_;clear hK K)|(simp only [push_cast];done)
   refine zc ?_
   (try simp only [zS,zT])
   refine⟨Or.inl rfl,?_⟩
   simp only [zh,push_cast,↓zK,↓zJ,↓reduceIte,zA,zB,zC,zD,zE,zF,zG,zH,zI,reduceCtorEq]
   all_goals first|rfl|(simp;done)
def emM (c n:Nat):Me:=⟨List.replicate c (List.replicate n 0),List.replicate c (List.replicate n (-1))⟩
theorem WQ {α:Type}(k:Nat)(x:α):List.replicate (k+1) x=List.replicate k x++ [x]:=List.replicate_succ' ..
theorem Jb (N:Nat):qp N N=List.replicate N (-1):=by
 unfold qp
 rw [List.eq_replicate_iff]
 refine⟨by simp,fun b hb=> ?_⟩
 obtain⟨i,hi,rfl⟩:=List.mem_map.1 hb
 rw [if_pos (List.mem_range.1 hi)]
set_option maxRecDepth 20000 in
set_option maxHeartbeats 4000000 in
theorem Wj (a:Ar)(ha:a.Ln 1048576)(c:Nat)(hc0:c≤1048576):Fn Try.prog tyT 116 [.agg (dAr a), .c (.int .i64 c)] [.agg (dMe (emM c a.owner.length))]:=by
 have hno:=ha.owner
 unfold LnI at hno
 have hN:=UJ a ha
 unfold dAr at hN
 unfold dAr dMe emM
 refine ZK (fn:=Try.f116) (rs:= [.cell 4 42]) zO zN Try.func116 (by kernel_rfl) rfl rfl (by rw [Try.ntmps116];exact Nat.le_of_ble_eq_true rfl) rfl (by simp only [szA,List.mem_cons,List.not_mem_nil,or_false,forall_eq_or_imp,forall_eq,VT.cells,szL];try decide) ?_
 rw [Try.ntmps116]
 simp only [push_cast,↓zK,↓zJ,↓reduceIte,zA,zB,zC,zD,zE,zF,zG,zH,zI,reduceCtorEq]
 refine zM fun K hK=> ?_
 refine zL zO zN [] rfl ?_
 all_goals simp only [push_cast,↓zK,↓zJ,↓reduceIte,zA,zB,zC,zD,zE,zF,zG,zH,zI,reduceCtorEq]
 all_goals repeat'(first|(apply zP<;>(intro hg;(try simp only [push_cast]at hg)))|apply And.intro|(intro hg;(try simp only [push_cast]at hg)))
 all_goals first|exact gA|(exact zQ (by omega))|skip
 all_goals first|(refine hK _ ?_;clear hK K)|(simp only [push_cast];done)
 refine zM fun K hK=> ?_
 refine zL zO zN [] rfl ?_
 all_goals simp only [push_cast,↓zK,↓zJ,↓reduceIte,zA,zB,zC,zD,zE,zF,zG,zH,zI,reduceCtorEq]
 all_goals repeat'(first|(apply zP<;>(intro hg;(try simp only [push_cast]at hg)))|apply And.intro|(intro hg;(try simp only [push_cast]at hg)))
 all_goals first|exact gA|(exact zQ (by omega))|skip
 all_goals first|(refine hK _ ?_;clear hK K)|(simp only [push_cast];done)
 refine zM fun K1 hK1=> ?_
 refine zM fun K hK=> ?_
 refine zL zO zN [] rfl ?_
 all_goals simp only [push_cast,↓zK,↓zJ,↓reduceIte,zA,zB,zC,zD,zE,zF,zG,zH,zI,reduceCtorEq]
 all_goals repeat'(first|(apply zP<;>(intro hg;(try simp only [push_cast]at hg)))|apply And.intro|(intro hg;(try simp only [push_cast]at hg)))
 all_goals first|exact gA|(exact zQ (by omega))|skip
 all_goals first|(refine hK _ ?_;clear hK K)|(simp only [push_cast];done)
 refine zZ ?_
 refine zo [5,8,9,10,11,12,13,14,15,16,17,18,19,20,21,22,23,24,25,26] [] (fun(k:Nat)=> [(8, .int .i64 k),(5, .bp 5 0)]) (fun k=> [(5,[.sl 80 [] 0 k 22, .sl 81 [] 0 k 22])]) (fun k=> [(80,⟨.ex,22,dII (List.replicate k (List.replicate a.owner.length 0)),none⟩),(81,⟨.ex,22,dII (List.replicate k (List.replicate a.owner.length (-1))),none⟩)]) (fun k=>k≤c) (fun k=>c - k) 0 ?_ (by omega) ?_
 ·
  rw [List.replicate_zero,List.replicate_zero]
  refine zd rfl ?_ ?_ ?_<;>simp only [zl,zk,push_cast,↓zK,↓zJ,↓reduceIte,zA,zB,zC,zD,zE,zF,zG,zH,zI,reduceCtorEq]
  all_goals first|rfl|exact⟨rfl,rfl⟩|skip
 ·rintro k hk KL0 hL0
  have hl1:(List.replicate k (List.replicate a.owner.length (0:Int))).length=k:=List.length_replicate ..
  have hl2:(List.replicate k (List.replicate a.owner.length (-1:Int))).length=k:=List.length_replicate ..
  simp only [push_cast,↓zK,↓zJ,↓reduceIte,zA,zB,zC,zD,zE,zF,zG,zH,zI,reduceCtorEq]
  refine zM fun K hK=> ?_
  refine zL zO zN [] rfl ?_
  all_goals simp only [push_cast,↓zK,↓zJ,↓reduceIte,zA,zB,zC,zD,zE,zF,zG,zH,zI,reduceCtorEq]
  all_goals repeat'(first|(apply zP<;>(intro hg;(try simp only [push_cast]at hg)))|apply And.intro|(intro hg;(try simp only [push_cast]at hg)))
  all_goals first|exact gA|(exact zQ (by omega))|skip
  all_goals first|(refine hK _ ?_;clear hK K)|(simp only [push_cast];done)
  refine zM fun K2 hK2=> ?_
  refine zU rfl (fun hc=> ?_) (fun hc=> ?_)<;>(try simp only [push_cast]at hc)
  ·
   refine zV ?_
   (try simp only [zS,zT,reduceIte,zF]);refine hK2 _ ?_
   refine zM fun K3 hK3=> ?_
   refine zZ ?_
   refine zM fun K hK=> ?_
   refine yN false zO zN xM ?_ rfl ?_
   ·kernel_rfl
   intro E hE
   all_goals simp only [push_cast,↓zK,↓zJ,↓reduceIte,zA,zB,zC,zD,zE,zF,zG,zH,zI,reduceCtorEq]
   all_goals repeat'(first|(apply zP<;>(intro hg;(try simp only [push_cast]at hg)))|apply And.intro|(intro hg;(try simp only [push_cast]at hg)))
   all_goals first|exact gA|(refine hE _ _ ?_ ?_;kernel_rfl)|(exact zQ (by omega))|skip
   all_goals clear hE E
   all_goals first|(refine hK _ ?_;clear hK K)|(simp only [push_cast];done)
   refine yN false zO zN xM ?_ rfl ?_
   ·kernel_rfl
   intro E hE
   all_goals refine XE 4 (by decide) fun K9 hK9=> ?_
   all_goals simp only [push_cast,↓zK,↓zJ,↓reduceIte,zA,zB,zC,zD,zE,zF,zG,zH,zI,reduceCtorEq]
   all_goals repeat'(first|(apply zP<;>(intro hg;(try simp only [push_cast]at hg)))|(refine⟨_,hN,?_⟩;simp only [push_cast,↓zK,↓zJ,↓reduceIte,zA,zB,zC,zD,zE,zF,zG,zH,zI,reduceCtorEq])|apply And.intro|(intro hg;(try simp only [push_cast]at hg)))
   all_goals first|exact gA|(exact zQ (by omega))|skip
   all_goals first|(refine hK9 _ _ ?_;clear hK9 K9)|(simp only [push_cast];done)
   all_goals simp only [push_cast,↓zK,↓zJ,↓reduceIte,zA,zB,zC,zD,zE,zF,zG,zH,zI,reduceCtorEq]
   all_goals repeat'(first|(apply zP<;>(intro hg;(try simp only [push_cast]at hg)))|(refine⟨_,hN,?_⟩;simp only [push_cast,↓zK,↓zJ,↓reduceIte,zA,zB,zC,zD,zE,zF,zG,zH,zI,reduceCtorEq])|apply And.intro|(intro hg;(try simp only [push_cast]at hg)))
   all_goals first|exact gA|(refine hE _ _ ?_ ?_;kernel_rfl)|(exact zQ (by omega))|skip
   all_goals clear hE E
   (try simp only [zS,zT,reduceIte,zF]);refine hK3 _ ?_
   refine Qi [.sl 22, .sl 22] 5 ?_
   simp only [push_cast,↓zK,↓zJ,↓reduceIte,zA,zB,zC,zD,zE,zF,zG,zH,zI,reduceCtorEq]
   refine zL zO zN [] rfl ?_
   all_goals simp only [push_cast,↓zK,↓zJ,↓reduceIte,zA,zB,zC,zD,zE,zF,zG,zH,zI,reduceCtorEq]
   all_goals repeat'(first|(apply zP<;>(intro hg;(try simp only [push_cast]at hg)))|apply And.intro|(intro hg;(try simp only [push_cast]at hg)))
   all_goals first|exact gA|(exact zQ (by omega))|skip
   refine hL0 _ ⟨k+1,by omega,by omega,?_⟩
   (try rw [List.take_of_length_le (l:=List.replicate k (List.replicate a.owner.length (0:Int))) (by omega)])
   (try rw [List.take_of_length_le (l:=List.replicate k (List.replicate a.owner.length (-1:Int))) (by omega)])
   (try rw [List.take_of_length_le (l:=List.replicate a.owner.length (0:Int)) (by simp)])
   (try rw [List.take_of_length_le (l:=List.replicate a.owner.length (-1:Int)) (by simp)])
   rw [WQ,WQ]
   refine zd rfl ?_ ?_ ?_<;>simp only [zl,zk,push_cast,↓zK,↓zJ,↓reduceIte,zA,zB,zC,zD,zE,zF,zG,zH,zI,reduceCtorEq]
   all_goals first|rfl|exact⟨rfl,rfl⟩|skip
  ·
   refine zr ?_
   have hkk:k=c:=by omega
   subst hkk
   (try simp only [zS,zT,reduceIte,zF]);refine hK1 _ ?_
   refine zM fun K hK=> ?_
   refine zL zO zN [] rfl ?_
   all_goals simp only [push_cast,↓zK,↓zJ,↓reduceIte,zA,zB,zC,zD,zE,zF,zG,zH,zI,reduceCtorEq]
   all_goals repeat'(first|(apply zP<;>(intro hg;(try simp only [push_cast]at hg)))|apply And.intro|(intro hg;(try simp only [push_cast]at hg)))
   all_goals first|exact gA|(exact zQ (by omega))|skip
   all_goals first|(refine hK _ ?_;clear hK K)|(simp only [push_cast];done)
   refine zc ?_
   (try simp only [zS,zT])
   refine⟨Or.inl rfl,?_⟩
   simp only [zh,yY,xR,push_cast,↓zK,↓zJ,↓reduceIte,zA,zB,zC,zD,zE,zF,zG,zH,zI,reduceCtorEq]
   all_goals first|rfl|exact⟨rfl,rfl⟩|(simp;done)
set_option maxRecDepth 20000 in
set_option maxHeartbeats 4000000 in
theorem kW (c n:Nat)(hc0:c≤1048576)(hn0:n≤1048576):Fn Try.prog tyT 75 [.c (.int .i64 c), .c (.int .i64 n)] [.agg (dMe (emM c n))]:=by
 unfold dMe emM
 refine ZK (fn:=Try.f75) (rs:= [.cell 4 42]) zO zN Try.func75 (by kernel_rfl) rfl rfl (by rw [Try.ntmps75];exact Nat.le_of_ble_eq_true rfl) rfl (by simp only [szA,List.mem_cons,List.not_mem_nil,or_false,forall_eq_or_imp,forall_eq,VT.cells,szL];try decide) ?_
 rw [Try.ntmps75]
 simp only [push_cast,↓zK,↓zJ,↓reduceIte,zA,zB,zC,zD,zE,zF,zG,zH,zI,reduceCtorEq]
 refine zM fun K hK=> ?_
 refine zL zO zN [] rfl ?_
 all_goals simp only [push_cast,↓zK,↓zJ,↓reduceIte,zA,zB,zC,zD,zE,zF,zG,zH,zI,reduceCtorEq]
 all_goals repeat'(first|(apply zP<;>(intro hg;(try simp only [push_cast]at hg)))|apply And.intro|(intro hg;(try simp only [push_cast]at hg)))
 all_goals first|exact gA|(exact zQ (by omega))|skip
 all_goals first|(refine hK _ ?_;clear hK K)|(simp only [push_cast];done)
 refine zM fun K hK=> ?_
 refine zL zO zN [] rfl ?_
 all_goals simp only [push_cast,↓zK,↓zJ,↓reduceIte,zA,zB,zC,zD,zE,zF,zG,zH,zI,reduceCtorEq]
 all_goals repeat'(first|(apply zP<;>(intro hg;(try simp only [push_cast]at hg)))|apply And.intro|(intro hg;(try simp only [push_cast]at hg)))
 all_goals first|exact gA|(exact zQ (by omega))|skip
 all_goals first|(refine hK _ ?_;clear hK K)|(simp only [push_cast];done)
 refine zM fun K1 hK1=> ?_
 refine zM fun K hK=> ?_
 refine zL zO zN [] rfl ?_
 all_goals simp only [push_cast,↓zK,↓zJ,↓reduceIte,zA,zB,zC,zD,zE,zF,zG,zH,zI,reduceCtorEq]
 all_goals repeat'(first|(apply zP<;>(intro hg;(try simp only [push_cast]at hg)))|apply And.intro|(intro hg;(try simp only [push_cast]at hg)))
 all_goals first|exact gA|(exact zQ (by omega))|skip
 all_goals first|(refine hK _ ?_;clear hK K)|(simp only [push_cast];done)
 refine zZ ?_
 refine zo [5,6,7,8,10,11,12,13,14,15,16,17,18,19,20,21,22,23,24,25,26,27,28,29,30,31,32,33,34,35,36,37] [] (fun(k:Nat)=> [(6, .int .i64 k),(5, .bp 5 0)]) (fun k=> [(5,[.sl 80 [] 0 k 22, .sl 81 [] 0 k 22])]) (fun k=> [(80,⟨.ex,22,dII (List.replicate k (List.replicate n 0)),none⟩),(81,⟨.ex,22,dII (List.replicate k (List.replicate n (-1))),none⟩)]) (fun k=>k≤c) (fun k=>c - k) 0 ?_ (by omega) ?_
 ·
  rw [List.replicate_zero,List.replicate_zero]
  refine zd rfl ?_ ?_ ?_<;>simp only [zl,zk,push_cast,↓zK,↓zJ,↓reduceIte,zA,zB,zC,zD,zE,zF,zG,zH,zI,reduceCtorEq]
  all_goals first|rfl|exact⟨rfl,rfl⟩|skip
 ·rintro k hk KL0 hL0
  have hl1:(List.replicate k (List.replicate n (0:Int))).length=k:=List.length_replicate ..
  have hl2:(List.replicate k (List.replicate n (-1:Int))).length=k:=List.length_replicate ..
  simp only [push_cast,↓zK,↓zJ,↓reduceIte,zA,zB,zC,zD,zE,zF,zG,zH,zI,reduceCtorEq]
  refine zM fun K2 hK2=> ?_
  refine zM fun K hK=> ?_
  refine zL zO zN [] rfl ?_
  all_goals simp only [push_cast,↓zK,↓zJ,↓reduceIte,zA,zB,zC,zD,zE,zF,zG,zH,zI,reduceCtorEq]
  all_goals repeat'(first|(apply zP<;>(intro hg;(try simp only [push_cast]at hg)))|apply And.intro|(intro hg;(try simp only [push_cast]at hg)))
  all_goals first|exact gA|(exact zQ (by omega))|skip
  all_goals first|(refine hK _ ?_;clear hK K)|(simp only [push_cast];done)
  refine zU rfl (fun hc=> ?_) (fun hc=> ?_)<;>(try simp only [push_cast]at hc)
  ·
   refine zV ?_
   (try simp only [zS,zT,reduceIte,zF]);refine hK2 _ ?_
   refine zM fun K3 hK3=> ?_
   refine zZ ?_
   refine zM fun K hK=> ?_
   refine zL zO zN [] rfl ?_
   all_goals simp only [push_cast,↓zK,↓zJ,↓reduceIte,zA,zB,zC,zD,zE,zF,zG,zH,zI,reduceCtorEq]
   all_goals repeat'(first|(apply zP<;>(intro hg;(try simp only [push_cast]at hg)))|apply And.intro|(intro hg;(try simp only [push_cast]at hg)))
   all_goals first|exact gA|(exact zQ (by omega))|skip
   all_goals first|(refine hK _ ?_;clear hK K)|(simp only [push_cast];done)
   refine zM fun K4 hK4=> ?_
   refine zM fun K hK=> ?_
   refine zL zO zN [] rfl ?_
   all_goals simp only [push_cast,↓zK,↓zJ,↓reduceIte,zA,zB,zC,zD,zE,zF,zG,zH,zI,reduceCtorEq]
   all_goals repeat'(first|(apply zP<;>(intro hg;(try simp only [push_cast]at hg)))|apply And.intro|(intro hg;(try simp only [push_cast]at hg)))
   all_goals first|exact gA|(exact zQ (by omega))|skip
   all_goals first|(refine hK _ ?_;clear hK K)|(simp only [push_cast];done)
   refine zZ ?_
   refine zo [8,17,18,19,20,21,22,23,24] [112] (fun(j:Nat)=> [(8, .int .i64 j)]) (fun j=> []) (fun j=> [(112,⟨.ex,2,dI (qp n j),none⟩)]) (fun j=>j≤n) (fun j=>n - j) 0 ?_ (by omega) ?_
   ·
    rw [Wl]
    refine zd rfl ?_ ?_ ?_<;>simp only [zl,zk,push_cast,↓zK,↓zJ,↓reduceIte,zA,zB,zC,zD,zE,zF,zG,zH,zI,reduceCtorEq]
    all_goals first|rfl|skip
   ·rintro j hj KL1 hL1
    have hfl:=Xk n j
    simp only [push_cast,↓zK,↓zJ,↓reduceIte,zA,zB,zC,zD,zE,zF,zG,zH,zI,reduceCtorEq]
    refine zM fun K5 hK5=> ?_
    refine zM fun K hK=> ?_
    refine zL zO zN [] rfl ?_
    all_goals simp only [push_cast,↓zK,↓zJ,↓reduceIte,zA,zB,zC,zD,zE,zF,zG,zH,zI,reduceCtorEq]
    all_goals repeat'(first|(apply zP<;>(intro hg;(try simp only [push_cast]at hg)))|apply And.intro|(intro hg;(try simp only [push_cast]at hg)))
    all_goals first|exact gA|(exact zQ (by omega))|skip
    all_goals first|(refine hK _ ?_;clear hK K)|(simp only [push_cast];done)
    refine zU rfl (fun hc=> ?_) (fun hc=> ?_)<;>(try simp only [push_cast]at hc)
    ·
     refine zV ?_
     (try simp only [zS,zT,reduceIte,zF]);refine hK5 _ ?_
     refine zM fun K6 hK6=> ?_
     refine zZ ?_
     refine zL zO zN [] rfl ?_
     all_goals simp only [push_cast,↓zK,↓zJ,↓reduceIte,zA,zB,zC,zD,zE,zF,zG,zH,zI,reduceCtorEq]
     all_goals repeat'(first|(apply zP<;>(intro hg;(try simp only [push_cast]at hg)))|apply And.intro|(intro hg;(try simp only [push_cast]at hg)))
     all_goals first|exact gA|(exact zQ (by omega))|skip
     (try simp only [zS,zT,reduceIte,zF]);refine hK6 _ ?_
     refine zL zO zN [] rfl ?_
     all_goals simp only [push_cast,↓zK,↓zJ,↓reduceIte,zA,zB,zC,zD,zE,zF,zG,zH,zI,reduceCtorEq]
     all_goals repeat'(first|(apply zP<;>(intro hg;(try simp only [push_cast]at hg)))|apply And.intro|(intro hg;(try simp only [push_cast]at hg)))
     all_goals first|exact gA|(exact zQ (by omega))|skip
     refine hL1 _ ⟨j+1,by omega,by omega,?_⟩
     rw [←Xl (by omega)]
     refine zd rfl ?_ ?_ ?_<;>simp only [zl,zk,push_cast,↓zK,↓zJ,↓reduceIte,zA,zB,zC,zD,zE,zF,zG,zH,zI,reduceCtorEq]
     all_goals first|rfl|skip
    ·
     refine zr ?_
     have hjj:n=j:=by omega
     subst hjj
     rw [Jb]
     (try simp only [zS,zT,reduceIte,zF]);refine hK4 _ ?_
     refine zM fun K hK=> ?_
     refine yN false zO zN xM ?_ rfl ?_
     ·kernel_rfl
     intro E hE
     all_goals simp only [push_cast,↓zK,↓zJ,↓reduceIte,zA,zB,zC,zD,zE,zF,zG,zH,zI,reduceCtorEq]
     all_goals repeat'(first|(apply zP<;>(intro hg;(try simp only [push_cast]at hg)))|apply And.intro|(intro hg;(try simp only [push_cast]at hg)))
     all_goals first|exact gA|(refine hE _ _ ?_ ?_;kernel_rfl)|(exact zQ (by omega))|skip
     all_goals clear hE E
     all_goals first|(refine hK _ ?_;clear hK K)|(simp only [push_cast];done)
     refine zp false zO zN ?_ rfl ?_
     ·kernel_rfl
     simp only [push_cast,↓zK,↓zJ,↓reduceIte,zA,zB,zC,zD,zE,zF,zG,zH,zI,reduceCtorEq]
     all_goals repeat'(first|(apply zP<;>(intro hg;(try simp only [push_cast]at hg)))|apply And.intro|(intro hg;(try simp only [push_cast]at hg)))
     all_goals first|exact gA|(exact zQ (by omega))|skip
     (try simp only [zS,zT,reduceIte,zF]);refine hK3 _ ?_
     refine Qi [.sl 22, .sl 22] 5 ?_
     simp only [push_cast,↓zK,↓zJ,↓reduceIte,zA,zB,zC,zD,zE,zF,zG,zH,zI,reduceCtorEq]
     refine zL zO zN [] rfl ?_
     all_goals simp only [push_cast,↓zK,↓zJ,↓reduceIte,zA,zB,zC,zD,zE,zF,zG,zH,zI,reduceCtorEq]
     all_goals repeat'(first|(apply zP<;>(intro hg;(try simp only [push_cast]at hg)))|apply And.intro|(intro hg;(try simp only [push_cast]at hg)))
     all_goals first|exact gA|(exact zQ (by omega))|skip
     refine hL0 _ ⟨k+1,by omega,by omega,?_⟩
     (try rw [List.take_of_length_le (l:=List.replicate k (List.replicate n (0:Int))) (by omega)])
     (try rw [List.take_of_length_le (l:=List.replicate k (List.replicate n (-1:Int))) (by omega)])
     (try rw [List.take_of_length_le (l:=List.replicate n (0:Int)) (by simp)])
     (try rw [List.take_of_length_le (l:=List.replicate n (-1:Int)) (by simp)])
     rw [WQ,WQ]
     refine zd rfl ?_ ?_ ?_<;>simp only [zl,zk,push_cast,↓zK,↓zJ,↓reduceIte,zA,zB,zC,zD,zE,zF,zG,zH,zI,reduceCtorEq]
     all_goals first|rfl|exact⟨rfl,rfl⟩|skip
  ·
   refine zr ?_
   have hkk:k=c:=by omega
   subst hkk
   (try simp only [zS,zT,reduceIte,zF]);refine hK1 _ ?_
   refine zM fun K hK=> ?_
   refine zL zO zN [] rfl ?_
   all_goals simp only [push_cast,↓zK,↓zJ,↓reduceIte,zA,zB,zC,zD,zE,zF,zG,zH,zI,reduceCtorEq]
   all_goals repeat'(first|(apply zP<;>(intro hg;(try simp only [push_cast]at hg)))|apply And.intro|(intro hg;(try simp only [push_cast]at hg)))
   all_goals first|exact gA|(exact zQ (by omega))|skip
   all_goals first|(refine hK _ ?_;clear hK K)|(simp only [push_cast];done)
   refine zc ?_
   (try simp only [zS,zT])
   refine⟨Or.inl rfl,?_⟩
   simp only [zh,yY,xR,push_cast,↓zK,↓zJ,↓reduceIte,zA,zB,zC,zD,zE,zF,zG,zH,zI,reduceCtorEq]
   all_goals first|rfl|exact⟨rfl,rfl⟩|(simp;done)
end Go.Proofs.Ythepmdkpbjfdcaa
