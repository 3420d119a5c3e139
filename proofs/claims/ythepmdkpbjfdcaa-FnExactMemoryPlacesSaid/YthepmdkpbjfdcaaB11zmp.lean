/- the places of a memory: the reference's walk -/
import Derived.Test.YthepmdkpbjfdcaaB10zmp
import Derived.Test.YthepmdkpbjfdcaaB9zmp
import Derived.Test.YthepmdkpbjfdcaaB6zmp
namespace Go.Proofs.Ythepmdkpbjfdcaa
open Nat renaming reduceMod → zA, reduceMul → zB, reduceDiv → zC, reduceAdd → zD, reduceSub → zE, reduceEqDiff → zF, reduceBEq → zG, reduceLT → zH, reduceLeDiff → zI
open Go.RowKit
set_option linter.unusedVariables false
set_option linter.unusedSimpArgs false
def wM (N j:Nat):List Int:=(List.range N).map fun i=>if i<j then -1 else 0
theorem UE (N j:Nat):(wM N j).length=N:=by simp [wM]
theorem zBg (N:Nat):wM N 0=List.replicate N 0:=by
 unfold wM
 rw [List.eq_replicate_iff]
 refine⟨by simp,fun b hb=> ?_⟩
 obtain⟨i,-,rfl⟩:=List.mem_map.1 hb
 rw [if_neg (by omega)]
theorem UF {N j:Nat}(h:j<N):(wM N j).set j (-1)=wM N (j+1):=by
 refine List.ext_getElem? fun i=> ?_
 rw [List.getElem?_set]
 unfold wM
 rw [List.length_map,List.length_range,List.getElem?_map,List.getElem?_map]
 by_cases e:j=i
 ·subst e;rw [if_pos rfl,if_pos h,List.getElem?_range h];simp
 ·rw [if_neg e]
  by_cases h2:i<N
  ·rw [List.getElem?_range h2]
   simp only [Option.map_some]
   by_cases h3:i<j
   ·rw [if_pos h3,if_pos (by omega)]
   ·rw [if_neg h3,if_neg (by omega)]
  ·rw [List.getElem?_eq_none (by simp;omega)];rfl
theorem UD (n k:Nat):wM (n*k) (n*k)=whV n k []:=by
 unfold wM whV
 refine List.map_congr_left fun i hi=> ?_
 rw [if_pos (List.mem_range.1 hi),WE]
theorem Uq {n k:Nat}{s:Int}(hs:0≤s∧s<n)(hk:1≤k):(whV n k []).set s.toNat 0=whV n k [⟨s,[0]⟩]:=by
 have :=kZ (n:=n) (k:=k) (ps:= []) (u:=s) (t:=0) hs (by omega) (by rw [WE];decide)
 rw [Int.zero_mul,Int.zero_add]at this
 exact this
theorem mulT {t n:Int}(h:0≤t∧t≤24)(h2:0≤n∧n≤256):0≤t*n∧t*n≤6144:=by
 have h3:=Int.mul_nonneg h.1 h2.1
 have h4:=Int.mul_le_mul h.2 h2.2 h2.1 (by decide)
 exact⟨h3,by omega⟩
set_option maxRecDepth 20000 in
set_option maxHeartbeats 8000000 in
theorem uF (a:Ar)(ha:a.Ln 1048576)(m:Me)(hm:m.Ln 1048576)(s:Int)(h:MmI a m s):Fn Try.prog tyT 67 [.agg (dAr a), .agg (dMe m), .c (.int .i64 s)] [.c (.lst 102 (yF (stM a m s 6145))), .c (DII (rsM a m s (stM a m s 6145).length))]:=by
 have hno:=ha.owner
 have hnn:=ha.next.1
 have hrr9: ∀v,(gl a.next v).length≤1048576:=fun v=>wO ha.next v
 unfold LnI at hno
 have hal:=xE h.ar
 obtain⟨hk0,hkm⟩:=vD h.mem
 have hs0:=h.st
 have hnk0:a.owner.length*m.next.length≤256*24:=Nat.mul_le_mul (by omega) (by omega)
 have hnk1:a.owner.length*1≤a.owner.length*m.next.length:=Nat.mul_le_mul_left _ (by omega)
 have hcast:(((a.owner.length*m.next.length):Nat):Int)=(a.owner.length:Int)*m.next.length:=by push_cast
 have hcn:((a.owner.length:Int)*m.next.length).toNat=(a.owner.length*m.next.length):=by rw [←hcast];exact Int.toNat_natCast _
 unfold dAr dMe
 refine yM (fn:=Try.f67) (ts:= [6,7]) Try.func67 (by kernel_rfl) rfl rfl (by rw [Try.ntmps67];exact Nat.le_of_ble_eq_true rfl) rfl (by simp only [szA,List.mem_cons,List.not_mem_nil,or_false,forall_eq_or_imp,forall_eq,VT.cells,szL];try decide) ?_
 rw [Try.ntmps67]
 simp only [push_cast,↓zK,↓zJ,↓reduceIte,zA,zB,zC,zD,zE,zF,zG,zH,zI,reduceCtorEq]
 refine zL fun K hK=> ?_
 refine zM zO zN [] rfl ?_
 all_goals simp only [push_cast,↓zK,↓zJ,↓reduceIte,zA,zB,zC,zD,zE,zF,zG,zH,zI,reduceCtorEq]
 all_goals repeat'(first|(apply zP<;>(intro hg;(try simp only [push_cast]at hg)))|apply And.intro|(intro hg;(try simp only [push_cast]at hg)))
 all_goals first|exact gA|(exact zQ (by omega))|skip
 all_goals first|(refine hK _ ?_;clear hK K)|(simp only [push_cast];done)
 refine zL fun K hK=> ?_
 refine zM zO zN [] rfl ?_
 all_goals simp only [push_cast,↓zK,↓zJ,↓reduceIte,zA,zB,zC,zD,zE,zF,zG,zH,zI,reduceCtorEq]
 all_goals repeat'(first|(apply zP<;>(intro hg;(try simp only [push_cast]at hg)))|apply And.intro|(intro hg;(try simp only [push_cast]at hg)))
 all_goals first|exact gA|(exact zQ (by omega))|skip
 all_goals first|(refine hK _ ?_;clear hK K)|(simp only [push_cast];done)
 refine zL fun K hK=> ?_
 refine zM zO zN [] rfl ?_
 all_goals simp only [push_cast,↓zK,↓zJ,↓reduceIte,zA,zB,zC,zD,zE,zF,zG,zH,zI,reduceCtorEq]
 all_goals repeat'(first|(apply zP<;>(intro hg;(try simp only [push_cast]at hg)))|apply And.intro|(intro hg;(try simp only [push_cast]at hg)))
 all_goals first|exact gA|(exact zQ (by omega))|skip
 all_goals first|(refine hK _ ?_;clear hK K)|(simp only [push_cast];done)
 refine zL fun K1 hK1=> ?_
 refine zL fun K hK=> ?_
 refine zM zO zN [] rfl ?_
 all_goals simp only [push_cast,↓zK,↓zJ,↓reduceIte,zA,zB,zC,zD,zE,zF,zG,zH,zI,reduceCtorEq]
 all_goals repeat'(first|(apply zP<;>(intro hg;(try simp only [push_cast]at hg)))|apply And.intro|(intro hg;(try simp only [push_cast]at hg)))
 all_goals first|exact gA|(exact zQ (by omega))|skip
 all_goals first|(refine hK _ ?_;clear hK K)|(simp only [push_cast];done)
 refine zd ?_
 refine zw [10,29,30,31,32,33,34,35,36,37] [144] (fun(j:Nat)=> [(10, .int .i64 j)]) (fun j=> []) (fun j=> [(144,⟨.ex,2,dI (wM (a.owner.length*m.next.length) j),none⟩)]) (fun j=>j≤(a.owner.length*m.next.length)) (fun j=>(a.owner.length*m.next.length) - j) 0 ?_ (by omega) ?_
 ·
  rw [zBg]
  refine zg rfl ?_ ?_ ?_<;>simp only [zq,zp,push_cast,↓zK,↓zJ,↓reduceIte,zA,zB,zC,zD,zE,zF,zG,zH,zI,reduceCtorEq]
  all_goals first|rfl|skip
 ·rintro j hj KL0 hL0
  have hfl:=UE (a.owner.length*m.next.length) j
  simp only [push_cast,↓zK,↓zJ,↓reduceIte,zA,zB,zC,zD,zE,zF,zG,zH,zI,reduceCtorEq]
  refine zL fun K2 hK2=> ?_
  refine zL fun K hK=> ?_
  refine zM zO zN [] rfl ?_
  all_goals simp only [push_cast,↓zK,↓zJ,↓reduceIte,zA,zB,zC,zD,zE,zF,zG,zH,zI,reduceCtorEq]
  all_goals repeat'(first|(apply zP<;>(intro hg;(try simp only [push_cast]at hg)))|apply And.intro|(intro hg;(try simp only [push_cast]at hg)))
  all_goals first|exact gA|(exact zQ (by omega))|skip
  all_goals first|(refine hK _ ?_;clear hK K)|(simp only [push_cast];done)
  refine zU rfl (fun hc=> ?_) (fun hc=> ?_)<;>(try simp only [push_cast]at hc)
  ·
   refine zY ?_
   (try simp only [zR,zS,reduceIte,zF]);refine hK2 _ ?_
   refine zL fun K3 hK3=> ?_
   refine zd ?_
   refine zM zO zN [] rfl ?_
   all_goals simp only [push_cast,↓zK,↓zJ,↓reduceIte,zA,zB,zC,zD,zE,zF,zG,zH,zI,reduceCtorEq]
   all_goals repeat'(first|(apply zP<;>(intro hg;(try simp only [push_cast]at hg)))|apply And.intro|(intro hg;(try simp only [push_cast]at hg)))
   all_goals first|exact gA|(exact zQ (by omega))|skip
   (try simp only [zR,zS,reduceIte,zF]);refine hK3 _ ?_
   refine zM zO zN [] rfl ?_
   all_goals simp only [push_cast,↓zK,↓zJ,↓reduceIte,zA,zB,zC,zD,zE,zF,zG,zH,zI,reduceCtorEq]
   all_goals repeat'(first|(apply zP<;>(intro hg;(try simp only [push_cast]at hg)))|apply And.intro|(intro hg;(try simp only [push_cast]at hg)))
   all_goals first|exact gA|(exact zQ (by omega))|skip
   refine hL0 _ ⟨j+1,by omega,by omega,?_⟩
   rw [←UF (by omega)]
   refine zg rfl ?_ ?_ ?_<;>simp only [zq,zp,push_cast,↓zK,↓zJ,↓reduceIte,zA,zB,zC,zD,zE,zF,zG,zH,zI,reduceCtorEq]
   all_goals first|rfl|skip
  ·
   refine yA ?_
   have hjj:j=(a.owner.length*m.next.length):=by omega
   subst hjj
   rw [UD]
   have hwl0:=QE a.owner.length m.next.length []
   (try simp only [zR,zS,reduceIte,zF]);refine hK1 _ ?_
   refine zL fun K hK=> ?_
   refine zm false zO zN ?_ rfl ?_
   ·kernel_rfl
   simp only [push_cast,↓zK,↓zJ,↓reduceIte,zA,zB,zC,zD,zE,zF,zG,zH,zI,reduceCtorEq]
   all_goals repeat'(first|(apply zP<;>(intro hg;(try simp only [push_cast]at hg)))|apply And.intro|(intro hg;(try simp only [push_cast]at hg)))
   all_goals first|exact gA|(exact zQ (by omega))|skip
   all_goals first|(refine hK _ ?_;clear hK K)|(simp only [push_cast];done)
   refine wi 102 11 (Nat.le_of_ble_eq_true rfl) ?_
   simp only [push_cast,↓zK,↓zJ,↓reduceIte,zA,zB,zC,zD,zE,zF,zG,zH,zI,reduceCtorEq]
   refine zL fun K hK=> ?_
   refine zM zO zN [] rfl ?_
   all_goals simp only [push_cast,↓zK,↓zJ,↓reduceIte,zA,zB,zC,zD,zE,zF,zG,zH,zI,reduceCtorEq]
   all_goals repeat'(first|(apply zP<;>(intro hg;(try simp only [push_cast]at hg)))|apply And.intro|(intro hg;(try simp only [push_cast]at hg)))
   all_goals first|exact gA|(exact zQ (by omega))|skip
   all_goals first|(refine hK _ ?_;clear hK K)|(simp only [push_cast];done)
   refine zL fun K hK=> ?_
   refine zm false zO zN ?_ rfl ?_
   ·kernel_rfl
   simp only [push_cast,↓zK,↓zJ,↓reduceIte,zA,zB,zC,zD,zE,zF,zG,zH,zI,reduceCtorEq]
   all_goals repeat'(first|(apply zP<;>(intro hg;(try simp only [push_cast]at hg)))|apply And.intro|(intro hg;(try simp only [push_cast]at hg)))
   all_goals first|exact gA|(exact zQ (by omega))|skip
   all_goals first|(refine hK _ ?_;clear hK K)|(simp only [push_cast];done)
   refine zL fun K4 hK4=> ?_
   refine wi 22 12 (Nat.le_of_ble_eq_true rfl) ?_
   simp only [push_cast,↓zK,↓zJ,↓reduceIte,zA,zB,zC,zD,zE,zF,zG,zH,zI,reduceCtorEq]
   refine zL fun K hK=> ?_
   refine zM zO zN [] rfl ?_
   all_goals simp only [push_cast,↓zK,↓zJ,↓reduceIte,zA,zB,zC,zD,zE,zF,zG,zH,zI,reduceCtorEq]
   all_goals repeat'(first|(apply zP<;>(intro hg;(try simp only [push_cast]at hg)))|apply And.intro|(intro hg;(try simp only [push_cast]at hg)))
   all_goals first|exact gA|(exact zQ (by omega))|skip
   all_goals first|(refine hK _ ?_;clear hK K)|(simp only [push_cast];done)
   refine zd ?_
   refine zw [11,12,13,14,15,16,17,18,19,46,47,48,49,50,51,52,53,54,55,56,57,58,59,60,61,62,63,64,65,66,67,68,69,70,71,72,73,74,75,76,77,78,79,80,81,82,83,84,85,86,87,88,89,90,91,92,93,94,95,96,97,98,99,100,101,102,103,104,105,106,107,108,109,110,111,112,113,114,115,116,117,118,119,120,121,122,123,124,125,126,127,128] [144] (fun(i:Nat)=> [(13, .int .i64 i),(11, .sl 176 [] 0 (stM a m s i).length 102),(12, .sl 192 [] 0 i 22)]) (fun i=> []) (fun i=> [(176,⟨.ex,102,yF (stM a m s i),none⟩),(192,⟨.ex,22,dII (rsM a m s i),none⟩),(144,⟨.ex,2,dI (whV a.owner.length m.next.length (stM a m s i)),none⟩)]) (fun i=>i≤(stM a m s i).length) (fun i=>6145 - i) 0 ?_ (by show 0≤1;decide) ?_
   ·
    rw [show stM a m s 0= [⟨s,[0]⟩]from rfl,zBC,←Uq hs0 hk0.1]
    refine zg rfl ?_ ?_ ?_<;>simp only [zq,zp,push_cast,↓zK,↓zJ,↓reduceIte,zA,zB,zC,zD,zE,zF,zG,zH,zI,reduceCtorEq]
    all_goals first|exact⟨rfl,rfl⟩|exact⟨rfl,rfl,rfl⟩|rfl|skip
   ·rintro i hi KL1 hL1
    have hfew:=uA h i
    have hrs:=kX a m s i
    have hwl1:=QE a.owner.length m.next.length (stM a m s i)
    have hq:QLn 1048576 (stM a m s i):=⟨by omega,fun p hp=>by rw [(vc h i p hp).2.2.1];show 1≤1048576;decide⟩
    simp only [push_cast,↓zK,↓zJ,↓reduceIte,zA,zB,zC,zD,zE,zF,zG,zH,zI,reduceCtorEq]
    refine zL fun K5 hK5=> ?_
    refine zL fun K hK=> ?_
    refine zM zO zN [] rfl ?_
    all_goals simp only [push_cast,↓zK,↓zJ,↓reduceIte,zA,zB,zC,zD,zE,zF,zG,zH,zI,reduceCtorEq]
    all_goals repeat'(first|(apply zP<;>(intro hg;(try simp only [push_cast]at hg)))|apply And.intro|(intro hg;(try simp only [push_cast]at hg)))
    all_goals first|exact gA|(exact zQ (by omega))|skip
    all_goals first|(refine hK _ ?_;clear hK K)|(simp only [push_cast];done)
    refine zU rfl (fun hc=> ?_) (fun hc=> ?_)<;>(try simp only [push_cast]at hc)
    ·
     refine zY ?_
     (try simp only [zR,zS,reduceIte,zF]);refine hK5 _ ?_
     refine zL fun K6 hK6=> ?_
     refine zd ?_
     have hi2:i<(stM a m s i).length:=by omega
     have hP:=vc h i _ (XR hi2)
     obtain⟨hU1,hU2,hN1,hN2⟩:=Vs h hP
     have hE:=jg a m s h _ hP
     unfold dAr dMe at hE
     obtain⟨hP1,hP2,hP3,hP4,hP5⟩:=hP
     have hPl:(gq (stM a m s i) i).record.length=1:=by rw [hP3];rfl
     obtain⟨hr1,hr2,hr3⟩:=hkm (gi (gq (stM a m s i) i).record 0).toNat (by omega)
     unfold ntM at hN1 hN2
     have hTn:=mulT (t:=(gi (gl m.next (gi (gq (stM a m s i) i).record 0).toNat) (gq (stM a m s i) i).at_.toNat)) (n:=a.owner.length) (by omega) (by omega)
     refine zL fun K hK=> ?_
     refine zM zO zN [] rfl ?_
     all_goals simp only [push_cast,↓zK,↓zJ,↓reduceIte,zA,zB,zC,zD,zE,zF,zG,zH,zI,reduceCtorEq]
     all_goals repeat'(first|(apply zP<;>(intro hg;(try simp only [push_cast]at hg)))|apply And.intro|(intro hg;(try simp only [push_cast]at hg)))
     all_goals first|exact gA|(exact zQ (by omega))|skip
     all_goals first|(refine hK _ ?_;clear hK K)|(simp only [push_cast];done)
     refine zL fun K hK=> ?_
     refine zM zO zN [] rfl ?_
     all_goals simp only [push_cast,↓zK,↓zJ,↓reduceIte,zA,zB,zC,zD,zE,zF,zG,zH,zI,reduceCtorEq]
     all_goals repeat'(first|(apply zP<;>(intro hg;(try simp only [push_cast]at hg)))|apply And.intro|(intro hg;(try simp only [push_cast]at hg)))
     all_goals first|exact gA|(exact zQ (by omega))|skip
     all_goals first|(refine hK _ ?_;clear hK K)|(simp only [push_cast];done)
     refine zL fun K hK=> ?_
     refine jb 68 zO zN [] rfl ?_
     all_goals simp only [push_cast,↓zK,↓zJ,↓reduceIte,zA,zB,zC,zD,zE,zF,zG,zH,zI,reduceCtorEq]
     all_goals repeat'(first|(apply zP<;>(intro hg;(try simp only [push_cast]at hg)))|(refine⟨_,_,hE,?_⟩;(try simp only [push_cast,↓zK,↓zJ,↓reduceIte,zA,zB,zC,zD,zE,zF,zG,zH,zI,reduceCtorEq]))|apply And.intro|(intro hg;(try simp only [push_cast]at hg)))
     all_goals first|exact gA|(exact zQ (by omega))|skip
     all_goals first|(refine hK _ ?_;clear hK K)|(simp only [push_cast];done)
     refine zL fun K hK=> ?_
     refine zM zO zN [] rfl ?_
     all_goals simp only [push_cast,↓zK,↓zJ,↓reduceIte,zA,zB,zC,zD,zE,zF,zG,zH,zI,reduceCtorEq]
     all_goals repeat'(first|(apply zP<;>(intro hg;(try simp only [push_cast]at hg)))|apply And.intro|(intro hg;(try simp only [push_cast]at hg)))
     all_goals first|exact gA|(exact zQ (by omega))|skip
     all_goals first|(refine hK _ ?_;clear hK K)|(simp only [push_cast];done)
     refine zL fun K7 hK7=> ?_
     refine zL fun K hK=> ?_
     refine zM zO zN [] rfl ?_
     all_goals simp only [push_cast,↓zK,↓zJ,↓reduceIte,zA,zB,zC,zD,zE,zF,zG,zH,zI,reduceCtorEq]
     all_goals repeat'(first|(apply zP<;>(intro hg;(try simp only [push_cast]at hg)))|apply And.intro|(intro hg;(try simp only [push_cast]at hg)))
     all_goals first|exact gA|(exact zQ (by omega))|skip
     all_goals first|(refine hK _ ?_;clear hK K)|(simp only [push_cast];done)
     refine zd ?_
     refine zw [11,17,18,19,47,52,54,55,57,59,60,61,62,70,71,72,73,74,75,76,77,78,79,80,81,82,83,84,85,86,87,88,89,90,91,92,93,94,95,96,97,98,99,100,101,102,103,104,105,106,107,108,109,110,111,112,113,114,115,116,117,118,119,120,121,122,123,124] [144] (fun(k:Nat)=> [(18, .int .i64 k),(11, .sl 176 [] 0 (zi (rcM m (gq (stM a m s i) i)) (usM a m (gq (stM a m s i) i)) (stM a m s i) k).1.length 102),(17, .sl 272 [] 0 k 2)]) (fun k=> []) (fun k=> [(176,⟨.ex,102,yF (zi (rcM m (gq (stM a m s i) i)) (usM a m (gq (stM a m s i) i)) (stM a m s i) k).1,none⟩),(272,⟨.ex,2,dI (zi (rcM m (gq (stM a m s i) i)) (usM a m (gq (stM a m s i) i)) (stM a m s i) k).2,none⟩),(144,⟨.ex,2,dI (whV a.owner.length m.next.length (zi (rcM m (gq (stM a m s i) i)) (usM a m (gq (stM a m s i) i)) (stM a m s i) k).1),none⟩)]) (fun k=>k≤(usM a m (gq (stM a m s i) i)).length) (fun k=>(usM a m (gq (stM a m s i) i)).length - k) 0 ?_ (by omega) ?_
     ·
      rw [Xe]
      refine zg rfl ?_ ?_ ?_<;>simp only [zq,zp,push_cast,↓zK,↓zJ,↓reduceIte,zA,zB,zC,zD,zE,zF,zG,zH,zI,reduceCtorEq]
      all_goals first|rfl|exact⟨rfl,rfl⟩|exact⟨rfl,rfl,rfl⟩|skip
     ·rintro k hk KL2 hL2
      have hrl:=ZI (r:=(rcM m (gq (stM a m s i) i))) (us:=(usM a m (gq (stM a m s i) i))) (ps:=(stM a m s i)) (k:=k) hk
      have hfr:=VS h (i:=i) (k:=k) hi2 hk
      have hwl:=QE a.owner.length m.next.length (zi (rcM m (gq (stM a m s i) i)) (usM a m (gq (stM a m s i) i)) (stM a m s i) k).1
      have huu0:k<(usM a m (gq (stM a m s i) i)).length→0≤(gi (usM a m (gq (stM a m s i) i)) k)∧(gi (usM a m (gq (stM a m s i) i)) k)<(a.owner.length:Int):=fun hk9=>hU2 _ (UJ hk9)
      simp only [push_cast,↓zK,↓zJ,↓reduceIte,zA,zB,zC,zD,zE,zF,zG,zH,zI,reduceCtorEq]
      refine zL fun K8 hK8=> ?_
      refine zL fun K hK=> ?_
      refine zM zO zN [] rfl ?_
      all_goals simp only [push_cast,↓zK,↓zJ,↓reduceIte,zA,zB,zC,zD,zE,zF,zG,zH,zI,reduceCtorEq]
      all_goals repeat'(first|(apply zP<;>(intro hg;(try simp only [push_cast]at hg)))|apply And.intro|(intro hg;(try simp only [push_cast]at hg)))
      all_goals first|exact gA|(exact zQ (by omega))|skip
      all_goals first|(refine hK _ ?_;clear hK K)|(simp only [push_cast];done)
      refine zU rfl (fun hc=> ?_) (fun hc=> ?_)<;>(try simp only [push_cast]at hc)
      ·
       refine zY ?_
       (try simp only [zR,zS,reduceIte,zF]);refine hK8 _ ?_
       refine zL fun K9 hK9=> ?_
       refine zd ?_
       have huu:=huu0 (by omega)
       have hwx:gi (whV a.owner.length m.next.length (zi (rcM m (gq (stM a m s i) i)) (usM a m (gq (stM a m s i) i)) (stM a m s i) k).1) ((gi (gl m.next (gi (gq (stM a m s i) i).record 0).toNat) (gq (stM a m s i) i).at_.toNat)*(a.owner.length:Int)+(gi (usM a m (gq (stM a m s i) i)) k)).toNat=ixQ (yN (gi (usM a m (gq (stM a m s i) i)) k) (rcM m (gq (stM a m s i) i))) (zi (rcM m (gq (stM a m s i) i)) (usM a m (gq (stM a m s i) i)) (stM a m s i) k).1:=(Vt huu ⟨hN1,hN2⟩).2
       have hwb:((gi (gl m.next (gi (gq (stM a m s i) i).record 0).toNat) (gq (stM a m s i) i).at_.toNat)*(a.owner.length:Int)+(gi (usM a m (gq (stM a m s i) i)) k)).toNat<(a.owner.length*m.next.length):=(Vt (ps:=(zi (rcM m (gq (stM a m s i) i)) (usM a m (gq (stM a m s i) i)) (stM a m s i) k).1) huu ⟨hN1,hN2⟩).1
       refine zL fun K hK=> ?_
       refine xk false zO zN qg ?_ rfl ?_
       ·kernel_rfl
       intro E hE
       all_goals simp only [push_cast,↓zK,↓zJ,↓reduceIte,zA,zB,zC,zD,zE,zF,zG,zH,zI,reduceCtorEq]
       all_goals repeat'(first|(apply zP<;>(intro hg;(try simp only [push_cast]at hg)))|apply And.intro|(intro hg;(try simp only [push_cast]at hg)))
       all_goals first|exact gA|(refine hE _ _ ?_ ?_;kernel_rfl)|(exact zQ (by omega))|skip
       all_goals clear hE E
       all_goals first|(refine hK _ ?_;clear hK K)|(simp only [push_cast];done)
       refine zL fun K10 hK10=> ?_
       by_cases hx:ixQ (yN (gi (usM a m (gq (stM a m s i) i)) k) (rcM m (gq (stM a m s i) i))) (zi (rcM m (gq (stM a m s i) i)) (usM a m (gq (stM a m s i) i)) (stM a m s i) k).1<0
       ·
        refine zL fun K hK=> ?_
        refine zM zO zN [] rfl ?_
        all_goals simp only [push_cast,↓zK,↓zJ,↓reduceIte,zA,zB,zC,zD,zE,zF,zG,zH,zI,reduceCtorEq]
        all_goals repeat'(first|(apply zP<;>(intro hg;(try simp only [push_cast]at hg)))|apply And.intro|(intro hg;(try simp only [push_cast]at hg)))
        all_goals first|exact gA|(exact zQ (by omega))|skip
        all_goals first|(refine hK _ ?_;clear hK K)|(simp only [push_cast];done)
        refine zU rfl (fun hc=> ?_) (fun hc=> ?_)
        rotate_left
        ·exfalso;first|(cases hc;done)|(simp only [push_cast]at hc;done)|(simp only [push_cast]at hc;omega)|omega
        have hws:(whV a.owner.length m.next.length (zi (rcM m (gq (stM a m s i) i)) (usM a m (gq (stM a m s i) i)) (stM a m s i) k).1).set ((gi (gl m.next (gi (gq (stM a m s i) i).record 0).toNat) (gq (stM a m s i) i).at_.toNat)*(a.owner.length:Int)+(gi (usM a m (gq (stM a m s i) i)) k)).toNat ((zi (rcM m (gq (stM a m s i) i)) (usM a m (gq (stM a m s i) i)) (stM a m s i) k).1.length:Int)=(whV a.owner.length m.next.length ((zi (rcM m (gq (stM a m s i) i)) (usM a m (gq (stM a m s i) i)) (stM a m s i) k).1++ [⟨(gi (usM a m (gq (stM a m s i) i)) k),[(gi (gl m.next (gi (gq (stM a m s i) i).record 0).toNat) (gq (stM a m s i) i).at_.toNat)]⟩])):=kZ huu ⟨hN1,hN2⟩ hx
        refine zL fun K hK=> ?_
        refine zM zO zN [] rfl ?_
        all_goals simp only [push_cast,↓zK,↓zJ,↓reduceIte,zA,zB,zC,zD,zE,zF,zG,zH,zI,reduceCtorEq]
        all_goals repeat'(first|(apply zP<;>(intro hg;(try simp only [push_cast]at hg)))|apply And.intro|(intro hg;(try simp only [push_cast]at hg)))
        all_goals first|exact gA|(exact zQ (by omega))|skip
        all_goals first|(refine hK _ ?_;clear hK K)|(simp only [push_cast];done)
        all_goals rw [hws]
        refine xk false zO zN qg ?_ rfl ?_
        ·kernel_rfl
        intro E hE
        all_goals simp only [push_cast,↓zK,↓zJ,↓reduceIte,zA,zB,zC,zD,zE,zF,zG,zH,zI,reduceCtorEq]
        all_goals repeat'(first|(apply zP<;>(intro hg;(try simp only [push_cast]at hg)))|apply And.intro|(intro hg;(try simp only [push_cast]at hg)))
        all_goals first|exact gA|(refine hE _ _ ?_ ?_;kernel_rfl)|(exact zQ (by omega))|skip
        all_goals clear hE E
        (try simp only [zR,zS,reduceIte,zF]);refine hK10 _ ?_
        refine wi 102 11 (Nat.le_of_ble_eq_true rfl) ?_
        simp only [push_cast,↓zK,↓zJ,↓reduceIte,zA,zB,zC,zD,zE,zF,zG,zH,zI,reduceCtorEq]
        have hwl2:=QE a.owner.length m.next.length ((zi (rcM m (gq (stM a m s i) i)) (usM a m (gq (stM a m s i) i)) (stM a m s i) k).1++ [⟨(gi (usM a m (gq (stM a m s i) i)) k),[(gi (gl m.next (gi (gq (stM a m s i) i).record 0).toNat) (gq (stM a m s i) i).at_.toNat)]⟩])
        have hwn:gi (whV a.owner.length m.next.length ((zi (rcM m (gq (stM a m s i) i)) (usM a m (gq (stM a m s i) i)) (stM a m s i) k).1++ [⟨(gi (usM a m (gq (stM a m s i) i)) k),[(gi (gl m.next (gi (gq (stM a m s i) i).record 0).toNat) (gq (stM a m s i) i).at_.toNat)]⟩])) ((gi (gl m.next (gi (gq (stM a m s i) i).record 0).toNat) (gq (stM a m s i) i).at_.toNat)*(a.owner.length:Int)+(gi (usM a m (gq (stM a m s i) i)) k)).toNat=((zi (rcM m (gq (stM a m s i) i)) (usM a m (gq (stM a m s i) i)) (stM a m s i) k).1.length:Int):=by rw [(Vt huu ⟨hN1,hN2⟩).2,Kj,if_pos (show ixQ (yN (gi (usM a m (gq (stM a m s i) i)) k) [(gi (gl m.next (gi (gq (stM a m s i) i).record 0).toNat) (gq (stM a m s i) i).at_.toNat)]) (zi (rcM m (gq (stM a m s i) i)) (usM a m (gq (stM a m s i) i)) (stM a m s i) k).1<0 from hx),ZY (p:=⟨(gi (usM a m (gq (stM a m s i) i)) k),[(gi (gl m.next (gi (gq (stM a m s i) i).record 0).toNat) (gq (stM a m s i) i).at_.toNat)]⟩) rfl rfl,if_pos rfl]
        refine zM zO zN [] rfl ?_
        all_goals simp only [push_cast,↓zK,↓zJ,↓reduceIte,zA,zB,zC,zD,zE,zF,zG,zH,zI,reduceCtorEq]
        all_goals repeat'(first|(apply zP<;>(intro hg;(try simp only [push_cast]at hg)))|apply And.intro|(intro hg;(try simp only [push_cast]at hg)))
        all_goals first|exact gA|(exact zQ (by omega))|skip
        all_goals rw [hwn]
        (try simp only [zR,zS,reduceIte,zF]);refine hK9 _ ?_
        refine zM zO zN [] rfl ?_
        all_goals simp only [push_cast,↓zK,↓zJ,↓reduceIte,zA,zB,zC,zD,zE,zF,zG,zH,zI,reduceCtorEq]
        all_goals repeat'(first|(apply zP<;>(intro hg;(try simp only [push_cast]at hg)))|apply And.intro|(intro hg;(try simp only [push_cast]at hg)))
        all_goals first|exact gA|(exact zQ (by omega))|skip
        refine hL2 _ ⟨k+1,by omega,by omega,?_⟩
        (try rw [List.take_of_length_le (l:=(zi (rcM m (gq (stM a m s i) i)) (usM a m (gq (stM a m s i) i)) (stM a m s i) k).2) (by omega)])
        rw [qp (by omega) hx]
        refine zg rfl ?_ ?_ ?_<;>simp only [zq,zp,push_cast,↓zK,↓zJ,↓reduceIte,zA,zB,zC,zD,zE,zF,zG,zH,zI,reduceCtorEq]
        all_goals first|rfl|(rw [List.length_append];rfl)|exact⟨rfl,rfl⟩|exact⟨rfl,rfl,rfl⟩|skip
       ·
        refine zL fun K hK=> ?_
        refine zM zO zN [] rfl ?_
        all_goals simp only [push_cast,↓zK,↓zJ,↓reduceIte,zA,zB,zC,zD,zE,zF,zG,zH,zI,reduceCtorEq]
        all_goals repeat'(first|(apply zP<;>(intro hg;(try simp only [push_cast]at hg)))|apply And.intro|(intro hg;(try simp only [push_cast]at hg)))
        all_goals first|exact gA|(exact zQ (by omega))|skip
        all_goals first|(refine hK _ ?_;clear hK K)|(simp only [push_cast];done)
        refine zU rfl (fun hc=> ?_) (fun hc=> ?_)
        skip
        ·exfalso;first|(cases hc;done)|(simp only [push_cast]at hc;done)|(simp only [push_cast]at hc;omega)|omega
        refine zY ?_
        (try simp only [zR,zS,reduceIte,zF]);refine hK10 _ ?_
        refine zM zO zN [] rfl ?_
        all_goals simp only [push_cast,↓zK,↓zJ,↓reduceIte,zA,zB,zC,zD,zE,zF,zG,zH,zI,reduceCtorEq]
        all_goals repeat'(first|(apply zP<;>(intro hg;(try simp only [push_cast]at hg)))|apply And.intro|(intro hg;(try simp only [push_cast]at hg)))
        all_goals first|exact gA|(exact zQ (by omega))|skip
        all_goals rw [hwx]
        (try simp only [zR,zS,reduceIte,zF]);refine hK9 _ ?_
        refine zM zO zN [] rfl ?_
        all_goals simp only [push_cast,↓zK,↓zJ,↓reduceIte,zA,zB,zC,zD,zE,zF,zG,zH,zI,reduceCtorEq]
        all_goals repeat'(first|(apply zP<;>(intro hg;(try simp only [push_cast]at hg)))|apply And.intro|(intro hg;(try simp only [push_cast]at hg)))
        all_goals first|exact gA|(exact zQ (by omega))|skip
        refine hL2 _ ⟨k+1,by omega,by omega,?_⟩
        (try rw [List.take_of_length_le (l:=(zi (rcM m (gq (stM a m s i) i)) (usM a m (gq (stM a m s i) i)) (stM a m s i) k).2) (by omega)])
        rw [qq (by omega) hx]
        refine zg rfl ?_ ?_ ?_<;>simp only [zq,zp,push_cast,↓zK,↓zJ,↓reduceIte,zA,zB,zC,zD,zE,zF,zG,zH,zI,reduceCtorEq]
        all_goals first|rfl|(rw [List.length_append];rfl)|exact⟨rfl,rfl⟩|exact⟨rfl,rfl,rfl⟩|skip
      ·
       refine yA ?_
       have hkk:k=(usM a m (gq (stM a m s i) i)).length:=by omega
       subst hkk
       have hst:stM a m s (i+1)=(zi (rcM m (gq (stM a m s i) i)) (usM a m (gq (stM a m s i) i)) (stM a m s i) (usM a m (gq (stM a m s i) i)).length).1:=Jk (a:=a) (m:=m) (s:=s) hi2
       have hrw:rwM a m s i=(zi (rcM m (gq (stM a m s i) i)) (usM a m (gq (stM a m s i) i)) (stM a m s i) (usM a m (gq (stM a m s i) i)).length).2:=rfl
       have htk:List.take (usM a m (gq (stM a m s i) i)).length (zi (rcM m (gq (stM a m s i) i)) (usM a m (gq (stM a m s i) i)) (stM a m s i) (usM a m (gq (stM a m s i) i)).length).2=(zi (rcM m (gq (stM a m s i) i)) (usM a m (gq (stM a m s i) i)) (stM a m s i) (usM a m (gq (stM a m s i) i)).length).2:=List.take_of_length_le (by omega)
       (try simp only [zR,zS,reduceIte,zF]);refine hK7 _ ?_
       refine zm false zO zN ?_ rfl ?_
       ·kernel_rfl
       simp only [push_cast,↓zK,↓zJ,↓reduceIte,zA,zB,zC,zD,zE,zF,zG,zH,zI,reduceCtorEq]
       all_goals repeat'(first|(apply zP<;>(intro hg;(try simp only [push_cast]at hg)))|apply And.intro|(intro hg;(try simp only [push_cast]at hg)))
       all_goals first|exact gA|(exact zQ (by omega))|skip
       (try simp only [zR,zS,reduceIte,zF]);refine hK6 _ ?_
       refine wi 22 12 (Nat.le_of_ble_eq_true rfl) ?_
       simp only [push_cast,↓zK,↓zJ,↓reduceIte,zA,zB,zC,zD,zE,zF,zG,zH,zI,reduceCtorEq]
       refine zM zO zN [] rfl ?_
       all_goals simp only [push_cast,↓zK,↓zJ,↓reduceIte,zA,zB,zC,zD,zE,zF,zG,zH,zI,reduceCtorEq]
       all_goals repeat'(first|(apply zP<;>(intro hg;(try simp only [push_cast]at hg)))|apply And.intro|(intro hg;(try simp only [push_cast]at hg)))
       all_goals first|exact gA|(exact zQ (by omega))|skip
       refine hL1 _ ⟨i+1,(by rw [hst];omega),by omega,?_⟩
       (try rw [List.take_of_length_le (l:=rsM a m s i) (by omega)])
       (try rw [htk])
       rw [hst,Jj,hrw]
       refine zg rfl ?_ ?_ ?_<;>simp only [zq,zp,push_cast,↓zK,↓zJ,↓reduceIte,zA,zB,zC,zD,zE,zF,zG,zH,zI,reduceCtorEq]
       all_goals first|rfl|exact⟨rfl,rfl⟩|skip
    ·
     refine yA ?_
     (try simp only [zR,zS,reduceIte,zF]);refine hK4 _ ?_
     refine zL fun K hK=> ?_
     refine zM zO zN [] rfl ?_
     all_goals simp only [push_cast,↓zK,↓zJ,↓reduceIte,zA,zB,zC,zD,zE,zF,zG,zH,zI,reduceCtorEq]
     all_goals repeat'(first|(apply zP<;>(intro hg;(try simp only [push_cast]at hg)))|apply And.intro|(intro hg;(try simp only [push_cast]at hg)))
     all_goals first|exact gA|(exact zQ (by omega))|skip
     all_goals first|(refine hK _ ?_;clear hK K)|(simp only [push_cast];done)
     refine zb ?_
     (try simp only [zR,zS])
     refine⟨Or.inl rfl,?_⟩
     simp only [zh,push_cast,↓zK,↓zJ,↓reduceIte,zA,zB,zC,zD,zE,zF,zG,zH,zI,reduceCtorEq]
     have hE:=zA6 h (by omega) (show ¬i<(stM a m s i).length by omega)
     rw [hE,show(stM a m s i).length=i by omega,hrs]
     all_goals first|rfl|exact⟨⟨rfl,rfl⟩,rfl,rfl⟩|skip
theorem zBy {a:Ar}{m:Me}{s:Int}(h:(yh a&&vL a m)=false):mmB a m s=false:=by unfold mmB;rw [h];rfl
theorem zBx {a:Ar}{m:Me}{s:Int}:QLn 1048576 (mmP a m s):=by
 cases hB:mmB a m s with
 |false=>rw [Kv hB];exact⟨by simp,by simp⟩
 |true=>
  rw [WN hB]
  have h:=XX hB
  refine⟨by have :=uA h 6145;omega,fun p hp=> ?_⟩
  rw [(vc h _ p hp).2.2.1]
  exact(by decide:1≤1048576)
set_option maxRecDepth 20000 in
set_option maxHeartbeats 4000000 in
theorem QY (a:Ar)(ha:a.Ln 1048576)(m:Me)(hm:m.Ln 1048576)(s:Int):Fn Try.prog tyT 20 [.agg (dAr a), .agg (dMe m), .c (.int .i64 s)] [.c (.lst 102 (yF (mmP a m s)))]:=by
 have hno:=ha.owner
 unfold LnI at hno
 have hA:=jQ a ha
 have hM:=fun h=>jf a ha h m hm
 have hV:=Kg a s
 have hW:=Vb a ha m hm s
 unfold dAr at hA hM hV hW
 unfold dMe at hM hW
 unfold dAr dMe
 refine yM (fn:=Try.f20) (ts:= [6]) Try.func20 (by kernel_rfl) rfl rfl (by rw [Try.ntmps20];exact Nat.le_of_ble_eq_true rfl) rfl (by simp only [szA,List.mem_cons,List.not_mem_nil,or_false,forall_eq_or_imp,forall_eq,VT.cells,szL];try decide) ?_
 rw [Try.ntmps20]
 simp only [push_cast,↓zK,↓zJ,↓reduceIte,zA,zB,zC,zD,zE,zF,zG,zH,zI,reduceCtorEq]
 refine zL fun K hK=> ?_
 refine zM zO zN [] rfl ?_
 all_goals simp only [push_cast,↓zK,↓zJ,↓reduceIte,zA,zB,zC,zD,zE,zF,zG,zH,zI,reduceCtorEq]
 all_goals repeat'(first|(apply zP<;>(intro hg;(try simp only [push_cast]at hg)))|apply And.intro|(intro hg;(try simp only [push_cast]at hg)))
 all_goals first|exact gA|(exact zQ (by omega))|skip
 all_goals first|(refine hK _ ?_;clear hK K)|(simp only [push_cast];done)
 refine zL fun K1 hK1=> ?_
 refine zL fun K hK=> ?_
 refine zm false zO zN ?_ rfl ?_
 ·kernel_rfl
 all_goals refine xD 2 fun K9 hK9=> ?_
 all_goals simp only [push_cast,↓zK,↓zJ,↓reduceIte,zA,zB,zC,zD,zE,zF,zG,zH,zI,reduceCtorEq]
 all_goals repeat'(first|(apply zP<;>(intro hg;(try simp only [push_cast]at hg)))|(refine⟨_,hA,?_⟩;simp only [push_cast,↓zK,↓zJ,↓reduceIte,zA,zB,zC,zD,zE,zF,zG,zH,zI,reduceCtorEq])|(refine⟨_,hM (xE (by with_reducible assumption)).2.2,?_⟩;simp only [push_cast,↓zK,↓zJ,↓reduceIte,zA,zB,zC,zD,zE,zF,zG,zH,zI,reduceCtorEq])|(refine⟨_,hV,?_⟩;simp only [push_cast,↓zK,↓zJ,↓reduceIte,zA,zB,zC,zD,zE,zF,zG,zH,zI,reduceCtorEq])|apply And.intro|(intro hg;(try simp only [push_cast]at hg)))
 all_goals first|exact gA|(exact zQ (by omega))|skip
 all_goals first|(refine hK9 _ ?_;clear hK9 K9)|(simp only [push_cast];done)
 all_goals refine xD 5 fun K9 hK9=> ?_
 all_goals simp only [push_cast,↓zK,↓zJ,↓reduceIte,zA,zB,zC,zD,zE,zF,zG,zH,zI,reduceCtorEq]
 all_goals repeat'(first|(apply zP<;>(intro hg;(try simp only [push_cast]at hg)))|(refine⟨_,hA,?_⟩;simp only [push_cast,↓zK,↓zJ,↓reduceIte,zA,zB,zC,zD,zE,zF,zG,zH,zI,reduceCtorEq])|(refine⟨_,hM (xE (by with_reducible assumption)).2.2,?_⟩;simp only [push_cast,↓zK,↓zJ,↓reduceIte,zA,zB,zC,zD,zE,zF,zG,zH,zI,reduceCtorEq])|(refine⟨_,hV,?_⟩;simp only [push_cast,↓zK,↓zJ,↓reduceIte,zA,zB,zC,zD,zE,zF,zG,zH,zI,reduceCtorEq])|apply And.intro|(intro hg;(try simp only [push_cast]at hg)))
 all_goals first|exact gA|(exact zQ (by omega))|skip
 all_goals first|(refine hK9 _ ?_;clear hK9 K9)|(simp only [push_cast];done)
 all_goals refine xD 6 fun K9 hK9=> ?_
 all_goals simp only [push_cast,↓zK,↓zJ,↓reduceIte,zA,zB,zC,zD,zE,zF,zG,zH,zI,reduceCtorEq]
 all_goals repeat'(first|(apply zP<;>(intro hg;(try simp only [push_cast]at hg)))|(refine⟨_,hA,?_⟩;simp only [push_cast,↓zK,↓zJ,↓reduceIte,zA,zB,zC,zD,zE,zF,zG,zH,zI,reduceCtorEq])|(refine⟨_,hM (xE (by with_reducible assumption)).2.2,?_⟩;simp only [push_cast,↓zK,↓zJ,↓reduceIte,zA,zB,zC,zD,zE,zF,zG,zH,zI,reduceCtorEq])|(refine⟨_,hV,?_⟩;simp only [push_cast,↓zK,↓zJ,↓reduceIte,zA,zB,zC,zD,zE,zF,zG,zH,zI,reduceCtorEq])|apply And.intro|(intro hg;(try simp only [push_cast]at hg)))
 all_goals first|exact gA|(exact zQ (by omega))|skip
 all_goals first|(refine hK9 _ ?_;clear hK9 K9)|(simp only [push_cast];done)
 all_goals simp only [push_cast,↓zK,↓zJ,↓reduceIte,zA,zB,zC,zD,zE,zF,zG,zH,zI,reduceCtorEq]
 all_goals repeat'(first|(apply zP<;>(intro hg;(try simp only [push_cast]at hg)))|(refine⟨_,hA,?_⟩;simp only [push_cast,↓zK,↓zJ,↓reduceIte,zA,zB,zC,zD,zE,zF,zG,zH,zI,reduceCtorEq])|(refine⟨_,hM (xE (by with_reducible assumption)).2.2,?_⟩;simp only [push_cast,↓zK,↓zJ,↓reduceIte,zA,zB,zC,zD,zE,zF,zG,zH,zI,reduceCtorEq])|(refine⟨_,hV,?_⟩;simp only [push_cast,↓zK,↓zJ,↓reduceIte,zA,zB,zC,zD,zE,zF,zG,zH,zI,reduceCtorEq])|apply And.intro|(intro hg;(try simp only [push_cast]at hg)))
 all_goals first|exact gA|(exact zQ (by omega))|skip
 all_goals first|(refine hK _ ?_;clear hK K)|(simp only [push_cast];done)
 all_goals refine zU rfl (fun hc=> ?_) (fun hc=> ?_)
 all_goals(first|(cases hc;done)|skip)
 all_goals(try simp only [push_cast]at hc)
 all_goals try(
   refine zL fun K hK=> ?_
   refine zM zO zN [] rfl ?_
   all_goals simp only [push_cast,↓zK,↓zJ,↓reduceIte,zA,zB,zC,zD,zE,zF,zG,zH,zI,reduceCtorEq]
   all_goals repeat'(first|(apply zP<;>(intro hg;(try simp only [push_cast]at hg)))|apply And.intro|(intro hg;(try simp only [push_cast]at hg)))
   all_goals first|exact gA|(exact zQ (by omega))|skip
   all_goals first|(refine hK _ ?_;clear hK K)|(simp only [push_cast];done)
   refine zb ?_
   (try simp only [zR,zS])
   refine⟨Or.inl rfl,?_⟩
   simp only [zh,push_cast,↓zK,↓zJ,↓reduceIte,zA,zB,zC,zD,zE,zF,zG,zH,zI,reduceCtorEq]
   rw [Kv (show mmB a m s=false from by first|exact zC4 (by with_reducible assumption)|exact zC5 (by with_reducible assumption)|exact UW (by omega))]
   all_goals first|rfl|exact⟨rfl,rfl⟩|skip
   done)
 refine zY ?_
 (try simp only [zR,zS,reduceIte,zF]);refine hK1 _ ?_
 have hB:mmB a m s=true:=UX (by with_reducible assumption) (by with_reducible assumption) (by omega)
 refine zL fun K hK=> ?_
 refine zM zO zN [] rfl ?_
 all_goals refine vz 4 fun K9 hK9=> ?_
 all_goals simp only [push_cast,↓zK,↓zJ,↓reduceIte,zA,zB,zC,zD,zE,zF,zG,zH,zI,reduceCtorEq]
 all_goals repeat'(first|(apply zP<;>(intro hg;(try simp only [push_cast]at hg)))|(refine⟨_,hW (XX hB),?_⟩;simp only [push_cast,↓zK,↓zJ,↓reduceIte,zA,zB,zC,zD,zE,zF,zG,zH,zI,reduceCtorEq])|apply And.intro|(intro hg;(try simp only [push_cast]at hg)))
 all_goals first|exact gA|(exact zQ (by omega))|skip
 all_goals first|(refine hK9 _ ?_;clear hK9 K9)|(simp only [push_cast];done)
 all_goals simp only [push_cast,↓zK,↓zJ,↓reduceIte,zA,zB,zC,zD,zE,zF,zG,zH,zI,reduceCtorEq]
 all_goals repeat'(first|(apply zP<;>(intro hg;(try simp only [push_cast]at hg)))|(refine⟨_,hW (XX hB),?_⟩;simp only [push_cast,↓zK,↓zJ,↓reduceIte,zA,zB,zC,zD,zE,zF,zG,zH,zI,reduceCtorEq])|apply And.intro|(intro hg;(try simp only [push_cast]at hg)))
 all_goals first|exact gA|(exact zQ (by omega))|skip
 all_goals first|(refine hK _ ?_;clear hK K)|(simp only [push_cast];done)
 refine zL fun K hK=> ?_
 refine zM zO zN [] rfl ?_
 all_goals simp only [push_cast,↓zK,↓zJ,↓reduceIte,zA,zB,zC,zD,zE,zF,zG,zH,zI,reduceCtorEq]
 all_goals repeat'(first|(apply zP<;>(intro hg;(try simp only [push_cast]at hg)))|apply And.intro|(intro hg;(try simp only [push_cast]at hg)))
 all_goals first|exact gA|(exact zQ (by omega))|skip
 all_goals first|(refine hK _ ?_;clear hK K)|(simp only [push_cast];done)
 refine zb ?_
 (try simp only [zR,zS])
 refine⟨Or.inl rfl,?_⟩
 simp only [zh,push_cast,↓zK,↓zJ,↓reduceIte,zA,zB,zC,zD,zE,zF,zG,zH,zI,reduceCtorEq]
 rw [WN hB]
 generalize stM a m s 6145=G9
 all_goals first|rfl|exact⟨rfl,rfl⟩|skip
set_option maxRecDepth 20000 in
set_option maxHeartbeats 4000000 in
theorem QZ (a:Ar)(ha:a.Ln 1048576)(m:Me)(hm:m.Ln 1048576)(s:Int):Fn Try.prog tyT 18 [.agg (dAr a), .agg (dMe m), .c (.int .i64 s)] [.c (.lst 102 (yF (mmP a m s)))]:=by
 have hno:=ha.owner
 unfold LnI at hno
 have hM:=Js a ha m hm
 have hV:=uH a s hno
 have hW:=uF a ha m hm s
 unfold dAr at hM hV hW
 unfold dMe at hM hW
 unfold dAr dMe
 refine yM (fn:=Try.f18) (ts:= [6]) Try.func18 (by kernel_rfl) rfl rfl (by rw [Try.ntmps18];exact Nat.le_of_ble_eq_true rfl) rfl (by simp only [szA,List.mem_cons,List.not_mem_nil,or_false,forall_eq_or_imp,forall_eq,VT.cells,szL];try decide) ?_
 rw [Try.ntmps18]
 simp only [push_cast,↓zK,↓zJ,↓reduceIte,zA,zB,zC,zD,zE,zF,zG,zH,zI,reduceCtorEq]
 refine zL fun K hK=> ?_
 refine zM zO zN [] rfl ?_
 all_goals simp only [push_cast,↓zK,↓zJ,↓reduceIte,zA,zB,zC,zD,zE,zF,zG,zH,zI,reduceCtorEq]
 all_goals repeat'(first|(apply zP<;>(intro hg;(try simp only [push_cast]at hg)))|apply And.intro|(intro hg;(try simp only [push_cast]at hg)))
 all_goals first|exact gA|(exact zQ (by omega))|skip
 all_goals first|(refine hK _ ?_;clear hK K)|(simp only [push_cast];done)
 refine zL fun K1 hK1=> ?_
 refine zL fun K hK=> ?_
 refine zm false zO zN ?_ rfl ?_
 ·kernel_rfl
 all_goals refine xD 3 fun K9 hK9=> ?_
 all_goals simp only [push_cast,↓zK,↓zJ,↓reduceIte,zA,zB,zC,zD,zE,zF,zG,zH,zI,reduceCtorEq]
 all_goals repeat'(first|(apply zP<;>(intro hg;(try simp only [push_cast]at hg)))|(refine⟨_,hM,?_⟩;simp only [push_cast,↓zK,↓zJ,↓reduceIte,zA,zB,zC,zD,zE,zF,zG,zH,zI,reduceCtorEq])|(refine⟨_,hV,?_⟩;simp only [push_cast,↓zK,↓zJ,↓reduceIte,zA,zB,zC,zD,zE,zF,zG,zH,zI,reduceCtorEq])|apply And.intro|(intro hg;(try simp only [push_cast]at hg)))
 all_goals first|exact gA|(exact zQ (by omega))|skip
 all_goals first|(refine hK9 _ ?_;clear hK9 K9)|(simp only [push_cast];done)
 all_goals refine xD 5 fun K9 hK9=> ?_
 all_goals simp only [push_cast,↓zK,↓zJ,↓reduceIte,zA,zB,zC,zD,zE,zF,zG,zH,zI,reduceCtorEq]
 all_goals repeat'(first|(apply zP<;>(intro hg;(try simp only [push_cast]at hg)))|(refine⟨_,hM,?_⟩;simp only [push_cast,↓zK,↓zJ,↓reduceIte,zA,zB,zC,zD,zE,zF,zG,zH,zI,reduceCtorEq])|(refine⟨_,hV,?_⟩;simp only [push_cast,↓zK,↓zJ,↓reduceIte,zA,zB,zC,zD,zE,zF,zG,zH,zI,reduceCtorEq])|apply And.intro|(intro hg;(try simp only [push_cast]at hg)))
 all_goals first|exact gA|(exact zQ (by omega))|skip
 all_goals first|(refine hK9 _ ?_;clear hK9 K9)|(simp only [push_cast];done)
 all_goals simp only [push_cast,↓zK,↓zJ,↓reduceIte,zA,zB,zC,zD,zE,zF,zG,zH,zI,reduceCtorEq]
 all_goals repeat'(first|(apply zP<;>(intro hg;(try simp only [push_cast]at hg)))|(refine⟨_,hM,?_⟩;simp only [push_cast,↓zK,↓zJ,↓reduceIte,zA,zB,zC,zD,zE,zF,zG,zH,zI,reduceCtorEq])|(refine⟨_,hV,?_⟩;simp only [push_cast,↓zK,↓zJ,↓reduceIte,zA,zB,zC,zD,zE,zF,zG,zH,zI,reduceCtorEq])|apply And.intro|(intro hg;(try simp only [push_cast]at hg)))
 all_goals first|exact gA|(exact zQ (by omega))|skip
 all_goals first|(refine hK _ ?_;clear hK K)|(simp only [push_cast];done)
 all_goals refine zU rfl (fun hc=> ?_) (fun hc=> ?_)
 all_goals(first|(cases hc;done)|skip)
 all_goals(try simp only [push_cast]at hc)
 all_goals try(
   refine zL fun K hK=> ?_
   refine zm false zO zN ?_ rfl ?_
   ·kernel_rfl
   simp only [push_cast,↓zK,↓zJ,↓reduceIte,zA,zB,zC,zD,zE,zF,zG,zH,zI,reduceCtorEq]
   all_goals repeat'(first|(apply zP<;>(intro hg;(try simp only [push_cast]at hg)))|apply And.intro|(intro hg;(try simp only [push_cast]at hg)))
   all_goals first|exact gA|(exact zQ (by omega))|skip
   all_goals first|(refine hK _ ?_;clear hK K)|(simp only [push_cast];done)
   refine zb ?_
   (try simp only [zR,zS])
   refine⟨Or.inl rfl,?_⟩
   simp only [zh,push_cast,↓zK,↓zJ,↓reduceIte,zA,zB,zC,zD,zE,zF,zG,zH,zI,reduceCtorEq]
   rw [Kv (show mmB a m s=false from by first|exact zBy (by with_reducible assumption)|exact UW (by omega))]
   all_goals first|rfl|exact⟨rfl,rfl⟩|skip
   done)
 refine zY ?_
 (try simp only [zR,zS,reduceIte,zF]);refine hK1 _ ?_
 have h0:(yh a&&vL a m)=true:=by with_reducible assumption
 obtain⟨h1,h2⟩:=Bool.and_eq_true_iff.1 h0
 have hB:mmB a m s=true:=UX h1 h2 (by omega)
 refine zL fun K hK=> ?_
 refine zM zO zN [] rfl ?_
 all_goals refine vz 4 fun K9 hK9=> ?_
 all_goals simp only [push_cast,↓zK,↓zJ,↓reduceIte,zA,zB,zC,zD,zE,zF,zG,zH,zI,reduceCtorEq]
 all_goals repeat'(first|(apply zP<;>(intro hg;(try simp only [push_cast]at hg)))|(refine⟨_,hW (XX hB),?_⟩;simp only [push_cast,↓zK,↓zJ,↓reduceIte,zA,zB,zC,zD,zE,zF,zG,zH,zI,reduceCtorEq])|apply And.intro|(intro hg;(try simp only [push_cast]at hg)))
 all_goals first|exact gA|(exact zQ (by omega))|skip
 all_goals first|(refine hK9 _ ?_;clear hK9 K9)|(simp only [push_cast];done)
 all_goals simp only [push_cast,↓zK,↓zJ,↓reduceIte,zA,zB,zC,zD,zE,zF,zG,zH,zI,reduceCtorEq]
 all_goals repeat'(first|(apply zP<;>(intro hg;(try simp only [push_cast]at hg)))|(refine⟨_,hW (XX hB),?_⟩;simp only [push_cast,↓zK,↓zJ,↓reduceIte,zA,zB,zC,zD,zE,zF,zG,zH,zI,reduceCtorEq])|apply And.intro|(intro hg;(try simp only [push_cast]at hg)))
 all_goals first|exact gA|(exact zQ (by omega))|skip
 all_goals first|(refine hK _ ?_;clear hK K)|(simp only [push_cast];done)
 refine zL fun K hK=> ?_
 refine zM zO zN [] rfl ?_
 all_goals simp only [push_cast,↓zK,↓zJ,↓reduceIte,zA,zB,zC,zD,zE,zF,zG,zH,zI,reduceCtorEq]
 all_goals repeat'(first|(apply zP<;>(intro hg;(try simp only [push_cast]at hg)))|apply And.intro|(intro hg;(try simp only [push_cast]at hg)))
 all_goals first|exact gA|(exact zQ (by omega))|skip
 all_goals first|(refine hK _ ?_;clear hK K)|(simp only [push_cast];done)
 refine zb ?_
 (try simp only [zR,zS])
 refine⟨Or.inl rfl,?_⟩
 simp only [zh,push_cast,↓zK,↓zJ,↓reduceIte,zA,zB,zC,zD,zE,zF,zG,zH,zI,reduceCtorEq]
 rw [WN hB]
 generalize stM a m s 6145=G9
 all_goals first|rfl|exact⟨rfl,rfl⟩|skip
end Go.Proofs.Ythepmdkpbjfdcaa
