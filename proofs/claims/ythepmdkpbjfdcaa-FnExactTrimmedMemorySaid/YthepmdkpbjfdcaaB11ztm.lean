/- the memory that is left of a memory: the program's walk -/
import Derived.Test.YthepmdkpbjfdcaaB9ztm
import Derived.Test.YthepmdkpbjfdcaaB10ztm
import Derived.Test.YthepmdkpbjfdcaaB6ztm
namespace Go.Proofs.Ythepmdkpbjfdcaa
open Nat renaming reduceMod → zA, reduceMul → zB, reduceDiv → zC, reduceAdd → zD, reduceSub → zE, reduceEqDiff → zF, reduceBEq → zG, reduceLT → zH, reduceLeDiff → zI
open Go.RowKit
set_option linter.unusedVariables false
set_option linter.unusedSimpArgs false
def trM (a:Ar)(m:Me)(s:Int):Me:=⟨trN m (yZ (stM a m s 6145) (stM a m s 6145).length) a.owner.length (stM a m s 6145) (stM a m s 6145).length,trC a m (yZ (stM a m s 6145) (stM a m s 6145).length) a.owner.length (stM a m s 6145) (stM a m s 6145).length⟩
theorem uP {ps:List Plc}{q:Nat}(h:q<ps.length):yL (yZ ps ps.length) (tO (gq ps q))=true:=(qX _ _).2 ((wP (Nat.le_refl _) _).2 ⟨q,h,rfl⟩)
set_option maxRecDepth 20000 in
set_option maxHeartbeats 8000000 in
theorem VY (a:Ar)(ha:a.Ln 1048576)(m:Me)(hm:m.Ln 1048576)(s:Int)(h:MmI a m s):Fn Try.prog tyT 76 [.agg (dAr a), .agg (dMe m), .c (.int .i64 s)] [.agg (dMe (trM a m s))]:=by
 have hno:=ha.owner
 unfold LnI at hno
 have hal:=yc h.ar
 obtain⟨hk0,hkm⟩:=xg h.mem
 have hW:=WF a ha m hm s h
 have hlen:=KO h 6145
 have hok:=qj h 6145
 have hnd:(stM a m s 6145).Nodup:=Yh 6145
 have htr:trM a m s=⟨trN m (yZ (stM a m s 6145) (stM a m s 6145).length) a.owner.length (stM a m s 6145) (stM a m s 6145).length,trC a m (yZ (stM a m s 6145) (stM a m s 6145).length) a.owner.length (stM a m s 6145) (stM a m s 6145).length⟩:=rfl
 generalize stM a m s 6145=PS at*
 have hq9:QLn 1048576 PS:=⟨by omega,fun p hp=>by rw [(hok p hp).2.2.1];exact(by decide:1≤1048576)⟩
 have hol:=Yd (ps:=PS) (j:=PS.length) (k:=m.next.length) (Nat.le_refl _) (fun p hp=>(hok p hp).2.2.2)
 have hoh:=fun q (hq:q<PS.length)=>uP hq
 obtain⟨O,hO⟩: ∃o,o=yZ PS PS.length:=⟨_,rfl⟩
 rw [←hO]at htr hol
 have hoh2: ∀q,q<PS.length→yL O (tO (gq PS q))=true:=fun q hq=>by rw [hO];exact hoh q hq
 have hEm:=Wj a ha O.length (by omega)
 rw [htr]
 unfold dAr dMe at hW
 unfold dAr dMe emM at hEm
 unfold dAr dMe
 refine ZK (fn:=Try.f76) (rs:= [.cell 6 42]) zO zN Try.func76 (by kernel_rfl) rfl rfl (by rw [Try.ntmps76];exact Nat.le_of_ble_eq_true rfl) rfl (by simp only [szA,List.mem_cons,List.not_mem_nil,or_false,forall_eq_or_imp,forall_eq,VT.cells,szL];try decide) ?_
 rw [Try.ntmps76]
 simp only [push_cast,↓zK,↓zJ,↓reduceIte,zA,zB,zC,zD,zE,zF,zG,zH,zI,reduceCtorEq]
 refine zM fun K hK=> ?_
 refine zL zO zN [] rfl ?_
 all_goals simp only [push_cast,↓zK,↓zJ,↓reduceIte,zA,zB,zC,zD,zE,zF,zG,zH,zI,reduceCtorEq]
 all_goals repeat'(first|(apply zP<;>(intro hg;(try simp only [push_cast]at hg)))|apply And.intro|(intro hg;(try simp only [push_cast]at hg)))
 all_goals first|exact gA|(exact zR (by omega))|(exact zQ (by omega))|skip
 all_goals first|(refine hK _ ?_;clear hK K)|(simp only [push_cast];done)
 refine zM fun K hK=> ?_
 refine zL zO zN [] rfl ?_
 all_goals refine qI 4 fun K9 hK9=> ?_
 all_goals simp only [push_cast,↓zK,↓zJ,↓reduceIte,zA,zB,zC,zD,zE,zF,zG,zH,zI,reduceCtorEq]
 all_goals repeat'(first|(apply zP<;>(intro hg;(try simp only [push_cast]at hg)))|(refine⟨_,hW,?_⟩;simp only [push_cast,↓zK,↓zJ,↓reduceIte,zA,zB,zC,zD,zE,zF,zG,zH,zI,reduceCtorEq])|apply And.intro|(intro hg;(try simp only [push_cast]at hg)))
 all_goals first|exact gA|(exact zR (by omega))|(exact zQ (by omega))|skip
 all_goals first|(refine hK9 _ ?_;clear hK9 K9)|(simp only [push_cast];done)
 all_goals simp only [push_cast,↓zK,↓zJ,↓reduceIte,zA,zB,zC,zD,zE,zF,zG,zH,zI,reduceCtorEq]
 all_goals repeat'(first|(apply zP<;>(intro hg;(try simp only [push_cast]at hg)))|(refine⟨_,hW,?_⟩;simp only [push_cast,↓zK,↓zJ,↓reduceIte,zA,zB,zC,zD,zE,zF,zG,zH,zI,reduceCtorEq])|apply And.intro|(intro hg;(try simp only [push_cast]at hg)))
 all_goals first|exact gA|(exact zR (by omega))|(exact zQ (by omega))|skip
 all_goals first|(refine hK _ ?_;clear hK K)|(simp only [push_cast];done)
 refine zM fun K hK=> ?_
 refine zL zO zN [] rfl ?_
 all_goals simp only [push_cast,↓zK,↓zJ,↓reduceIte,zA,zB,zC,zD,zE,zF,zG,zH,zI,reduceCtorEq]
 all_goals repeat'(first|(apply zP<;>(intro hg;(try simp only [push_cast]at hg)))|apply And.intro|(intro hg;(try simp only [push_cast]at hg)))
 all_goals first|exact gA|(exact zR (by omega))|(exact zQ (by omega))|skip
 all_goals first|(refine hK _ ?_;clear hK K)|(simp only [push_cast];done)
 refine zM fun K1 hK1=> ?_
 refine zM fun K hK=> ?_
 refine zL zO zN [] rfl ?_
 all_goals simp only [push_cast,↓zK,↓zJ,↓reduceIte,zA,zB,zC,zD,zE,zF,zG,zH,zI,reduceCtorEq]
 all_goals repeat'(first|(apply zP<;>(intro hg;(try simp only [push_cast]at hg)))|apply And.intro|(intro hg;(try simp only [push_cast]at hg)))
 all_goals first|exact gA|(exact zR (by omega))|(exact zQ (by omega))|skip
 all_goals first|(refine hK _ ?_;clear hK K)|(simp only [push_cast];done)
 refine zZ ?_
 refine zo [10,31,32,33,34,35,36,37] [144] (fun(j:Nat)=> [(31, .int .i64 j)]) (fun j=> []) (fun j=> [(144,⟨.ex,2,dI (qp m.next.length j),none⟩)]) (fun j=>j≤m.next.length) (fun j=>m.next.length - j) 0 ?_ (by omega) ?_
 ·
  rw [Wl]
  refine zd rfl ?_ ?_ ?_<;>simp only [zl,zk,push_cast,↓zK,↓zJ,↓reduceIte,zA,zB,zC,zD,zE,zF,zG,zH,zI,reduceCtorEq]
  all_goals first|rfl|skip
 ·rintro j hj KL0 hL0
  have hfl:=Xk m.next.length j
  simp only [push_cast,↓zK,↓zJ,↓reduceIte,zA,zB,zC,zD,zE,zF,zG,zH,zI,reduceCtorEq]
  refine zM fun K hK=> ?_
  refine zL zO zN [] rfl ?_
  all_goals simp only [push_cast,↓zK,↓zJ,↓reduceIte,zA,zB,zC,zD,zE,zF,zG,zH,zI,reduceCtorEq]
  all_goals repeat'(first|(apply zP<;>(intro hg;(try simp only [push_cast]at hg)))|apply And.intro|(intro hg;(try simp only [push_cast]at hg)))
  all_goals first|exact gA|(exact zR (by omega))|(exact zQ (by omega))|skip
  all_goals first|(refine hK _ ?_;clear hK K)|(simp only [push_cast];done)
  refine zM fun K2 hK2=> ?_
  refine zU rfl (fun hc=> ?_) (fun hc=> ?_)<;>(try simp only [push_cast]at hc)
  ·
   refine zV ?_
   (try simp only [zS,zT,reduceIte,zF]);refine hK2 _ ?_
   refine zM fun K3 hK3=> ?_
   refine zZ ?_
   refine zM fun K hK=> ?_
   refine zL zO zN [] rfl ?_
   all_goals simp only [push_cast,↓zK,↓zJ,↓reduceIte,zA,zB,zC,zD,zE,zF,zG,zH,zI,reduceCtorEq]
   all_goals repeat'(first|(apply zP<;>(intro hg;(try simp only [push_cast]at hg)))|apply And.intro|(intro hg;(try simp only [push_cast]at hg)))
   all_goals first|exact gA|(exact zR (by omega))|(exact zQ (by omega))|skip
   all_goals first|(refine hK _ ?_;clear hK K)|(simp only [push_cast];done)
   refine zL zO zN [] rfl ?_
   all_goals simp only [push_cast,↓zK,↓zJ,↓reduceIte,zA,zB,zC,zD,zE,zF,zG,zH,zI,reduceCtorEq]
   all_goals repeat'(first|(apply zP<;>(intro hg;(try simp only [push_cast]at hg)))|apply And.intro|(intro hg;(try simp only [push_cast]at hg)))
   all_goals first|exact gA|(exact zR (by omega))|(exact zQ (by omega))|skip
   (try simp only [zS,zT,reduceIte,zF]);refine hK3 _ ?_
   refine zL zO zN [] rfl ?_
   all_goals simp only [push_cast,↓zK,↓zJ,↓reduceIte,zA,zB,zC,zD,zE,zF,zG,zH,zI,reduceCtorEq]
   all_goals repeat'(first|(apply zP<;>(intro hg;(try simp only [push_cast]at hg)))|apply And.intro|(intro hg;(try simp only [push_cast]at hg)))
   all_goals first|exact gA|(exact zR (by omega))|(exact zQ (by omega))|skip
   refine hL0 _ ⟨j+1,by omega,by omega,?_⟩
   rw [←Xl (by omega)]
   refine zd rfl ?_ ?_ ?_<;>simp only [zl,zk,push_cast,↓zK,↓zJ,↓reduceIte,zA,zB,zC,zD,zE,zF,zG,zH,zI,reduceCtorEq]
   all_goals first|rfl|skip
  ·
   refine zr ?_
   have hjj:j=m.next.length:=by omega
   subst hjj
   rw [Jb,←nbV_0]
   (try simp only [zS,zT,reduceIte,zF]);refine hK1 _ ?_
   refine zM fun K hK=> ?_
   refine zL zO zN [] rfl ?_
   all_goals simp only [push_cast,↓zK,↓zJ,↓reduceIte,zA,zB,zC,zD,zE,zF,zG,zH,zI,reduceCtorEq]
   all_goals repeat'(first|(apply zP<;>(intro hg;(try simp only [push_cast]at hg)))|apply And.intro|(intro hg;(try simp only [push_cast]at hg)))
   all_goals first|exact gA|(exact zR (by omega))|(exact zQ (by omega))|skip
   all_goals first|(refine hK _ ?_;clear hK K)|(simp only [push_cast];done)
   refine zM fun K4 hK4=> ?_
   refine zM fun K hK=> ?_
   refine zL zO zN [] rfl ?_
   all_goals simp only [push_cast,↓zK,↓zJ,↓reduceIte,zA,zB,zC,zD,zE,zF,zG,zH,zI,reduceCtorEq]
   all_goals repeat'(first|(apply zP<;>(intro hg;(try simp only [push_cast]at hg)))|apply And.intro|(intro hg;(try simp only [push_cast]at hg)))
   all_goals first|exact gA|(exact zR (by omega))|(exact zQ (by omega))|skip
   all_goals first|(refine hK _ ?_;clear hK K)|(simp only [push_cast];done)
   refine zZ ?_
   refine zo [11,13,40,41,42,43,44,45,46,47,48,49,50,51,52,53,54,55,56,57,58,59,60,61] [144] (fun(q:Nat)=> [(40, .int .i64 q),(11, .int .i64 (yZ PS q).length)]) (fun q=> []) (fun q=> [(144,⟨.ex,2,dI (nbV m.next.length (yZ PS q)),none⟩)]) (fun q=>q≤PS.length) (fun q=>PS.length - q) 0 ?_ (by omega) ?_
   ·
    rw [WJ]
    refine zd rfl ?_ ?_ ?_<;>simp only [zl,zk,push_cast,↓zK,↓zJ,↓reduceIte,zA,zB,zC,zD,zE,zF,zG,zH,zI,reduceCtorEq]
    all_goals first|rfl|skip
   ·rintro q hq KL1 hL1
    have hnl0:=uO m.next.length (yZ PS q)
    have holq:=Yd (ps:=PS) (j:=q) (k:=m.next.length) hq (fun p hp=>(hok p hp).2.2.2)
    simp only [push_cast,↓zK,↓zJ,↓reduceIte,zA,zB,zC,zD,zE,zF,zG,zH,zI,reduceCtorEq]
    refine zM fun K hK=> ?_
    refine zL zO zN [] rfl ?_
    all_goals simp only [push_cast,↓zK,↓zJ,↓reduceIte,zA,zB,zC,zD,zE,zF,zG,zH,zI,reduceCtorEq]
    all_goals repeat'(first|(apply zP<;>(intro hg;(try simp only [push_cast]at hg)))|apply And.intro|(intro hg;(try simp only [push_cast]at hg)))
    all_goals first|exact gA|(exact zR (by omega))|(exact zQ (by omega))|skip
    all_goals first|(refine hK _ ?_;clear hK K)|(simp only [push_cast];done)
    refine zM fun K5 hK5=> ?_
    refine zU rfl (fun hc=> ?_) (fun hc=> ?_)<;>(try simp only [push_cast]at hc)
    ·
     refine zV ?_
     (try simp only [zS,zT,reduceIte,zF]);refine hK5 _ ?_
     refine zM fun K6 hK6=> ?_
     refine zZ ?_
     refine zM fun K hK=> ?_
     refine zL zO zN [] rfl ?_
     all_goals simp only [push_cast,↓zK,↓zJ,↓reduceIte,zA,zB,zC,zD,zE,zF,zG,zH,zI,reduceCtorEq]
     all_goals repeat'(first|(apply zP<;>(intro hg;(try simp only [push_cast]at hg)))|apply And.intro|(intro hg;(try simp only [push_cast]at hg)))
     all_goals first|exact gA|(exact zR (by omega))|(exact zQ (by omega))|skip
     all_goals first|(refine hK _ ?_;clear hK K)|(simp only [push_cast];done)
     have hP:=hok _ (qC (ps:=PS) (k:=q) (by omega))
     obtain⟨hP1,hP2,hP3,hP4,hP5⟩:=hP
     have hPl:(gq PS q).record.length=1:=by rw [hP3];rfl
     have hnv:gi (nbV m.next.length (yZ PS q)) (gi (gq PS q).record 0).toNat=wO (yZ PS q) (tO (gq PS q)):=ji ⟨hP4,hP5⟩
     cases hb:yL (yZ PS q) (tO (gq PS q))
     ·
      have hng:=QS hb
      refine zM fun K hK=> ?_
      refine zL zO zN [] rfl ?_
      all_goals simp only [push_cast,↓zK,↓zJ,↓reduceIte,zA,zB,zC,zD,zE,zF,zG,zH,zI,reduceCtorEq]
      all_goals repeat'(first|(apply zP<;>(intro hg;(try simp only [push_cast]at hg)))|apply And.intro|(intro hg;(try simp only [push_cast]at hg)))
      all_goals first|exact gA|(exact zR (by omega))|(exact zQ (by omega))|skip
      all_goals first|(refine hK _ ?_;clear hK K)|(simp only [push_cast];done)
      refine zU rfl (fun hc=> ?_) (fun hc=> ?_)
      rotate_left
      ·exfalso;first|(cases hc;done)|(simp only [push_cast]at hc;done)|(simp only [push_cast]at hc;omega)|omega
      have hws:(nbV m.next.length (yZ PS q)).set (gi (gq PS q).record 0).toNat ((yZ PS q).length:Int)=nbV m.next.length ((yZ PS q)++ [tO (gq PS q)]):=zCl ⟨hP4,hP5⟩ hb
      refine zM fun K hK=> ?_
      refine zL zO zN [] rfl ?_
      all_goals simp only [push_cast,↓zK,↓zJ,↓reduceIte,zA,zB,zC,zD,zE,zF,zG,zH,zI,reduceCtorEq]
      all_goals repeat'(first|(apply zP<;>(intro hg;(try simp only [push_cast]at hg)))|apply And.intro|(intro hg;(try simp only [push_cast]at hg)))
      all_goals first|exact gA|(exact zR (by omega))|(exact zQ (by omega))|skip
      all_goals first|(refine hK _ ?_;clear hK K)|(simp only [push_cast];done)
      all_goals rw [hws]
      refine zL zO zN [] rfl ?_
      all_goals simp only [push_cast,↓zK,↓zJ,↓reduceIte,zA,zB,zC,zD,zE,zF,zG,zH,zI,reduceCtorEq]
      all_goals repeat'(first|(apply zP<;>(intro hg;(try simp only [push_cast]at hg)))|apply And.intro|(intro hg;(try simp only [push_cast]at hg)))
      all_goals first|exact gA|(exact zR (by omega))|(exact zQ (by omega))|skip
      (try simp only [zS,zT,reduceIte,zF]);refine hK6 _ ?_
      refine zL zO zN [] rfl ?_
      all_goals simp only [push_cast,↓zK,↓zJ,↓reduceIte,zA,zB,zC,zD,zE,zF,zG,zH,zI,reduceCtorEq]
      all_goals repeat'(first|(apply zP<;>(intro hg;(try simp only [push_cast]at hg)))|apply And.intro|(intro hg;(try simp only [push_cast]at hg)))
      all_goals first|exact gA|(exact zR (by omega))|(exact zQ (by omega))|skip
      refine hL1 _ ⟨q+1,by omega,by omega,?_⟩
      rw [Ye (by omega),QH hb]
      refine zd rfl ?_ ?_ ?_<;>simp only [zl,zk,push_cast,↓zK,↓zJ,↓reduceIte,zA,zB,zC,zD,zE,zF,zG,zH,zI,reduceCtorEq]
      all_goals first|rfl|(rw [List.length_append];rfl)|skip
     ·
      have hng:=QR hb
      refine zM fun K hK=> ?_
      refine zL zO zN [] rfl ?_
      all_goals simp only [push_cast,↓zK,↓zJ,↓reduceIte,zA,zB,zC,zD,zE,zF,zG,zH,zI,reduceCtorEq]
      all_goals repeat'(first|(apply zP<;>(intro hg;(try simp only [push_cast]at hg)))|apply And.intro|(intro hg;(try simp only [push_cast]at hg)))
      all_goals first|exact gA|(exact zR (by omega))|(exact zQ (by omega))|skip
      all_goals first|(refine hK _ ?_;clear hK K)|(simp only [push_cast];done)
      refine zU rfl (fun hc=> ?_) (fun hc=> ?_)
      skip
      ·exfalso;first|(cases hc;done)|(simp only [push_cast]at hc;done)|(simp only [push_cast]at hc;omega)|omega
      refine zV ?_
      (try simp only [zS,zT,reduceIte,zF]);refine hK6 _ ?_
      refine zL zO zN [] rfl ?_
      all_goals simp only [push_cast,↓zK,↓zJ,↓reduceIte,zA,zB,zC,zD,zE,zF,zG,zH,zI,reduceCtorEq]
      all_goals repeat'(first|(apply zP<;>(intro hg;(try simp only [push_cast]at hg)))|apply And.intro|(intro hg;(try simp only [push_cast]at hg)))
      all_goals first|exact gA|(exact zR (by omega))|(exact zQ (by omega))|skip
      refine hL1 _ ⟨q+1,by omega,by omega,?_⟩
      rw [Ye (by omega),QG hb]
      refine zd rfl ?_ ?_ ?_<;>simp only [zl,zk,push_cast,↓zK,↓zJ,↓reduceIte,zA,zB,zC,zD,zE,zF,zG,zH,zI,reduceCtorEq]
      all_goals first|rfl|(rw [List.length_append];rfl)|skip
    ·
     refine zr ?_
     have hqq:q=PS.length:=by omega
     subst hqq
     rw [←hO]
     (try simp only [zS,zT,reduceIte,zF]);refine hK4 _ ?_
     refine zM fun K hK=> ?_
     refine zL zO zN [] rfl ?_
     all_goals refine qI 3 fun K9 hK9=> ?_
     all_goals simp only [push_cast,↓zK,↓zJ,↓reduceIte,zA,zB,zC,zD,zE,zF,zG,zH,zI,reduceCtorEq]
     all_goals repeat'(first|(apply zP<;>(intro hg;(try simp only [push_cast]at hg)))|(refine⟨_,hEm,?_⟩;simp only [push_cast,↓zK,↓zJ,↓reduceIte,zA,zB,zC,zD,zE,zF,zG,zH,zI,reduceCtorEq])|apply And.intro|(intro hg;(try simp only [push_cast]at hg)))
     all_goals first|exact gA|(exact zR (by omega))|(exact zQ (by omega))|skip
     all_goals first|(refine hK9 _ ?_;clear hK9 K9)|(simp only [push_cast];done)
     all_goals simp only [push_cast,↓zK,↓zJ,↓reduceIte,zA,zB,zC,zD,zE,zF,zG,zH,zI,reduceCtorEq]
     all_goals repeat'(first|(apply zP<;>(intro hg;(try simp only [push_cast]at hg)))|(refine⟨_,hEm,?_⟩;simp only [push_cast,↓zK,↓zJ,↓reduceIte,zA,zB,zC,zD,zE,zF,zG,zH,zI,reduceCtorEq])|apply And.intro|(intro hg;(try simp only [push_cast]at hg)))
     all_goals first|exact gA|(exact zR (by omega))|(exact zQ (by omega))|skip
     all_goals first|(refine hK _ ?_;clear hK K)|(simp only [push_cast];done)
     refine zM fun K7 hK7=> ?_
     refine zM fun K hK=> ?_
     refine zL zO zN [] rfl ?_
     all_goals simp only [push_cast,↓zK,↓zJ,↓reduceIte,zA,zB,zC,zD,zE,zF,zG,zH,zI,reduceCtorEq]
     all_goals repeat'(first|(apply zP<;>(intro hg;(try simp only [push_cast]at hg)))|apply And.intro|(intro hg;(try simp only [push_cast]at hg)))
     all_goals first|exact gA|(exact zR (by omega))|(exact zQ (by omega))|skip
     all_goals first|(refine hK _ ?_;clear hK K)|(simp only [push_cast];done)
     refine zZ ?_
     refine zo [14,16,17,67,68,69,70,71,72,73,74,75,76,77,78,79,80,81,82,83,84,85,86,87,88,89,90,91,92,93,94,95,96,97,98,99,100,101,102,103,104,105,106,107,108,109,110,111,112,113,114,115,116,117,118,119] [224,225] (fun(q:Nat)=> [(67, .int .i64 q),(14, .bp 14 0)]) (fun q=> [(14,[.sl 224 [] 0 O.length 22, .sl 225 [] 0 O.length 22])]) (fun q=> [(224,⟨.ex,22,dII (trN m O a.owner.length PS q),none⟩),(225,⟨.ex,22,dII (trC a m O a.owner.length PS q),none⟩)]) (fun q=>q≤PS.length) (fun q=>PS.length - q) 0 ?_ (by omega) ?_
     ·
      rw [UY,zBz]
      refine zd rfl ?_ ?_ ?_<;>simp only [zl,zk,push_cast,↓zK,↓zJ,↓reduceIte,zA,zB,zC,zD,zE,zF,zG,zH,zI,reduceCtorEq]
      all_goals first|rfl|exact⟨rfl,rfl⟩|(rw [List.length_replicate,List.length_replicate])|skip
     ·rintro q hq KL2 hL2
      have hnl9:=uO m.next.length O
      simp only [push_cast,↓zK,↓zJ,↓reduceIte,zA,zB,zC,zD,zE,zF,zG,zH,zI,reduceCtorEq]
      refine zM fun K hK=> ?_
      refine zL zO zN [] rfl ?_
      all_goals simp only [push_cast,↓zK,↓zJ,↓reduceIte,zA,zB,zC,zD,zE,zF,zG,zH,zI,reduceCtorEq]
      all_goals repeat'(first|(apply zP<;>(intro hg;(try simp only [push_cast]at hg)))|apply And.intro|(intro hg;(try simp only [push_cast]at hg)))
      all_goals first|exact gA|(exact zR (by omega))|(exact zQ (by omega))|skip
      all_goals first|(refine hK _ ?_;clear hK K)|(simp only [push_cast];done)
      refine zM fun K8 hK8=> ?_
      refine zU rfl (fun hc=> ?_) (fun hc=> ?_)<;>(try simp only [push_cast]at hc)
      ·
       refine zV ?_
       (try simp only [zS,zT,reduceIte,zF]);refine hK8 _ ?_
       refine zM fun K9 hK9=> ?_
       refine zZ ?_
       refine zM fun K hK=> ?_
       refine zL zO zN [] rfl ?_
       all_goals simp only [push_cast,↓zK,↓zJ,↓reduceIte,zA,zB,zC,zD,zE,zF,zG,zH,zI,reduceCtorEq]
       all_goals repeat'(first|(apply zP<;>(intro hg;(try simp only [push_cast]at hg)))|apply And.intro|(intro hg;(try simp only [push_cast]at hg)))
       all_goals first|exact gA|(exact zR (by omega))|(exact zQ (by omega))|skip
       all_goals first|(refine hK _ ?_;clear hK K)|(simp only [push_cast];done)
       have hP:=hok _ (qC (ps:=PS) (k:=q) (by omega))
       obtain⟨hP1,hP2,hP3,hP4,hP5⟩:=hP
       have hPl:(gq PS q).record.length=1:=by rw [hP3];rfl
       refine zM fun K hK=> ?_
       refine zL zO zN [] rfl ?_
       all_goals simp only [push_cast,↓zK,↓zJ,↓reduceIte,zA,zB,zC,zD,zE,zF,zG,zH,zI,reduceCtorEq]
       all_goals repeat'(first|(apply zP<;>(intro hg;(try simp only [push_cast]at hg)))|apply And.intro|(intro hg;(try simp only [push_cast]at hg)))
       all_goals first|exact gA|(exact zR (by omega))|(exact zQ (by omega))|skip
       all_goals first|(refine hK _ ?_;clear hK K)|(simp only [push_cast];done)
       have hh:=hoh2 q (by omega)
       have hf:zz O (tO (gq PS q))<O.length:=of_decide_eq_true hh
       have hn1:gi (nbV m.next.length O) (gi (gq PS q).record 0).toNat=(zz O (tO (gq PS q)):Int):=by rw [ji ⟨hP4,hP5⟩];exact QR hh
       obtain⟨hr1,hr2,hr3⟩:=hkm (gi (gq PS q).record 0).toNat (by omega)
       have hr4:=(ZV hr2).1
       have hr5:=hr3 (gq PS q).at_.toNat (by omega)
       have hn2:gi (nbV m.next.length O) (gi (gl m.next (gi (gq PS q).record 0).toNat) (gq PS q).at_.toNat).toNat=wO O (gi (gl m.next (gi (gq PS q).record 0).toNat) (gq PS q).at_.toNat):=ji hr5
       have hn3:(gi (nbV m.next.length O) (gi (gq PS q).record 0).toNat).toNat=zz O (tO (gq PS q)):=by rw [hn1];exact Int.toNat_natCast _
       have hs1:=wk (m:=m) (O:=O) (n:=a.owner.length) (ps:=PS) (j:=q) (by omega)
       have hs2:=Yj (a:=a) (m:=m) (O:=O) (n:=a.owner.length) (ps:=PS) (j:=q) (by omega)
       have hs3:=hs1.2 _ hf
       have hs4:=hs2.2 _ hf
       have hs5:=hs1.1
       have hs6:=hs2.1
       have hs7:(gl (trN m O a.owner.length PS q) (gi (nbV m.next.length O) (gi (gq PS q).record 0).toNat).toNat).length=a.owner.length:=by rw [hn3];exact hs3
       have hs8:(gl (trC a m O a.owner.length PS q) (gi (nbV m.next.length O) (gi (gq PS q).record 0).toNat).toNat).length=a.owner.length:=by rw [hn3];exact hs4
       refine zM fun K hK=> ?_
       refine yN false zO zN xM ?_ rfl ?_
       ·kernel_rfl
       intro E hE
       all_goals simp only [push_cast,↓zK,↓zJ,↓reduceIte,zA,zB,zC,zD,zE,zF,zG,zH,zI,reduceCtorEq]
       all_goals repeat'(first|(apply zP<;>(intro hg;(try simp only [push_cast]at hg)))|apply And.intro|(intro hg;(try simp only [push_cast]at hg)))
       all_goals first|exact gA|(refine hE _ _ ?_ ?_;kernel_rfl)|(exact zR (by omega))|(exact zQ (by omega))|skip
       all_goals clear hE E
       all_goals first|(refine hK _ ?_;clear hK K)|(simp only [push_cast];done)
       all_goals(try rw [Zq _ _ _ _ (by omega)])
       all_goals(try rw [hn3,hn2])
       refine yN false zO zN xM ?_ rfl ?_
       ·kernel_rfl
       intro E hE
       all_goals simp only [push_cast,↓zK,↓zJ,↓reduceIte,zA,zB,zC,zD,zE,zF,zG,zH,zI,reduceCtorEq]
       all_goals repeat'(first|(apply zP<;>(intro hg;(try simp only [push_cast]at hg)))|apply And.intro|(intro hg;(try simp only [push_cast]at hg)))
       all_goals first|exact gA|(refine hE _ _ ?_ ?_;kernel_rfl)|(exact zR (by omega))|(exact zQ (by omega))|skip
       all_goals clear hE E
       all_goals(try rw [Zq _ _ _ _ (by omega)])
       all_goals(try rw [hn3])
       (try simp only [zS,zT,reduceIte,zF]);refine hK9 _ ?_
       refine zL zO zN [] rfl ?_
       all_goals simp only [push_cast,↓zK,↓zJ,↓reduceIte,zA,zB,zC,zD,zE,zF,zG,zH,zI,reduceCtorEq]
       all_goals repeat'(first|(apply zP<;>(intro hg;(try simp only [push_cast]at hg)))|apply And.intro|(intro hg;(try simp only [push_cast]at hg)))
       all_goals first|exact gA|(exact zR (by omega))|(exact zQ (by omega))|skip
       refine hL2 _ ⟨q+1,by omega,by omega,?_⟩
       rw [KZ (by omega),UX (by omega)]
       unfold Xy nxT ntM chM tO
       refine zd rfl ?_ ?_ ?_<;>simp only [zl,zk,push_cast,↓zK,↓zJ,↓reduceIte,zA,zB,zC,zD,zE,zF,zG,zH,zI,reduceCtorEq]
       all_goals first|rfl|exact⟨rfl,rfl⟩|skip
      ·
       refine zr ?_
       have hqq:q=PS.length:=by omega
       subst hqq
       (try simp only [zS,zT,reduceIte,zF]);refine hK7 _ ?_
       refine zM fun K hK=> ?_
       refine zL zO zN [] rfl ?_
       all_goals simp only [push_cast,↓zK,↓zJ,↓reduceIte,zA,zB,zC,zD,zE,zF,zG,zH,zI,reduceCtorEq]
       all_goals repeat'(first|(apply zP<;>(intro hg;(try simp only [push_cast]at hg)))|apply And.intro|(intro hg;(try simp only [push_cast]at hg)))
       all_goals first|exact gA|(exact zR (by omega))|(exact zQ (by omega))|skip
       all_goals first|(refine hK _ ?_;clear hK K)|(simp only [push_cast];done)
       refine zc ?_
       (try simp only [zS,zT])
       refine⟨Or.inl rfl,?_⟩
       simp only [zh,yY,xR,push_cast,↓zK,↓zJ,↓reduceIte,zA,zB,zC,zD,zE,zF,zG,zH,zI,reduceCtorEq]
       all_goals first|rfl|exact⟨(wk (Nat.le_refl _)).1.symm,(Yj (Nat.le_refl _)).1.symm⟩|exact⟨rfl,rfl⟩|skip
theorem zCk {a:Ar}{m:Me}{s:Int}(h:(yn a&&vU a m)=false):mmB a m s=false:=by unfold mmB;rw [h];rfl
def slT (J s:Nat)(A B:List (List Int)):List (List Int):=if J<s then B else A
theorem ZY {J s:Nat}(A B:List (List Int))(h: ¬J<s):slT J s A B=A:=if_neg h
theorem ZJ {J s:Nat}(A B:List (List Int))(h:J<s):slT J s A B=B:=if_pos h
theorem VU {J s:Nat}(A B:List (List Int))(h: ¬J=s):slT J (s+1) A B=slT J s A B:=by
 unfold slT
 by_cases e:J<s
 ·rw [if_pos e,if_pos (by omega)]
 ·rw [if_neg e,if_neg (by omega)]
theorem jK {o:List Int}(h:o.Nodup){k:Nat}(hk:k<o.length):zz o (gi o k)=k:=by
 refine YX hk (fun j hj e=> ?_) rfl
 have h1:=vJ (xs:=o) (k:=j) (by omega)
 have h2:=vJ hk
 rw [e]at h1
 have h3:=(List.getElem?_inj (i:=j) (j:=k) (by omega) h).1 (h1.trans h2.symm)
 omega
def tmR (a:Ar)(m:Me)(s:Int):Me:=if mmB a m s then trM a m s else⟨[],[]⟩
theorem jx {a:Ar}{m:Me}{s:Int}(h:mmB a m s=false):tmR a m s=⟨[],[]⟩:=by unfold tmR;rw [h];exact if_neg (by decide)
theorem JF {a:Ar}{m:Me}{s:Int}(h:mmB a m s=true):tmR a m s=trM a m s:=by unfold tmR;rw [h];exact if_pos rfl
theorem zDu {ps:List Plc}(h:ps.Nodup){q:Nat}(hq:q<ps.length): ∀r,r<q→gq ps r≠gq ps q:=fun r hr e=>by
 have h1:=WA (ps:=ps) (k:=r) (by omega)
 have h2:=WA hq
 rw [e]at h1
 have h3:=(List.getElem?_inj (i:=r) (j:=q) (by omega) h).1 (h1.trans h2.symm)
 omega
theorem zCy {m:Me}{O:List Int}{n:Nat}{ps:List Plc}{q s:Nat}(hnd:ps.Nodup)(hO: ∀p∈ps,yL O (tO p)=true∧0≤p.at_∧p.at_<n∧p.record= [tO p])(hq:q<ps.length)(hs:zz O (tO (gq ps q))=s):
  slT (zz O (ntM m (gq ps q))) O.length (trN m O n ps q) ((trN m O n ps q).set s ((gl (trN m O n ps q) s).set (gq ps q).at_.toNat (zz O (ntM m (gq ps q)):Int)))=trN m O n ps (q+1):=by
 have hp:=hO _ (qC hq)
 have hf:zz O (tO (gq ps q))<O.length:=of_decide_eq_true hp.1
 have hsq:=wk (m:=m) (O:=O) (n:=n) (ps:=ps) (j:=q) (by omega)
 rw [KZ hq]
 unfold Xy
 rw [hs]
 cases hb:yL O (ntM m (gq ps q))with
 |true=>rw [ZJ _ _ (of_decide_eq_true hb),zDw hb]
 |false=>
  rw [ZY _ _ (of_decide_eq_false hb),zDx hb]
  have hz:=kC (m:=m) hO hp (j:=q) (by omega) (zDu hnd hq)
  rw [hs]at hz hf
  exact(zAa (by rw [hsq.1];exact hf) (by rw [hsq.2 _ hf];omega) hz).symm
set_option maxRecDepth 20000 in
set_option maxHeartbeats 8000000 in
theorem Qe (a:Ar)(ha:a.Ln 1048576)(m:Me)(hm:m.Ln 1048576)(s:Int):Fn Try.prog tyT 27 [.agg (dAr a), .agg (dMe m), .c (.int .i64 s)] [.agg (dMe (tmR a m s))]:=by
 have hno:=ha.owner
 unfold LnI at hno
 have hM:=Kf a ha m hm
 have hV:=UE a s hno
 have hW:=UC a ha m hm s
 unfold dAr at hM hV hW
 unfold dMe at hM hW
 unfold dAr dMe
 refine ZK (fn:=Try.f27) (rs:= [.cell 6 42]) zO zN Try.func27 (by kernel_rfl) rfl rfl (by rw [Try.ntmps27];exact Nat.le_of_ble_eq_true rfl) rfl (by simp only [szA,List.mem_cons,List.not_mem_nil,or_false,forall_eq_or_imp,forall_eq,VT.cells,szL];try decide) ?_
 rw [Try.ntmps27]
 simp only [push_cast,↓zK,↓zJ,↓reduceIte,zA,zB,zC,zD,zE,zF,zG,zH,zI,reduceCtorEq]
 refine zM fun K hK=> ?_
 refine zL zO zN [] rfl ?_
 all_goals simp only [push_cast,↓zK,↓zJ,↓reduceIte,zA,zB,zC,zD,zE,zF,zG,zH,zI,reduceCtorEq]
 all_goals repeat'(first|(apply zP<;>(intro hg;(try simp only [push_cast]at hg)))|apply And.intro|(intro hg;(try simp only [push_cast]at hg)))
 all_goals first|exact gA|(exact zR (by omega))|(exact zQ (by omega))|skip
 all_goals first|(refine hK _ ?_;clear hK K)|(simp only [push_cast];done)
 refine zM fun K1 hK1=> ?_
 refine zM fun K hK=> ?_
 refine zp false zO zN ?_ rfl ?_
 ·kernel_rfl
 all_goals refine xI 3 fun K9 hK9=> ?_
 all_goals simp only [push_cast,↓zK,↓zJ,↓reduceIte,zA,zB,zC,zD,zE,zF,zG,zH,zI,reduceCtorEq]
 all_goals repeat'(first|(apply zP<;>(intro hg;(try simp only [push_cast]at hg)))|(refine⟨_,hM,?_⟩;simp only [push_cast,↓zK,↓zJ,↓reduceIte,zA,zB,zC,zD,zE,zF,zG,zH,zI,reduceCtorEq])|(refine⟨_,hV,?_⟩;simp only [push_cast,↓zK,↓zJ,↓reduceIte,zA,zB,zC,zD,zE,zF,zG,zH,zI,reduceCtorEq])|apply And.intro|(intro hg;(try simp only [push_cast]at hg)))
 all_goals first|exact gA|(exact zR (by omega))|(exact zQ (by omega))|skip
 all_goals first|(refine hK9 _ ?_;clear hK9 K9)|(simp only [push_cast];done)
 all_goals refine xI 5 fun K9 hK9=> ?_
 all_goals simp only [push_cast,↓zK,↓zJ,↓reduceIte,zA,zB,zC,zD,zE,zF,zG,zH,zI,reduceCtorEq]
 all_goals repeat'(first|(apply zP<;>(intro hg;(try simp only [push_cast]at hg)))|(refine⟨_,hM,?_⟩;simp only [push_cast,↓zK,↓zJ,↓reduceIte,zA,zB,zC,zD,zE,zF,zG,zH,zI,reduceCtorEq])|(refine⟨_,hV,?_⟩;simp only [push_cast,↓zK,↓zJ,↓reduceIte,zA,zB,zC,zD,zE,zF,zG,zH,zI,reduceCtorEq])|apply And.intro|(intro hg;(try simp only [push_cast]at hg)))
 all_goals first|exact gA|(exact zR (by omega))|(exact zQ (by omega))|skip
 all_goals first|(refine hK9 _ ?_;clear hK9 K9)|(simp only [push_cast];done)
 all_goals simp only [push_cast,↓zK,↓zJ,↓reduceIte,zA,zB,zC,zD,zE,zF,zG,zH,zI,reduceCtorEq]
 all_goals repeat'(first|(apply zP<;>(intro hg;(try simp only [push_cast]at hg)))|(refine⟨_,hM,?_⟩;simp only [push_cast,↓zK,↓zJ,↓reduceIte,zA,zB,zC,zD,zE,zF,zG,zH,zI,reduceCtorEq])|(refine⟨_,hV,?_⟩;simp only [push_cast,↓zK,↓zJ,↓reduceIte,zA,zB,zC,zD,zE,zF,zG,zH,zI,reduceCtorEq])|apply And.intro|(intro hg;(try simp only [push_cast]at hg)))
 all_goals first|exact gA|(exact zR (by omega))|(exact zQ (by omega))|skip
 all_goals first|(refine hK _ ?_;clear hK K)|(simp only [push_cast];done)
 all_goals refine zU rfl (fun hc=> ?_) (fun hc=> ?_)
 all_goals(first|(cases hc;done)|skip)
 all_goals(try simp only [push_cast]at hc)
 all_goals try(
   refine zM fun K hK=> ?_
   refine zL zO zN [] rfl ?_
   all_goals simp only [push_cast,↓zK,↓zJ,↓reduceIte,zA,zB,zC,zD,zE,zF,zG,zH,zI,reduceCtorEq]
   all_goals repeat'(first|(apply zP<;>(intro hg;(try simp only [push_cast]at hg)))|apply And.intro|(intro hg;(try simp only [push_cast]at hg)))
   all_goals first|exact gA|(exact zR (by omega))|(exact zQ (by omega))|skip
   all_goals first|(refine hK _ ?_;clear hK K)|(simp only [push_cast];done)
   refine zc ?_
   (try simp only [zS,zT])
   refine⟨Or.inl rfl,?_⟩
   simp only [zh,yY,xR,push_cast,↓zK,↓zJ,↓reduceIte,zA,zB,zC,zD,zE,zF,zG,zH,zI,reduceCtorEq]
   rw [jx (show mmB a m s=false from by first|exact zCk (by with_reducible assumption)|exact zAL (by omega))]
   all_goals first|rfl|exact⟨rfl,rfl⟩|exact⟨⟨rfl,rfl⟩,rfl,rfl⟩|(simp;done)|skip
   done)
 refine zV ?_
 (try simp only [zS,zT,reduceIte,zF]);refine hK1 _ ?_
 have h0:(yn a&&vU a m)=true:=by with_reducible assumption
 obtain⟨h1,h2⟩:=Bool.and_eq_true_iff.1 h0
 have hB:mmB a m s=true:=zAM h1 h2 (by omega)
 rw [JF hB]
 have h:=WG hB
 have hal:=yc h.ar
 obtain⟨hk0,hkm⟩:=xg h.mem
 replace hW:=hW h
 have hlen:=KO h 6145
 have hok:=qj h 6145
 have hnd:(stM a m s 6145).Nodup:=Yh 6145
 have htr:trM a m s=⟨trN m (yZ (stM a m s 6145) (stM a m s 6145).length) a.owner.length (stM a m s 6145) (stM a m s 6145).length,trC a m (yZ (stM a m s 6145) (stM a m s 6145).length) a.owner.length (stM a m s 6145) (stM a m s 6145).length⟩:=rfl
 generalize stM a m s 6145=PS at*
 have hq9:QLn 1048576 PS:=⟨by omega,fun p hp=>by rw [(hok p hp).2.2.1];exact(by decide:1≤1048576)⟩
 have hol:=Yd (ps:=PS) (j:=PS.length) (k:=m.next.length) (Nat.le_refl _) (fun p hp=>(hok p hp).2.2.2)
 have hoh:=fun q (hq:q<PS.length)=>uP hq
 have hon:=Wz (ps:=PS) (j:=PS.length) (Nat.le_refl _)
 obtain⟨O,hO⟩: ∃o,o=yZ PS PS.length:=⟨_,rfl⟩
 rw [←hO]at htr hol hon
 have hoh2: ∀q,q<PS.length→yL O (tO (gq PS q))=true:=fun q hq=>by rw [hO];exact hoh q hq
 have hO9: ∀p∈PS,yL O (tO p)=true∧0≤p.at_∧p.at_<(a.owner.length:Int)∧p.record= [tO p]:=fun p hp=>⟨(qX _ _).2 (by rw [hO];obtain⟨i9,hi9,rfl⟩:=List.mem_iff_getElem.1 hp;exact(wP (Nat.le_refl _) _).2 ⟨i9,hi9,by rw [←zDh hi9]⟩),(hok p hp).1,(hok p hp).2.1,(hok p hp).2.2.1⟩
 have hEm:=kW O.length a.owner.length (by omega) (by omega)
 rw [htr]
 unfold dMe emM at hEm
 refine zM fun K hK=> ?_
 refine zL zO zN [] rfl ?_
 all_goals refine qI 4 fun K9 hK9=> ?_
 all_goals simp only [push_cast,↓zK,↓zJ,↓reduceIte,zA,zB,zC,zD,zE,zF,zG,zH,zI,reduceCtorEq]
 all_goals repeat'(first|(apply zP<;>(intro hg;(try simp only [push_cast]at hg)))|(refine⟨_,hW,?_⟩;simp only [push_cast,↓zK,↓zJ,↓reduceIte,zA,zB,zC,zD,zE,zF,zG,zH,zI,reduceCtorEq])|apply And.intro|(intro hg;(try simp only [push_cast]at hg)))
 all_goals first|exact gA|(exact zR (by omega))|(exact zQ (by omega))|skip
 all_goals first|(refine hK9 _ ?_;clear hK9 K9)|(simp only [push_cast];done)
 all_goals simp only [push_cast,↓zK,↓zJ,↓reduceIte,zA,zB,zC,zD,zE,zF,zG,zH,zI,reduceCtorEq]
 all_goals repeat'(first|(apply zP<;>(intro hg;(try simp only [push_cast]at hg)))|(refine⟨_,hW,?_⟩;simp only [push_cast,↓zK,↓zJ,↓reduceIte,zA,zB,zC,zD,zE,zF,zG,zH,zI,reduceCtorEq])|apply And.intro|(intro hg;(try simp only [push_cast]at hg)))
 all_goals first|exact gA|(exact zR (by omega))|(exact zQ (by omega))|skip
 all_goals first|(refine hK _ ?_;clear hK K)|(simp only [push_cast];done)
 refine zM fun K hK=> ?_
 refine zL zO zN [] rfl ?_
 all_goals simp only [push_cast,↓zK,↓zJ,↓reduceIte,zA,zB,zC,zD,zE,zF,zG,zH,zI,reduceCtorEq]
 all_goals repeat'(first|(apply zP<;>(intro hg;(try simp only [push_cast]at hg)))|apply And.intro|(intro hg;(try simp only [push_cast]at hg)))
 all_goals first|exact gA|(exact zR (by omega))|(exact zQ (by omega))|skip
 all_goals first|(refine hK _ ?_;clear hK K)|(simp only [push_cast];done)
 refine zM fun K2 hK2=> ?_
 refine zM fun K hK=> ?_
 refine zL zO zN [] rfl ?_
 all_goals simp only [push_cast,↓zK,↓zJ,↓reduceIte,zA,zB,zC,zD,zE,zF,zG,zH,zI,reduceCtorEq]
 all_goals repeat'(first|(apply zP<;>(intro hg;(try simp only [push_cast]at hg)))|apply And.intro|(intro hg;(try simp only [push_cast]at hg)))
 all_goals first|exact gA|(exact zR (by omega))|(exact zQ (by omega))|skip
 all_goals first|(refine hK _ ?_;clear hK K)|(simp only [push_cast];done)
 refine zZ ?_
 refine zo [9,10,21,36,37,38,39,40,41,42,43,44,45,46,47,48,49,50,51,52,53,54,55,56,57,58,59,60,61] [144] (fun(q:Nat)=> [(10, .int .i64 q),(9, .sl 144 [] 0 (yZ PS q).length 2)]) (fun q=> []) (fun q=> [(144,⟨.ex,2,dI (yZ PS q),none⟩)]) (fun q=>q≤PS.length) (fun q=>PS.length - q) 0 ?_ (by omega) ?_
 ·
  rw [WJ]
  refine zd rfl ?_ ?_ ?_<;>simp only [zl,zk,push_cast,↓zK,↓zJ,↓reduceIte,zA,zB,zC,zD,zE,zF,zG,zH,zI,reduceCtorEq]
  all_goals first|rfl|exact⟨rfl,rfl⟩|exact⟨⟨rfl,rfl⟩,rfl,rfl⟩|(simp;done)|skip
 ·rintro q hq KL0 hL0
  have holq:=Yd (ps:=PS) (j:=q) (k:=m.next.length) hq (fun p hp=>(hok p hp).2.2.2)
  simp only [push_cast,↓zK,↓zJ,↓reduceIte,zA,zB,zC,zD,zE,zF,zG,zH,zI,reduceCtorEq]
  refine zM fun K3 hK3=> ?_
  refine zM fun K hK=> ?_
  refine zL zO zN [] rfl ?_
  all_goals simp only [push_cast,↓zK,↓zJ,↓reduceIte,zA,zB,zC,zD,zE,zF,zG,zH,zI,reduceCtorEq]
  all_goals repeat'(first|(apply zP<;>(intro hg;(try simp only [push_cast]at hg)))|apply And.intro|(intro hg;(try simp only [push_cast]at hg)))
  all_goals first|exact gA|(exact zR (by omega))|(exact zQ (by omega))|skip
  all_goals first|(refine hK _ ?_;clear hK K)|(simp only [push_cast];done)
  refine zU rfl (fun hc=> ?_) (fun hc=> ?_)<;>(try simp only [push_cast]at hc)
  ·
   refine zV ?_
   (try simp only [zS,zT,reduceIte,zF]);refine hK3 _ ?_
   refine zM fun K4 hK4=> ?_
   refine zZ ?_
   have hP:=hok _ (qC (ps:=PS) (k:=q) (by omega))
   obtain⟨hP1,hP2,hP3,hP4,hP5⟩:=hP
   have hPl:(gq PS q).record.length=1:=by rw [hP3];rfl
   cases hb:yL (yZ PS q) (tO (gq PS q))
   ·
    refine zM fun K hK=> ?_
    refine zL zO zN [] rfl ?_
    all_goals refine qI 9 fun K9 hK9=> ?_
    all_goals simp only [push_cast,↓zK,↓zJ,↓reduceIte,zA,zB,zC,zD,zE,zF,zG,zH,zI,reduceCtorEq]
    all_goals repeat'(first|(apply zP<;>(intro hg;(try simp only [push_cast]at hg)))|(refine⟨_,vk (yZ PS q) (gi (gq PS q).record 0) (by omega),?_⟩;simp only [push_cast,↓zK,↓zJ,↓reduceIte,zA,zB,zC,zD,zE,zF,zG,zH,zI,reduceCtorEq])|apply And.intro|(intro hg;(try simp only [push_cast]at hg)))
    all_goals first|exact gA|(exact zR (by omega))|(exact zQ (by omega))|skip
    all_goals first|(refine hK9 _ ?_;clear hK9 K9)|(simp only [push_cast];done)
    all_goals simp only [push_cast,↓zK,↓zJ,↓reduceIte,zA,zB,zC,zD,zE,zF,zG,zH,zI,reduceCtorEq]
    all_goals repeat'(first|(apply zP<;>(intro hg;(try simp only [push_cast]at hg)))|(refine⟨_,vk (yZ PS q) (gi (gq PS q).record 0) (by omega),?_⟩;simp only [push_cast,↓zK,↓zJ,↓reduceIte,zA,zB,zC,zD,zE,zF,zG,zH,zI,reduceCtorEq])|apply And.intro|(intro hg;(try simp only [push_cast]at hg)))
    all_goals first|exact gA|(exact zR (by omega))|(exact zQ (by omega))|skip
    all_goals first|(refine hK _ ?_;clear hK K)|(simp only [push_cast];done)
    all_goals rw [show yL (yZ PS q) (gi (gq PS q).record 0)=false from hb]
    refine zU rfl (fun hc=> ?_) (fun hc=> ?_)
    rotate_left
    ·exfalso;first|(cases hc;done)|(simp only [push_cast]at hc;done)|(simp only [push_cast]at hc;omega)|omega
    refine zL zO zN [] rfl ?_
    all_goals simp only [push_cast,↓zK,↓zJ,↓reduceIte,zA,zB,zC,zD,zE,zF,zG,zH,zI,reduceCtorEq]
    all_goals repeat'(first|(apply zP<;>(intro hg;(try simp only [push_cast]at hg)))|apply And.intro|(intro hg;(try simp only [push_cast]at hg)))
    all_goals first|exact gA|(exact zR (by omega))|(exact zQ (by omega))|skip
    (try simp only [zS,zT,reduceIte,zF]);refine hK4 _ ?_
    refine zL zO zN [] rfl ?_
    all_goals simp only [push_cast,↓zK,↓zJ,↓reduceIte,zA,zB,zC,zD,zE,zF,zG,zH,zI,reduceCtorEq]
    all_goals repeat'(first|(apply zP<;>(intro hg;(try simp only [push_cast]at hg)))|apply And.intro|(intro hg;(try simp only [push_cast]at hg)))
    all_goals first|exact gA|(exact zR (by omega))|(exact zQ (by omega))|skip
    refine hL0 _ ⟨q+1,by omega,by omega,?_⟩
    rw [Ye (by omega),QH hb]
    refine zd rfl ?_ ?_ ?_<;>simp only [zl,zk,push_cast,↓zK,↓zJ,↓reduceIte,zA,zB,zC,zD,zE,zF,zG,zH,zI,reduceCtorEq]
    all_goals first|rfl|(rw [List.length_append];rfl)|skip
   ·
    refine zM fun K hK=> ?_
    refine zL zO zN [] rfl ?_
    all_goals refine qI 9 fun K9 hK9=> ?_
    all_goals simp only [push_cast,↓zK,↓zJ,↓reduceIte,zA,zB,zC,zD,zE,zF,zG,zH,zI,reduceCtorEq]
    all_goals repeat'(first|(apply zP<;>(intro hg;(try simp only [push_cast]at hg)))|(refine⟨_,vk (yZ PS q) (gi (gq PS q).record 0) (by omega),?_⟩;simp only [push_cast,↓zK,↓zJ,↓reduceIte,zA,zB,zC,zD,zE,zF,zG,zH,zI,reduceCtorEq])|apply And.intro|(intro hg;(try simp only [push_cast]at hg)))
    all_goals first|exact gA|(exact zR (by omega))|(exact zQ (by omega))|skip
    all_goals first|(refine hK9 _ ?_;clear hK9 K9)|(simp only [push_cast];done)
    all_goals simp only [push_cast,↓zK,↓zJ,↓reduceIte,zA,zB,zC,zD,zE,zF,zG,zH,zI,reduceCtorEq]
    all_goals repeat'(first|(apply zP<;>(intro hg;(try simp only [push_cast]at hg)))|(refine⟨_,vk (yZ PS q) (gi (gq PS q).record 0) (by omega),?_⟩;simp only [push_cast,↓zK,↓zJ,↓reduceIte,zA,zB,zC,zD,zE,zF,zG,zH,zI,reduceCtorEq])|apply And.intro|(intro hg;(try simp only [push_cast]at hg)))
    all_goals first|exact gA|(exact zR (by omega))|(exact zQ (by omega))|skip
    all_goals first|(refine hK _ ?_;clear hK K)|(simp only [push_cast];done)
    all_goals rw [show yL (yZ PS q) (gi (gq PS q).record 0)=true from hb]
    refine zU rfl (fun hc=> ?_) (fun hc=> ?_)
    skip
    ·exfalso;first|(cases hc;done)|(simp only [push_cast]at hc;done)|(simp only [push_cast]at hc;omega)|omega
    refine zV ?_
    (try simp only [zS,zT,reduceIte,zF]);refine hK4 _ ?_
    refine zL zO zN [] rfl ?_
    all_goals simp only [push_cast,↓zK,↓zJ,↓reduceIte,zA,zB,zC,zD,zE,zF,zG,zH,zI,reduceCtorEq]
    all_goals repeat'(first|(apply zP<;>(intro hg;(try simp only [push_cast]at hg)))|apply And.intro|(intro hg;(try simp only [push_cast]at hg)))
    all_goals first|exact gA|(exact zR (by omega))|(exact zQ (by omega))|skip
    refine hL0 _ ⟨q+1,by omega,by omega,?_⟩
    rw [Ye (by omega),QG hb]
    refine zd rfl ?_ ?_ ?_<;>simp only [zl,zk,push_cast,↓zK,↓zJ,↓reduceIte,zA,zB,zC,zD,zE,zF,zG,zH,zI,reduceCtorEq]
    all_goals first|rfl|(rw [List.length_append];rfl)|skip
  ·
   refine zr ?_
   have hqq:q=PS.length:=by omega
   subst hqq
   rw [←hO]
   (try simp only [zS,zT,reduceIte,zF]);refine hK2 _ ?_
   refine zM fun K hK=> ?_
   refine zL zO zN [] rfl ?_
   all_goals refine qI 6 fun K9 hK9=> ?_
   all_goals simp only [push_cast,↓zK,↓zJ,↓reduceIte,zA,zB,zC,zD,zE,zF,zG,zH,zI,reduceCtorEq]
   all_goals repeat'(first|(apply zP<;>(intro hg;(try simp only [push_cast]at hg)))|(refine⟨_,hEm,?_⟩;simp only [push_cast,↓zK,↓zJ,↓reduceIte,zA,zB,zC,zD,zE,zF,zG,zH,zI,reduceCtorEq])|apply And.intro|(intro hg;(try simp only [push_cast]at hg)))
   all_goals first|exact gA|(exact zR (by omega))|(exact zQ (by omega))|skip
   all_goals first|(refine hK9 _ ?_;clear hK9 K9)|(simp only [push_cast];done)
   all_goals simp only [push_cast,↓zK,↓zJ,↓reduceIte,zA,zB,zC,zD,zE,zF,zG,zH,zI,reduceCtorEq]
   all_goals repeat'(first|(apply zP<;>(intro hg;(try simp only [push_cast]at hg)))|(refine⟨_,hEm,?_⟩;simp only [push_cast,↓zK,↓zJ,↓reduceIte,zA,zB,zC,zD,zE,zF,zG,zH,zI,reduceCtorEq])|apply And.intro|(intro hg;(try simp only [push_cast]at hg)))
   all_goals first|exact gA|(exact zR (by omega))|(exact zQ (by omega))|skip
   all_goals first|(refine hK _ ?_;clear hK K)|(simp only [push_cast];done)
   refine zM fun K5 hK5=> ?_
   refine zM fun K hK=> ?_
   refine zL zO zN [] rfl ?_
   all_goals simp only [push_cast,↓zK,↓zJ,↓reduceIte,zA,zB,zC,zD,zE,zF,zG,zH,zI,reduceCtorEq]
   all_goals repeat'(first|(apply zP<;>(intro hg;(try simp only [push_cast]at hg)))|apply And.intro|(intro hg;(try simp only [push_cast]at hg)))
   all_goals first|exact gA|(exact zR (by omega))|(exact zQ (by omega))|skip
   all_goals first|(refine hK _ ?_;clear hK K)|(simp only [push_cast];done)
   refine zZ ?_
   refine zo [11,12,13,14,15,16,21,68,69,70,71,72,73,74,75,76,77,78,79,80,81,82,83,84,85,86,87,88,89,90,91,92,93,94,95,96,97,98,99,100,101,102,103,104,105,106,107,108,109,110,111,112,113,114,115,116,117,118,119,120,121,122,123,124,125,126,127,128,129,130,131,132,133,134,135,136,137,138,139] [176,177] (fun(q:Nat)=> [(12, .int .i64 q),(11, .bp 11 0)]) (fun q=> [(11,[.sl 176 [] 0 O.length 22, .sl 177 [] 0 O.length 22])]) (fun q=> [(176,⟨.ex,22,dII (trN m O a.owner.length PS q),none⟩),(177,⟨.ex,22,dII (trC a m O a.owner.length PS q),none⟩)]) (fun q=>q≤PS.length) (fun q=>PS.length - q) 0 ?_ (by omega) ?_
   ·
    rw [UY,zBz]
    refine zd rfl ?_ ?_ ?_<;>simp only [zl,zk,push_cast,↓zK,↓zJ,↓reduceIte,zA,zB,zC,zD,zE,zF,zG,zH,zI,reduceCtorEq]
    all_goals first|rfl|exact⟨rfl,rfl⟩|(rw [List.length_replicate,List.length_replicate])|skip
   ·rintro q hq KL1 hL1
    simp only [push_cast,↓zK,↓zJ,↓reduceIte,zA,zB,zC,zD,zE,zF,zG,zH,zI,reduceCtorEq]
    refine zM fun K6 hK6=> ?_
    refine zM fun K hK=> ?_
    refine zL zO zN [] rfl ?_
    all_goals simp only [push_cast,↓zK,↓zJ,↓reduceIte,zA,zB,zC,zD,zE,zF,zG,zH,zI,reduceCtorEq]
    all_goals repeat'(first|(apply zP<;>(intro hg;(try simp only [push_cast]at hg)))|apply And.intro|(intro hg;(try simp only [push_cast]at hg)))
    all_goals first|exact gA|(exact zR (by omega))|(exact zQ (by omega))|skip
    all_goals first|(refine hK _ ?_;clear hK K)|(simp only [push_cast];done)
    refine zU rfl (fun hc=> ?_) (fun hc=> ?_)<;>(try simp only [push_cast]at hc)
    ·
     refine zV ?_
     (try simp only [zS,zT,reduceIte,zF]);refine hK6 _ ?_
     refine zM fun K7 hK7=> ?_
     refine zZ ?_
     refine zM fun K hK=> ?_
     refine zL zO zN [] rfl ?_
     all_goals simp only [push_cast,↓zK,↓zJ,↓reduceIte,zA,zB,zC,zD,zE,zF,zG,zH,zI,reduceCtorEq]
     all_goals repeat'(first|(apply zP<;>(intro hg;(try simp only [push_cast]at hg)))|apply And.intro|(intro hg;(try simp only [push_cast]at hg)))
     all_goals first|exact gA|(exact zR (by omega))|(exact zQ (by omega))|skip
     all_goals first|(refine hK _ ?_;clear hK K)|(simp only [push_cast];done)
     have hP:=hok _ (qC (ps:=PS) (k:=q) (by omega))
     obtain⟨hP1,hP2,hP3,hP4,hP5⟩:=hP
     have hPl:(gq PS q).record.length=1:=by rw [hP3];rfl
     refine zM fun K hK=> ?_
     refine zL zO zN [] rfl ?_
     all_goals simp only [push_cast,↓zK,↓zJ,↓reduceIte,zA,zB,zC,zD,zE,zF,zG,zH,zI,reduceCtorEq]
     all_goals repeat'(first|(apply zP<;>(intro hg;(try simp only [push_cast]at hg)))|apply And.intro|(intro hg;(try simp only [push_cast]at hg)))
     all_goals first|exact gA|(exact zR (by omega))|(exact zQ (by omega))|skip
     all_goals first|(refine hK _ ?_;clear hK K)|(simp only [push_cast];done)
     have hP:=hok _ (qC (ps:=PS) (k:=q) (by omega))
     obtain⟨hP1,hP2,hP3,hP4,hP5⟩:=hP
     have hPl:(gq PS q).record.length=1:=by rw [hP3];rfl
     have hh:=hoh2 q (by omega)
     have hf:zz O (tO (gq PS q))<O.length:=of_decide_eq_true hh
     obtain⟨hr1,hr2,hr3⟩:=hkm (gi (gq PS q).record 0).toNat (by omega)
     have hr4:=(ZV hr2).1
     have hr5:=hr3 (gq PS q).at_.toNat (by omega)
     have hs1:=wk (m:=m) (O:=O) (n:=a.owner.length) (ps:=PS) (j:=q) (by omega)
     have hs2:=Yj (a:=a) (m:=m) (O:=O) (n:=a.owner.length) (ps:=PS) (j:=q) (by omega)
     have hs5:=hs1.1
     have hs6:=hs2.1
     have hs7:=hs1.2
     have hs8:=hs2.2
     refine zM fun K hK=> ?_
     refine zL zO zN [] rfl ?_
     all_goals simp only [push_cast,↓zK,↓zJ,↓reduceIte,zA,zB,zC,zD,zE,zF,zG,zH,zI,reduceCtorEq]
     all_goals repeat'(first|(apply zP<;>(intro hg;(try simp only [push_cast]at hg)))|apply And.intro|(intro hg;(try simp only [push_cast]at hg)))
     all_goals first|exact gA|(exact zR (by omega))|(exact zQ (by omega))|skip
     all_goals first|(refine hK _ ?_;clear hK K)|(simp only [push_cast];done)
     refine zZ ?_
     refine zo [11,15,16,21,86,87,88,89,90,91,92,93,94,95,96,97,98,99,100,101,102,103,104,105,106,107,108,109,110,111,112,113,114,115,116,117,118,119,120,121,122,123,124,125,126,127,128,129,130,131,132,133,134,135,136,137,138,139] [176,177] (fun(s9:Nat)=> [(15, .int .i64 s9),(11, .bp 11 0)]) (fun s9=> [(11,[.sl 176 [] 0 O.length 22, .sl 177 [] 0 O.length 22])]) (fun s9=> [(176,⟨.ex,22,dII (slT (zz O (tO (gq PS q))) s9 (trN m O a.owner.length PS q) (trN m O a.owner.length PS (q+1))),none⟩),(177,⟨.ex,22,dII (slT (zz O (tO (gq PS q))) s9 (trC a m O a.owner.length PS q) (trC a m O a.owner.length PS (q+1))),none⟩)]) (fun s9=>s9≤O.length) (fun s9=>O.length - s9) 0 ?_ (by omega) ?_
     ·
      rw [ZY _ _ (Nat.not_lt_zero _),ZY _ _ (Nat.not_lt_zero _)]
      refine zd rfl ?_ ?_ ?_<;>simp only [zl,zk,push_cast,↓zK,↓zJ,↓reduceIte,zA,zB,zC,zD,zE,zF,zG,zH,zI,reduceCtorEq]
      all_goals first|rfl|exact⟨rfl,rfl⟩|exact⟨⟨rfl,rfl⟩,rfl,rfl⟩|(simp;done)|skip
     ·rintro s9 hs9 KL2 hL2
      simp only [push_cast,↓zK,↓zJ,↓reduceIte,zA,zB,zC,zD,zE,zF,zG,zH,zI,reduceCtorEq]
      refine zM fun K8 hK8=> ?_
      refine zM fun K hK=> ?_
      refine zL zO zN [] rfl ?_
      all_goals simp only [push_cast,↓zK,↓zJ,↓reduceIte,zA,zB,zC,zD,zE,zF,zG,zH,zI,reduceCtorEq]
      all_goals repeat'(first|(apply zP<;>(intro hg;(try simp only [push_cast]at hg)))|apply And.intro|(intro hg;(try simp only [push_cast]at hg)))
      all_goals first|exact gA|(exact zR (by omega))|(exact zQ (by omega))|skip
      all_goals first|(refine hK _ ?_;clear hK K)|(simp only [push_cast];done)
      refine zU rfl (fun hc=> ?_) (fun hc=> ?_)<;>(try simp only [push_cast]at hc)
      ·
       refine zV ?_
       (try simp only [zS,zT,reduceIte,zF]);refine hK8 _ ?_
       refine zM fun K9 hK9=> ?_
       refine zZ ?_
       refine zM fun K10 hK10=> ?_
       have hsl:=hs7 s9 (by omega)
       have hsl2:=hs8 s9 (by omega)
       have hfn:=jK hon (k:=s9) (by omega)
       by_cases he:gi O s9=(gi (gq PS q).record 0)
       ·
        have hI:(zz O (tO (gq PS q)))=s9:=by unfold tO;rw [←he];exact hfn
        rw [ZY _ _ (show ¬(zz O (tO (gq PS q)))<s9 by omega),ZY _ _ (show ¬(zz O (tO (gq PS q)))<s9 by omega)]
        refine zM fun K hK=> ?_
        refine zL zO zN [] rfl ?_
        all_goals simp only [push_cast,↓zK,↓zJ,↓reduceIte,zA,zB,zC,zD,zE,zF,zG,zH,zI,reduceCtorEq]
        all_goals repeat'(first|(apply zP<;>(intro hg;(try simp only [push_cast]at hg)))|apply And.intro|(intro hg;(try simp only [push_cast]at hg)))
        all_goals first|exact gA|(exact zR (by omega))|(exact zQ (by omega))|skip
        all_goals first|(refine hK _ ?_;clear hK K)|(simp only [push_cast];done)
        refine zU rfl (fun hc=> ?_) (fun hc=> ?_)
        skip
        ·exfalso;first|(cases hc;done)|(simp only [push_cast]at hc;done)|(simp only [push_cast]at hc;omega)|omega
        refine zV ?_
        (try simp only [zS,zT,reduceIte,zF]);refine hK10 _ ?_
        refine zM fun K hK=> ?_
        refine yN false zO zN xM ?_ rfl ?_
        ·kernel_rfl
        intro E hE
        all_goals simp only [push_cast,↓zK,↓zJ,↓reduceIte,zA,zB,zC,zD,zE,zF,zG,zH,zI,reduceCtorEq]
        all_goals repeat'(first|(apply zP<;>(intro hg;(try simp only [push_cast]at hg)))|apply And.intro|(intro hg;(try simp only [push_cast]at hg)))
        all_goals first|exact gA|(refine hE _ _ ?_ ?_;kernel_rfl)|(exact zR (by omega))|(exact zQ (by omega))|skip
        all_goals clear hE E
        all_goals first|(refine hK _ ?_;clear hK K)|(simp only [push_cast];done)
        all_goals(try rw [Zq _ _ _ _ (by omega)])
        refine zM fun K hK=> ?_
        refine zL zO zN [] rfl ?_
        all_goals simp only [push_cast,↓zK,↓zJ,↓reduceIte,zA,zB,zC,zD,zE,zF,zG,zH,zI,reduceCtorEq]
        all_goals repeat'(first|(apply zP<;>(intro hg;(try simp only [push_cast]at hg)))|apply And.intro|(intro hg;(try simp only [push_cast]at hg)))
        all_goals first|exact gA|(exact zR (by omega))|(exact zQ (by omega))|skip
        all_goals first|(refine hK _ ?_;clear hK K)|(simp only [push_cast];done)
        refine zZ ?_
        refine zo [11,16,21,113,114,115,116,117,118,119,120,121,122,123,124,125,126,127,128,129,130,131,132,133,134,135,136,137,138,139] [176,177] (fun(s8:Nat)=> [(16, .int .i64 s8),(11, .bp 11 0)]) (fun s8=> [(11,[.sl 176 [] 0 O.length 22, .sl 177 [] 0 O.length 22])]) (fun s8=> [(176,⟨.ex,22,dII (slT (zz O (ntM m (gq PS q))) s8 (trN m O a.owner.length PS q) ((trN m O a.owner.length PS q).set s9 ((gl (trN m O a.owner.length PS q) s9).set (gq PS q).at_.toNat ((zz O (ntM m (gq PS q))):Int)))),none⟩),(177,⟨.ex,22,dII ((trC a m O a.owner.length PS q).set s9 ((gl (trC a m O a.owner.length PS q) s9).set (gq PS q).at_.toNat (gi (gl m.choice (gi (gq PS q).record 0).toNat) (gq PS q).at_.toNat))),none⟩)]) (fun s8=>s8≤O.length) (fun s8=>O.length - s8) 0 ?_ (by omega) ?_
        ·
         rw [ZY _ _ (Nat.not_lt_zero _)]
         refine zd rfl ?_ ?_ ?_<;>simp only [zl,zk,push_cast,↓zK,↓zJ,↓reduceIte,zA,zB,zC,zD,zE,zF,zG,zH,zI,reduceCtorEq]
         all_goals first|rfl|exact⟨rfl,rfl⟩|exact⟨⟨rfl,rfl⟩,rfl,rfl⟩|(simp;done)|skip
        ·rintro s8 hs8 KL3 hL3
         simp only [push_cast,↓zK,↓zJ,↓reduceIte,zA,zB,zC,zD,zE,zF,zG,zH,zI,reduceCtorEq]
         refine zM fun K11 hK11=> ?_
         refine zM fun K hK=> ?_
         refine zL zO zN [] rfl ?_
         all_goals simp only [push_cast,↓zK,↓zJ,↓reduceIte,zA,zB,zC,zD,zE,zF,zG,zH,zI,reduceCtorEq]
         all_goals repeat'(first|(apply zP<;>(intro hg;(try simp only [push_cast]at hg)))|apply And.intro|(intro hg;(try simp only [push_cast]at hg)))
         all_goals first|exact gA|(exact zR (by omega))|(exact zQ (by omega))|skip
         all_goals first|(refine hK _ ?_;clear hK K)|(simp only [push_cast];done)
         refine zU rfl (fun hc=> ?_) (fun hc=> ?_)<;>(try simp only [push_cast]at hc)
         ·
          refine zV ?_
          (try simp only [zS,zT,reduceIte,zF]);refine hK11 _ ?_
          refine zM fun K12 hK12=> ?_
          refine zZ ?_
          have hfn2:=jK hon (k:=s8) (by omega)
          by_cases he2:gi O s8=(gi (gl m.next (gi (gq PS q).record 0).toNat) (gq PS q).at_.toNat)
          ·
           have hJ:(zz O (ntM m (gq PS q)))=s8:=by unfold ntM;rw [←he2];exact hfn2
           rw [ZY _ _ (show ¬(zz O (ntM m (gq PS q)))<s8 by omega)]
           refine zM fun K hK=> ?_
           refine yN false zO zN xM ?_ rfl ?_
           ·kernel_rfl
           intro E hE
           all_goals simp only [push_cast,↓zK,↓zJ,↓reduceIte,zA,zB,zC,zD,zE,zF,zG,zH,zI,reduceCtorEq]
           all_goals repeat'(first|(apply zP<;>(intro hg;(try simp only [push_cast]at hg)))|apply And.intro|(intro hg;(try simp only [push_cast]at hg)))
           all_goals first|exact gA|(refine hE _ _ ?_ ?_;kernel_rfl)|(exact zR (by omega))|(exact zQ (by omega))|skip
           all_goals clear hE E
           all_goals first|(refine hK _ ?_;clear hK K)|(simp only [push_cast];done)
           refine zU rfl (fun hc=> ?_) (fun hc=> ?_)
           rotate_left
           ·exfalso;first|(cases hc;done)|(simp only [push_cast]at hc;done)|(simp only [push_cast]at hc;omega)|omega
           refine zL zO zN [] rfl ?_
           all_goals simp only [push_cast,↓zK,↓zJ,↓reduceIte,zA,zB,zC,zD,zE,zF,zG,zH,zI,reduceCtorEq]
           all_goals repeat'(first|(apply zP<;>(intro hg;(try simp only [push_cast]at hg)))|apply And.intro|(intro hg;(try simp only [push_cast]at hg)))
           all_goals first|exact gA|(exact zR (by omega))|(exact zQ (by omega))|skip
           all_goals(try rw [Zq _ _ _ _ (by omega)])
           (try simp only [zS,zT,reduceIte,zF]);refine hK12 _ ?_
           refine zL zO zN [] rfl ?_
           all_goals simp only [push_cast,↓zK,↓zJ,↓reduceIte,zA,zB,zC,zD,zE,zF,zG,zH,zI,reduceCtorEq]
           all_goals repeat'(first|(apply zP<;>(intro hg;(try simp only [push_cast]at hg)))|apply And.intro|(intro hg;(try simp only [push_cast]at hg)))
           all_goals first|exact gA|(exact zR (by omega))|(exact zQ (by omega))|skip
           refine hL3 _ ⟨s8+1,by omega,by omega,?_⟩
           rw [ZJ _ _ (show(zz O (ntM m (gq PS q)))<s8+1 by omega),hJ]
           refine zd rfl ?_ ?_ ?_<;>simp only [zl,zk,push_cast,↓zK,↓zJ,↓reduceIte,zA,zB,zC,zD,zE,zF,zG,zH,zI,reduceCtorEq]
           all_goals first|rfl|exact⟨rfl,rfl⟩|exact⟨⟨rfl,rfl⟩,rfl,rfl⟩|(simp;done)|skip
          ·
           have hJ: ¬(zz O (ntM m (gq PS q)))=s8:=fun e9=>he2 (by rw [←e9];exact wd (by omega))
           refine zM fun K hK=> ?_
           refine yN false zO zN xM ?_ rfl ?_
           ·kernel_rfl
           intro E hE
           all_goals simp only [push_cast,↓zK,↓zJ,↓reduceIte,zA,zB,zC,zD,zE,zF,zG,zH,zI,reduceCtorEq]
           all_goals repeat'(first|(apply zP<;>(intro hg;(try simp only [push_cast]at hg)))|apply And.intro|(intro hg;(try simp only [push_cast]at hg)))
           all_goals first|exact gA|(refine hE _ _ ?_ ?_;kernel_rfl)|(exact zR (by omega))|(exact zQ (by omega))|skip
           all_goals clear hE E
           all_goals first|(refine hK _ ?_;clear hK K)|(simp only [push_cast];done)
           refine zU rfl (fun hc=> ?_) (fun hc=> ?_)
           skip
           ·exfalso;first|(cases hc;done)|(simp only [push_cast]at hc;done)|(simp only [push_cast]at hc;omega)|omega
           refine zV ?_
           (try simp only [zS,zT,reduceIte,zF]);refine hK12 _ ?_
           refine zL zO zN [] rfl ?_
           all_goals simp only [push_cast,↓zK,↓zJ,↓reduceIte,zA,zB,zC,zD,zE,zF,zG,zH,zI,reduceCtorEq]
           all_goals repeat'(first|(apply zP<;>(intro hg;(try simp only [push_cast]at hg)))|apply And.intro|(intro hg;(try simp only [push_cast]at hg)))
           all_goals first|exact gA|(exact zR (by omega))|(exact zQ (by omega))|skip
           refine hL3 _ ⟨s8+1,by omega,by omega,?_⟩
           rw [VU _ _ hJ]
           refine zd rfl ?_ ?_ ?_<;>simp only [zl,zk,push_cast,↓zK,↓zJ,↓reduceIte,zA,zB,zC,zD,zE,zF,zG,zH,zI,reduceCtorEq]
           all_goals first|rfl|exact⟨rfl,rfl⟩|exact⟨⟨rfl,rfl⟩,rfl,rfl⟩|(simp;done)|skip
         ·
          refine zr ?_
          have hs89:s8=O.length:=by omega
          subst hs89
          (try simp only [zS,zT,reduceIte,zF]);refine hK9 _ ?_
          refine zL zO zN [] rfl ?_
          all_goals simp only [push_cast,↓zK,↓zJ,↓reduceIte,zA,zB,zC,zD,zE,zF,zG,zH,zI,reduceCtorEq]
          all_goals repeat'(first|(apply zP<;>(intro hg;(try simp only [push_cast]at hg)))|apply And.intro|(intro hg;(try simp only [push_cast]at hg)))
          all_goals first|exact gA|(exact zR (by omega))|(exact zQ (by omega))|skip
          refine hL2 _ ⟨s9+1,by omega,by omega,?_⟩
          rw [ZJ _ _ (show(zz O (tO (gq PS q)))<s9+1 by omega),ZJ _ _ (show(zz O (tO (gq PS q)))<s9+1 by omega),←zCy hnd hO9 (by omega) hI,UX (by omega)]
          unfold Xy
          rw [hI]
          refine zd rfl ?_ ?_ ?_<;>simp only [zl,zk,push_cast,↓zK,↓zJ,↓reduceIte,zA,zB,zC,zD,zE,zF,zG,zH,zI,reduceCtorEq]
          all_goals first|rfl|exact⟨rfl,rfl⟩|exact⟨⟨rfl,rfl⟩,rfl,rfl⟩|(simp;done)|skip
       ·
        have hI: ¬(zz O (tO (gq PS q)))=s9:=fun e9=>he (by rw [←e9];exact wd hf)
        refine zM fun K hK=> ?_
        refine zL zO zN [] rfl ?_
        all_goals simp only [push_cast,↓zK,↓zJ,↓reduceIte,zA,zB,zC,zD,zE,zF,zG,zH,zI,reduceCtorEq]
        all_goals repeat'(first|(apply zP<;>(intro hg;(try simp only [push_cast]at hg)))|apply And.intro|(intro hg;(try simp only [push_cast]at hg)))
        all_goals first|exact gA|(exact zR (by omega))|(exact zQ (by omega))|skip
        all_goals first|(refine hK _ ?_;clear hK K)|(simp only [push_cast];done)
        refine zU rfl (fun hc=> ?_) (fun hc=> ?_)
        rotate_left
        ·exfalso;first|(cases hc;done)|(simp only [push_cast]at hc;done)|(simp only [push_cast]at hc;omega)|omega
        refine zr ?_
        (try simp only [zS,zT,reduceIte,zF]);refine hK9 _ ?_
        refine zL zO zN [] rfl ?_
        all_goals simp only [push_cast,↓zK,↓zJ,↓reduceIte,zA,zB,zC,zD,zE,zF,zG,zH,zI,reduceCtorEq]
        all_goals repeat'(first|(apply zP<;>(intro hg;(try simp only [push_cast]at hg)))|apply And.intro|(intro hg;(try simp only [push_cast]at hg)))
        all_goals first|exact gA|(exact zR (by omega))|(exact zQ (by omega))|skip
        refine hL2 _ ⟨s9+1,by omega,by omega,?_⟩
        rw [VU _ _ hI,VU _ _ hI]
        refine zd rfl ?_ ?_ ?_<;>simp only [zl,zk,push_cast,↓zK,↓zJ,↓reduceIte,zA,zB,zC,zD,zE,zF,zG,zH,zI,reduceCtorEq]
        all_goals first|rfl|exact⟨rfl,rfl⟩|exact⟨⟨rfl,rfl⟩,rfl,rfl⟩|(simp;done)|skip
      ·
       refine zr ?_
       rw [ZJ _ _ (show(zz O (tO (gq PS q)))<s9 by omega),ZJ _ _ (show(zz O (tO (gq PS q)))<s9 by omega)]
       (try simp only [zS,zT,reduceIte,zF]);refine hK7 _ ?_
       refine zL zO zN [] rfl ?_
       all_goals simp only [push_cast,↓zK,↓zJ,↓reduceIte,zA,zB,zC,zD,zE,zF,zG,zH,zI,reduceCtorEq]
       all_goals repeat'(first|(apply zP<;>(intro hg;(try simp only [push_cast]at hg)))|apply And.intro|(intro hg;(try simp only [push_cast]at hg)))
       all_goals first|exact gA|(exact zR (by omega))|(exact zQ (by omega))|skip
       refine hL1 _ ⟨q+1,by omega,by omega,?_⟩
       refine zd rfl ?_ ?_ ?_<;>simp only [zl,zk,push_cast,↓zK,↓zJ,↓reduceIte,zA,zB,zC,zD,zE,zF,zG,zH,zI,reduceCtorEq]
       all_goals first|rfl|exact⟨rfl,rfl⟩|exact⟨⟨rfl,rfl⟩,rfl,rfl⟩|(simp;done)|skip
    ·
     refine zr ?_
     have hqq:q=PS.length:=by omega
     subst hqq
     (try simp only [zS,zT,reduceIte,zF]);refine hK5 _ ?_
     refine zM fun K hK=> ?_
     refine zL zO zN [] rfl ?_
     all_goals simp only [push_cast,↓zK,↓zJ,↓reduceIte,zA,zB,zC,zD,zE,zF,zG,zH,zI,reduceCtorEq]
     all_goals repeat'(first|(apply zP<;>(intro hg;(try simp only [push_cast]at hg)))|apply And.intro|(intro hg;(try simp only [push_cast]at hg)))
     all_goals first|exact gA|(exact zR (by omega))|(exact zQ (by omega))|skip
     all_goals first|(refine hK _ ?_;clear hK K)|(simp only [push_cast];done)
     refine zc ?_
     (try simp only [zS,zT])
     refine⟨Or.inl rfl,?_⟩
     simp only [zh,yY,xR,push_cast,↓zK,↓zJ,↓reduceIte,zA,zB,zC,zD,zE,zF,zG,zH,zI,reduceCtorEq]
     all_goals first|rfl|exact⟨(wk (Nat.le_refl _)).1.symm,(Yj (Nat.le_refl _)).1.symm⟩|exact⟨rfl,rfl⟩|skip
theorem Uf {c n:Nat}{N:List (List Int)}(h:SqN c n N)(hc:c≤1048576)(hn:n≤1048576):xu 1048576 N:=⟨by rw [h.1];exact hc,fun r hr=>by
 obtain⟨i,hi,rfl⟩:=List.mem_iff_getElem.1 hr
 have h1:=vL hi
 rw [List.getElem?_eq_getElem hi]at h1
 have h2:=h.2 i (by rw [←h.1];exact hi)
 rw [←Option.some.inj h1]at h2
 omega⟩
theorem zC4 {a:Ar}{m:Me}{s:Int}:(tmR a m s).Ln 1048576:=by
 cases hB:mmB a m s with
 |false=>rw [jx hB];exact⟨⟨by simp,by simp⟩,⟨by simp,by simp⟩⟩
 |true=>
  rw [JF hB]
  have h:=WG hB
  have hal:=yc h.ar
  have hk:=(xg h.mem).1
  have hol:=Yd (ps:=stM a m s 6145) (j:=(stM a m s 6145).length) (k:=m.next.length) (Nat.le_refl _) (fun p hp=>(qj h 6145 p hp).2.2.2)
  unfold trM
  generalize stM a m s 6145=PS at*
  exact⟨Uf (wk (Nat.le_refl _)) (by omega) (by omega),Uf (Yj (Nat.le_refl _)) (by omega) (by omega)⟩
set_option maxRecDepth 20000 in
set_option maxHeartbeats 4000000 in
theorem Qd (a:Ar)(ha:a.Ln 1048576)(m:Me)(hm:m.Ln 1048576)(s:Int):Fn Try.prog tyT 28 [.agg (dAr a), .agg (dMe m), .c (.int .i64 s)] [.agg (dMe (tmR a m s))]:=by
 have hno:=ha.owner
 unfold LnI at hno
 have hA:=kF a ha
 have hM:=fun h=>kV a ha h m hm
 have hV:=jT a s
 have hW:=VY a ha m hm s
 unfold dAr at hA hM hV hW
 unfold dMe at hM hW
 unfold dAr dMe
 refine ZK (fn:=Try.f28) (rs:= [.cell 6 42]) zO zN Try.func28 (by kernel_rfl) rfl rfl (by rw [Try.ntmps28];exact Nat.le_of_ble_eq_true rfl) rfl (by simp only [szA,List.mem_cons,List.not_mem_nil,or_false,forall_eq_or_imp,forall_eq,VT.cells,szL];try decide) ?_
 rw [Try.ntmps28]
 simp only [push_cast,↓zK,↓zJ,↓reduceIte,zA,zB,zC,zD,zE,zF,zG,zH,zI,reduceCtorEq]
 refine zM fun K hK=> ?_
 refine zL zO zN [] rfl ?_
 all_goals simp only [push_cast,↓zK,↓zJ,↓reduceIte,zA,zB,zC,zD,zE,zF,zG,zH,zI,reduceCtorEq]
 all_goals repeat'(first|(apply zP<;>(intro hg;(try simp only [push_cast]at hg)))|apply And.intro|(intro hg;(try simp only [push_cast]at hg)))
 all_goals first|exact gA|(exact zQ (by omega))|skip
 all_goals first|(refine hK _ ?_;clear hK K)|(simp only [push_cast];done)
 refine zM fun K1 hK1=> ?_
 refine zM fun K hK=> ?_
 refine zp false zO zN ?_ rfl ?_
 ·kernel_rfl
 all_goals refine xI 2 fun K9 hK9=> ?_
 all_goals simp only [push_cast,↓zK,↓zJ,↓reduceIte,zA,zB,zC,zD,zE,zF,zG,zH,zI,reduceCtorEq]
 all_goals repeat'(first|(apply zP<;>(intro hg;(try simp only [push_cast]at hg)))|(refine⟨_,hA,?_⟩;simp only [push_cast,↓zK,↓zJ,↓reduceIte,zA,zB,zC,zD,zE,zF,zG,zH,zI,reduceCtorEq])|(refine⟨_,hM (yc (by with_reducible assumption)).2.2,?_⟩;simp only [push_cast,↓zK,↓zJ,↓reduceIte,zA,zB,zC,zD,zE,zF,zG,zH,zI,reduceCtorEq])|(refine⟨_,hV,?_⟩;simp only [push_cast,↓zK,↓zJ,↓reduceIte,zA,zB,zC,zD,zE,zF,zG,zH,zI,reduceCtorEq])|apply And.intro|(intro hg;(try simp only [push_cast]at hg)))
 all_goals first|exact gA|(exact zQ (by omega))|skip
 all_goals first|(refine hK9 _ ?_;clear hK9 K9)|(simp only [push_cast];done)
 all_goals refine xI 5 fun K9 hK9=> ?_
 all_goals simp only [push_cast,↓zK,↓zJ,↓reduceIte,zA,zB,zC,zD,zE,zF,zG,zH,zI,reduceCtorEq]
 all_goals repeat'(first|(apply zP<;>(intro hg;(try simp only [push_cast]at hg)))|(refine⟨_,hA,?_⟩;simp only [push_cast,↓zK,↓zJ,↓reduceIte,zA,zB,zC,zD,zE,zF,zG,zH,zI,reduceCtorEq])|(refine⟨_,hM (yc (by with_reducible assumption)).2.2,?_⟩;simp only [push_cast,↓zK,↓zJ,↓reduceIte,zA,zB,zC,zD,zE,zF,zG,zH,zI,reduceCtorEq])|(refine⟨_,hV,?_⟩;simp only [push_cast,↓zK,↓zJ,↓reduceIte,zA,zB,zC,zD,zE,zF,zG,zH,zI,reduceCtorEq])|apply And.intro|(intro hg;(try simp only [push_cast]at hg)))
 all_goals first|exact gA|(exact zQ (by omega))|skip
 all_goals first|(refine hK9 _ ?_;clear hK9 K9)|(simp only [push_cast];done)
 all_goals refine xI 6 fun K9 hK9=> ?_
 all_goals simp only [push_cast,↓zK,↓zJ,↓reduceIte,zA,zB,zC,zD,zE,zF,zG,zH,zI,reduceCtorEq]
 all_goals repeat'(first|(apply zP<;>(intro hg;(try simp only [push_cast]at hg)))|(refine⟨_,hA,?_⟩;simp only [push_cast,↓zK,↓zJ,↓reduceIte,zA,zB,zC,zD,zE,zF,zG,zH,zI,reduceCtorEq])|(refine⟨_,hM (yc (by with_reducible assumption)).2.2,?_⟩;simp only [push_cast,↓zK,↓zJ,↓reduceIte,zA,zB,zC,zD,zE,zF,zG,zH,zI,reduceCtorEq])|(refine⟨_,hV,?_⟩;simp only [push_cast,↓zK,↓zJ,↓reduceIte,zA,zB,zC,zD,zE,zF,zG,zH,zI,reduceCtorEq])|apply And.intro|(intro hg;(try simp only [push_cast]at hg)))
 all_goals first|exact gA|(exact zQ (by omega))|skip
 all_goals first|(refine hK9 _ ?_;clear hK9 K9)|(simp only [push_cast];done)
 all_goals simp only [push_cast,↓zK,↓zJ,↓reduceIte,zA,zB,zC,zD,zE,zF,zG,zH,zI,reduceCtorEq]
 all_goals repeat'(first|(apply zP<;>(intro hg;(try simp only [push_cast]at hg)))|(refine⟨_,hA,?_⟩;simp only [push_cast,↓zK,↓zJ,↓reduceIte,zA,zB,zC,zD,zE,zF,zG,zH,zI,reduceCtorEq])|(refine⟨_,hM (yc (by with_reducible assumption)).2.2,?_⟩;simp only [push_cast,↓zK,↓zJ,↓reduceIte,zA,zB,zC,zD,zE,zF,zG,zH,zI,reduceCtorEq])|(refine⟨_,hV,?_⟩;simp only [push_cast,↓zK,↓zJ,↓reduceIte,zA,zB,zC,zD,zE,zF,zG,zH,zI,reduceCtorEq])|apply And.intro|(intro hg;(try simp only [push_cast]at hg)))
 all_goals first|exact gA|(exact zQ (by omega))|skip
 all_goals first|(refine hK _ ?_;clear hK K)|(simp only [push_cast];done)
 all_goals refine zU rfl (fun hc=> ?_) (fun hc=> ?_)
 all_goals(first|(cases hc;done)|skip)
 all_goals(try simp only [push_cast]at hc)
 all_goals try(
   refine zM fun K hK=> ?_
   refine zL zO zN [] rfl ?_
   all_goals simp only [push_cast,↓zK,↓zJ,↓reduceIte,zA,zB,zC,zD,zE,zF,zG,zH,zI,reduceCtorEq]
   all_goals repeat'(first|(apply zP<;>(intro hg;(try simp only [push_cast]at hg)))|apply And.intro|(intro hg;(try simp only [push_cast]at hg)))
   all_goals first|exact gA|(exact zQ (by omega))|skip
   all_goals first|(refine hK _ ?_;clear hK K)|(simp only [push_cast];done)
   refine zc ?_
   (try simp only [zS,zT])
   refine⟨Or.inl rfl,?_⟩
   simp only [zh,yY,xR,push_cast,↓zK,↓zJ,↓reduceIte,zA,zB,zC,zD,zE,zF,zG,zH,zI,reduceCtorEq]
   rw [jx (show mmB a m s=false from by first|exact zDs (by with_reducible assumption)|exact zDt (by with_reducible assumption)|exact zAL (by omega))]
   all_goals first|rfl|exact⟨rfl,rfl⟩|exact⟨⟨rfl,rfl⟩,rfl,rfl⟩|(simp;done)|skip
   done)
 refine zV ?_
 (try simp only [zS,zT,reduceIte,zF]);refine hK1 _ ?_
 have hB:mmB a m s=true:=zAM (by with_reducible assumption) (by with_reducible assumption) (by omega)
 rw [JF hB]
 generalize trM a m s=G9 at*
 refine zM fun K hK=> ?_
 refine zL zO zN [] rfl ?_
 all_goals refine qI 4 fun K9 hK9=> ?_
 all_goals simp only [push_cast,↓zK,↓zJ,↓reduceIte,zA,zB,zC,zD,zE,zF,zG,zH,zI,reduceCtorEq]
 all_goals repeat'(first|(apply zP<;>(intro hg;(try simp only [push_cast]at hg)))|(refine⟨_,hW (WG hB),?_⟩;simp only [push_cast,↓zK,↓zJ,↓reduceIte,zA,zB,zC,zD,zE,zF,zG,zH,zI,reduceCtorEq])|apply And.intro|(intro hg;(try simp only [push_cast]at hg)))
 all_goals first|exact gA|(exact zQ (by omega))|skip
 all_goals first|(refine hK9 _ ?_;clear hK9 K9)|(simp only [push_cast];done)
 all_goals simp only [push_cast,↓zK,↓zJ,↓reduceIte,zA,zB,zC,zD,zE,zF,zG,zH,zI,reduceCtorEq]
 all_goals repeat'(first|(apply zP<;>(intro hg;(try simp only [push_cast]at hg)))|(refine⟨_,hW (WG hB),?_⟩;simp only [push_cast,↓zK,↓zJ,↓reduceIte,zA,zB,zC,zD,zE,zF,zG,zH,zI,reduceCtorEq])|apply And.intro|(intro hg;(try simp only [push_cast]at hg)))
 all_goals first|exact gA|(exact zQ (by omega))|skip
 all_goals first|(refine hK _ ?_;clear hK K)|(simp only [push_cast];done)
 refine zc ?_
 (try simp only [zS,zT])
 refine⟨Or.inl rfl,?_⟩
 simp only [zh,yY,xR,push_cast,↓zK,↓zJ,↓reduceIte,zA,zB,zC,zD,zE,zF,zG,zH,zI,reduceCtorEq]
 all_goals first|rfl|exact⟨rfl,rfl⟩|exact⟨⟨rfl,rfl⟩,rfl,rfl⟩|(simp;done)|skip
end Go.Proofs.Ythepmdkpbjfdcaa
