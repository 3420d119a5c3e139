/- Has a plan no bad loop? qp it win? The walks, of one that does -/
import Derived.Test.YtdbecmmeifdafaaB14zbr
import Derived.Test.YtdbecmmeifdafaaGWzbr
import Derived.Test.YtdbecmmeifdafaaB4zbr
import Derived.Test.YtdbecmmeifdafaaGKzbr
namespace Go.Proofs.Ytdbecmmeifdafaa
open Nat renaming reduceMod → zA, reduceMul → zB, reduceDiv → zC, reduceAdd → zD, reduceSub → zE, reduceEqDiff → zF, reduceBEq → zG, reduceLT → zH, reduceLeDiff → zI
open Go.RowKit
set_option linter.unusedVariables false
set_option linter.unusedSimpArgs false
set_option maxRecDepth 20000 in
set_option maxHeartbeats 8000000 in
theorem zB0 (g:Pa)(hg:g.Ln 1048576)(reg plan:List Int)(hw:wy g reg plan):Fn Try.prog tyT 135 [.agg (dPa g), .c (.int .i64 0), .c (DI reg), .c (DI plan)] [.c (DI [])]:=by
 have hao:=(xe hw.pl).1
 have hal:=zw hao
 have hpf:=yS hw.ok
 have hpl:=hpf.2.1
 have hrl:=hw.rl
 have hrr:=hw.rg
 have hpe:=hw.plen
 have hR:=jD g hg reg plan hw
 have hE:=zBa g.a plan (by omega) (by omega)
 have hEr:=fun x hx=>zJR hw (x:=x) hx
 have hEl:=XO g.a plan
 have hBy:=fun ins v hv hi=>zB3 (vI g.a plan) ins v g.a.owner.length hv hal.2.1 (by rw [hEl];exact hal.2.2) hi (fun x hx=>(hEr x hx).1) (fun x hx=>(hEr x hx).2)
 have hbl:=fun ins v=>KP (vI g.a plan) ins v g.a.owner.length
 have hlp:=hw.loop
 have hpr:=hpf.2.2
 clear hEr hw
 simp only [←hpl]at hBy hlp hbl
 generalize vI g.a plan=E at*
 unfold dPa at hR
 unfold dAr at hE
 unfold dPa
 refine zt (fn:=Try.f135) (ts:= [8]) Try.func135 (by kernel_rfl) rfl rfl (by rw [Try.ntmps135];exact Nat.le_of_ble_eq_true rfl) rfl (by simp only [szA,List.mem_cons,List.not_mem_nil,or_false,forall_eq_or_imp,forall_eq,VT.cells,szL];try decide) ?_
 rw [Try.ntmps135]
 simp only [push_cast,↓zK,↓zJ,↓reduceIte,zA,zB,zC,zD,zE,zF,zG,zH,zI,reduceCtorEq]
 refine zL fun K hK=> ?_
 refine zM zP zN [] rfl ?_
 simp only [push_cast,↓zK,↓zJ,↓reduceIte,zA,zB,zC,zD,zE,zF,zG,zH,zI,reduceCtorEq]
 repeat' apply And.intro
 all_goals try exact gB
 all_goals first|(refine hK _ ?_;clear hK K)|(simp only [push_cast];done)
 refine zL fun K hK=> ?_
 refine zM zP zN [] rfl ?_
 simp only [push_cast,↓zK,↓zJ,↓reduceIte,zA,zB,zC,zD,zE,zF,zG,zH,zI,reduceCtorEq]
 repeat' apply And.intro
 all_goals try exact gB
 all_goals first|(refine hK _ ?_;clear hK K)|(simp only [push_cast];done)
 refine zL fun K1 hK1=> ?_
 refine zL fun K hK=> ?_
 refine zM zP zN [] rfl ?_
 all_goals refine zm 5 fun K9 hK9=> ?_
 all_goals simp only [push_cast,↓zK,↓zJ,↓reduceIte,zA,zB,zC,zD,zE,zF,zG,zH,zI,reduceCtorEq]
 all_goals repeat'(first|(apply zO<;>(intro hg;(try simp only [push_cast]at hg)))|(refine⟨_,hR,?_⟩;simp only [push_cast,↓zK,↓zJ,↓reduceIte,zA,zB,zC,zD,zE,zF,zG,zH,zI,reduceCtorEq])|apply And.intro|(intro hg;(try simp only [push_cast]at hg)))
 all_goals try exact gA
 all_goals first|(refine hK9 _ ?_;clear hK9 K9)|(simp only [push_cast];done)
 all_goals simp only [push_cast,↓zK,↓zJ,↓reduceIte,zA,zB,zC,zD,zE,zF,zG,zH,zI,reduceCtorEq]
 all_goals repeat'(first|(apply zO<;>(intro hg;(try simp only [push_cast]at hg)))|(refine⟨_,hR,?_⟩;simp only [push_cast,↓zK,↓zJ,↓reduceIte,zA,zB,zC,zD,zE,zF,zG,zH,zI,reduceCtorEq])|apply And.intro|(intro hg;(try simp only [push_cast]at hg)))
 all_goals try exact gA
 all_goals first|(refine hK _ ?_;clear hK K)|(simp only [push_cast];done)
 refine zU rfl (fun hc=> ?_) (fun hc=> ?_)
 skip
 ·exfalso;first|(cases hc;done)|(simp only [push_cast]at hc;done)|(simp only [push_cast]at hc;omega)|omega
 refine zV ?_
 (try simp only [zR,zS,reduceIte,zF]);refine hK1 _ ?_
 refine zL fun K hK=> ?_
 refine zBZ 26 zP zN [] rfl ?_
 all_goals simp only [push_cast,↓zK,↓zJ,↓reduceIte,zA,zB,zC,zD,zE,zF,zG,zH,zI,reduceCtorEq]
 all_goals repeat'(first|(apply zO<;>(intro hg;(try simp only [push_cast]at hg)))|(refine⟨_,_,hE,?_⟩;simp only [push_cast,↓zK,↓zJ,↓reduceIte,zA,zB,zC,zD,zE,zF,zG,zH,zI,reduceCtorEq])|apply And.intro|(intro hg;(try simp only [push_cast]at hg)))
 all_goals try exact gA
 all_goals first|(refine hK _ ?_;clear hK K)|(simp only [push_cast];done)
 refine zL fun K2 hK2=> ?_
 refine zL fun K hK=> ?_
 refine zM zP zN [] rfl ?_
 simp only [push_cast,↓zK,↓zJ,↓reduceIte,zA,zB,zC,zD,zE,zF,zG,zH,zI,reduceCtorEq]
 repeat' apply And.intro
 all_goals try exact gB
 all_goals first|(refine hK _ ?_;clear hK K)|(simp only [push_cast];done)
 refine zT ?_
 refine zd [9,11,12,13,14,27,28,29,30,31,32,33,34,35,36,37,38,39,40,41,42,43,44,45,46,47,48,49,50,51,52,53,54,55,56,57,58,59,60,61,62,63,64,65,66,67,68,69,70,71,72,73,74,75,76,77,78,79,80,81,82,83,84,85,86] [144] (fun(i:Nat)=> [(11, .int .i64 i),(9, .sl 144 [] 0 0 2)]) (fun i=> []) (fun i=> [(144,⟨.ex,2,[],none⟩)]) (fun i=>i≤reg.length) (fun i=>reg.length - i) 0 ?_ (by omega) ?_
 ·
  refine zW rfl ?_ ?_ ?_<;>simp only [zc,zb,push_cast,↓zK,↓zJ,↓reduceIte,zA,zB,zC,zD,zE,zF,zG,zH,zI,reduceCtorEq]
 ·rintro i hi KL0 hL0
  simp only [push_cast,↓zK,↓zJ,↓reduceIte,zA,zB,zC,zD,zE,zF,zG,zH,zI,reduceCtorEq]
  refine zL fun K3 hK3=> ?_
  refine zL fun K hK=> ?_
  refine zM zP zN [] rfl ?_
  simp only [push_cast,↓zK,↓zJ,↓reduceIte,zA,zB,zC,zD,zE,zF,zG,zH,zI,reduceCtorEq]
  repeat' apply And.intro
  all_goals try exact gB
  all_goals first|(refine hK _ ?_;clear hK K)|(simp only [push_cast];done)
  refine zU rfl (fun hc=> ?_) (fun hc=> ?_)<;>(try simp only [push_cast]at hc)
  ·
   refine zV ?_
   (try simp only [zR,zS,reduceIte,zF]);refine hK3 _ ?_
   refine zL fun K4 hK4=> ?_
   refine zT ?_
   refine zL fun K hK=> ?_
   refine zM zP zN [] rfl ?_
   simp only [push_cast,↓zK,↓zJ,↓reduceIte,zA,zB,zC,zD,zE,zF,zG,zH,zI,reduceCtorEq]
   repeat' apply And.intro
   all_goals try exact gB
   all_goals first|(refine hK _ ?_;clear hK K)|(simp only [push_cast];done)
   refine zL fun K5 hK5=> ?_
   have hri:=hrr i (by omega)
   obtain⟨v,hv9⟩: ∃v:Nat,gi reg i=(v:Int):=⟨_,(Int.toNat_of_nonneg hri.1).symm⟩
   rw [hv9]at hri⊢
   have hvn:v<g.a.owner.length:=by omega
   have hpv:=hpr v hvn
   refine zL fun K hK=> ?_
   refine zM zP zN [] rfl ?_
   simp only [push_cast,↓zK,↓zJ,↓reduceIte,zA,zB,zC,zD,zE,zF,zG,zH,zI,reduceCtorEq]
   repeat' apply And.intro
   all_goals try exact gB
   all_goals first|(refine hK _ ?_;clear hK K)|(simp only [push_cast];done)
   refine zU rfl (fun hc=> ?_) (fun hc=> ?_)<;>(try simp only [push_cast]at hc)
   ·
    refine ze ?_
    (try simp only [zR,zS,reduceIte,zF]);refine hK4 _ ?_
    refine zM zP zN [] rfl ?_
    simp only [push_cast,↓zK,↓zJ,↓reduceIte,zA,zB,zC,zD,zE,zF,zG,zH,zI,reduceCtorEq]
    repeat' apply And.intro
    all_goals try exact gB
    refine hL0 _ ⟨i+1,by omega,by omega,?_⟩
    refine zW rfl ?_ ?_ ?_<;>simp only [zc,zb,push_cast,↓zK,↓zJ,↓reduceIte,zA,zB,zC,zD,zE,zF,zG,zH,zI,reduceCtorEq]
   ·
    refine zV ?_
    (try simp only [zR,zS,reduceIte,zF]);refine hK5 _ ?_
    refine zL fun K hK=> ?_
    refine zM zP zN [] rfl ?_
    simp only [push_cast,↓zK,↓zJ,↓reduceIte,zA,zB,zC,zD,zE,zF,zG,zH,zI,reduceCtorEq]
    repeat' apply And.intro
    all_goals try exact gB
    all_goals first|(refine hK _ ?_;clear hK K)|(simp only [push_cast];done)
    refine zL fun K6 hK6=> ?_
    refine zL fun K hK=> ?_
    refine zM zP zN [] rfl ?_
    simp only [push_cast,↓zK,↓zJ,↓reduceIte,zA,zB,zC,zD,zE,zF,zG,zH,zI,reduceCtorEq]
    repeat' apply And.intro
    all_goals try exact gB
    all_goals first|(refine hK _ ?_;clear hK K)|(simp only [push_cast];done)
    refine zT ?_
    refine zd [14,49,50,51,52,53,54,55,56,57,58,59,60,61,62,63,64,65,66,67,68,69,70,71,72,73,74] [208] (fun(k:Nat)=> [(14, .int .i64 k),(13, .sl 208 [] 0 g.prio.length 4)]) (fun k=> []) (fun k=> [(208,⟨.ex,4,dB (wc g reg v g.prio.length k),none⟩)]) (fun k=>k≤reg.length) (fun k=>reg.length - k) 0 ?_ (by omega) ?_
    ·
     rw [show wc g reg v g.prio.length 0=List.replicate g.prio.length false from rfl]
     refine zW rfl ?_ ?_ ?_<;>simp only [zc,zb,push_cast,↓zK,↓zJ,↓reduceIte,zA,zB,zC,zD,zE,zF,zG,zH,zI,reduceCtorEq]
    ·rintro k hk KL1 hL1
     have hll0:=Zx g reg v g.prio.length k
     simp only [push_cast,↓zK,↓zJ,↓reduceIte,zA,zB,zC,zD,zE,zF,zG,zH,zI,reduceCtorEq]
     refine zL fun K7 hK7=> ?_
     refine zL fun K hK=> ?_
     refine zM zP zN [] rfl ?_
     simp only [push_cast,↓zK,↓zJ,↓reduceIte,zA,zB,zC,zD,zE,zF,zG,zH,zI,reduceCtorEq]
     repeat' apply And.intro
     all_goals try exact gB
     all_goals first|(refine hK _ ?_;clear hK K)|(simp only [push_cast];done)
     refine zU rfl (fun hc=> ?_) (fun hc=> ?_)<;>(try simp only [push_cast]at hc)
     ·
      refine zV ?_
      (try simp only [zR,zS,reduceIte,zF]);refine hK7 _ ?_
      refine zL fun K8 hK8=> ?_
      refine zT ?_
      have hrk:=hrr k (by omega)
      have hll:=Zx g reg v g.prio.length k
      refine zv false zP zN yj ?_ rfl ?_
      ·kernel_rfl
      intro E hE
      all_goals simp only [push_cast,↓zK,↓zJ,↓reduceIte,zA,zB,zC,zD,zE,zF,zG,zH,zI,reduceCtorEq]
      all_goals repeat'(first|(apply zO<;>(intro hg;(try simp only [push_cast]at hg)))|apply And.intro|(intro hg;(try simp only [push_cast]at hg)))
      all_goals first|exact gA|(refine hE _ _ ?_ ?_;kernel_rfl)|(rw [List.length_set];omega)|skip
      all_goals clear hE E
      (try simp only [zR,zS,reduceIte,zF]);refine hK8 _ ?_
      refine zM zP zN [] rfl ?_
      simp only [push_cast,↓zK,↓zJ,↓reduceIte,zA,zB,zC,zD,zE,zF,zG,zH,zI,reduceCtorEq]
      repeat' apply And.intro
      all_goals try exact gB
      refine hL1 _ ⟨k+1,by omega,by omega,?_⟩
      rw [show(wc g reg v g.prio.length k).set (gi reg k).toNat (decide (gi g.prio (gi reg k).toNat≤gi g.prio v))=wc g reg v g.prio.length (k+1)from rfl]
      refine zW rfl ?_ ?_ ?_<;>simp only [zc,zb,push_cast,↓zK,↓zJ,↓reduceIte,zA,zB,zC,zD,zE,zF,zG,zH,zI,reduceCtorEq]
     ·
      refine ze ?_
      have hkk:k=reg.length:=by omega
      subst hkk
      (try simp only [zR,zS,reduceIte,zF]);refine hK6 _ ?_
      have hll:=Zx g reg v g.prio.length reg.length
      have hBy9:=hBy (wc g reg v g.prio.length reg.length) v (by omega) hll
      have hb0:=hlp i v (by omega) hv9 (by omega)
      have hbl9:=hbl (wc g reg v g.prio.length reg.length) v
      generalize VM E (wc g reg v g.prio.length reg.length) v g.prio.length=bey at hBy9 hb0 hbl9
      rw [←List.take_of_length_le (l:=wc g reg v g.prio.length reg.length) (i:=g.prio.length) (by omega)]at hBy9
      refine zL fun K hK=> ?_
      refine zM zP zN [] rfl ?_
      all_goals refine zm 5 fun K9 hK9=> ?_
      all_goals simp only [push_cast,↓zK,↓zJ,↓reduceIte,zA,zB,zC,zD,zE,zF,zG,zH,zI,reduceCtorEq]
      all_goals repeat'(first|(apply zO<;>(intro hg;(try simp only [push_cast]at hg)))|(refine⟨_,hBy9,?_⟩;simp only [push_cast,↓zK,↓zJ,↓reduceIte,zA,zB,zC,zD,zE,zF,zG,zH,zI,reduceCtorEq])|apply And.intro|(intro hg;(try simp only [push_cast]at hg)))
      all_goals try exact gA
      all_goals first|(refine hK9 _ ?_;clear hK9 K9)|(simp only [push_cast];done)
      all_goals simp only [push_cast,↓zK,↓zJ,↓reduceIte,zA,zB,zC,zD,zE,zF,zG,zH,zI,reduceCtorEq]
      all_goals repeat'(first|(apply zO<;>(intro hg;(try simp only [push_cast]at hg)))|(refine⟨_,hBy9,?_⟩;simp only [push_cast,↓zK,↓zJ,↓reduceIte,zA,zB,zC,zD,zE,zF,zG,zH,zI,reduceCtorEq])|apply And.intro|(intro hg;(try simp only [push_cast]at hg)))
      all_goals try exact gA
      all_goals first|(refine hK _ ?_;clear hK K)|(simp only [push_cast];done)
      refine zU rfl (fun hc=> ?_) (fun hc=> ?_)
      skip
      ·exfalso;rw [hb0]at hc;cases hc
      refine zV ?_
      (try simp only [zR,zS,reduceIte,zF]);refine hK4 _ ?_
      refine zM zP zN [] rfl ?_
      simp only [push_cast,↓zK,↓zJ,↓reduceIte,zA,zB,zC,zD,zE,zF,zG,zH,zI,reduceCtorEq]
      repeat' apply And.intro
      all_goals try exact gB
      refine hL0 _ ⟨i+1,by omega,by omega,?_⟩
      refine zW rfl ?_ ?_ ?_<;>simp only [zc,zb,push_cast,↓zK,↓zJ,↓reduceIte,zA,zB,zC,zD,zE,zF,zG,zH,zI,reduceCtorEq]
  ·
   refine ze ?_
   (try simp only [zR,zS,reduceIte,zF]);refine hK2 _ ?_
   refine zL fun K hK=> ?_
   refine zM zP zN [] rfl ?_
   simp only [push_cast,↓zK,↓zJ,↓reduceIte,zA,zB,zC,zD,zE,zF,zG,zH,zI,reduceCtorEq]
   repeat' apply And.intro
   all_goals try exact gB
   all_goals first|(refine hK _ ?_;clear hK K)|(simp only [push_cast];done)
   refine zX ?_
   (try simp only [zR,zS])
   refine⟨Or.inl rfl,?_⟩
   simp only [zg,push_cast,↓zK,↓zJ,↓reduceIte,zA,zB,zC,zD,zE,zF,zG,zH,zI,reduceCtorEq]
   all_goals first|rfl|exact⟨rfl,rfl⟩|skip
set_option maxRecDepth 20000 in
set_option maxHeartbeats 4000000 in
theorem zC9 (g:Pa)(hg:g.Ln 1048576)(reg plan:List Int)(hw:wy g reg plan):Fn Try.prog tyT 101 [.agg (dPa g), .c (.int .i64 0), .c (DI reg), .c (DI plan)] [.c (.bool true)]:=by
 have hR:=jD g hg reg plan hw
 have hB:=zB0 g hg reg plan hw
 unfold dPa at hR hB⊢
 refine zt (fn:=Try.f101) (ts:= [8]) Try.func101 (by kernel_rfl) rfl rfl (by rw [Try.ntmps101];exact Nat.le_of_ble_eq_true rfl) rfl (by simp only [szA,List.mem_cons,List.not_mem_nil,or_false,forall_eq_or_imp,forall_eq,VT.cells,szL];try decide) ?_
 rw [Try.ntmps101]
 simp only [push_cast,↓zK,↓zJ,↓reduceIte,zA,zB,zC,zD,zE,zF,zG,zH,zI,reduceCtorEq]
 refine zL fun K hK=> ?_
 refine zM zP zN [] rfl ?_
 simp only [push_cast,↓zK,↓zJ,↓reduceIte,zA,zB,zC,zD,zE,zF,zG,zH,zI,reduceCtorEq]
 repeat' apply And.intro
 all_goals try exact gB
 all_goals first|(refine hK _ ?_;clear hK K)|(simp only [push_cast];done)
 refine zL fun K hK=> ?_
 refine zf false zP zN ?_ rfl ?_
 ·kernel_rfl
 all_goals refine zp 5 fun K9 hK9=> ?_
 all_goals simp only [push_cast,↓zK,↓zJ,↓reduceIte,zA,zB,zC,zD,zE,zF,zG,zH,zI,reduceCtorEq]
 all_goals repeat'(first|(apply zO<;>(intro hg;(try simp only [push_cast]at hg)))|(refine⟨_,hR,?_⟩;simp only [push_cast,↓zK,↓zJ,↓reduceIte,zA,zB,zC,zD,zE,zF,zG,zH,zI,reduceCtorEq])|apply And.intro|(intro hg;(try simp only [push_cast]at hg)))
 all_goals try exact gA
 all_goals first|(refine hK9 _ ?_;clear hK9 K9)|(simp only [push_cast];done)
 all_goals refine zp 6 fun K9 hK9=> ?_
 all_goals simp only [push_cast,↓zK,↓zJ,↓reduceIte,zA,zB,zC,zD,zE,zF,zG,zH,zI,reduceCtorEq]
 all_goals repeat'(first|(apply zO<;>(intro hg;(try simp only [push_cast]at hg)))|(refine⟨_,hB,?_⟩;simp only [push_cast,↓zK,↓zJ,↓reduceIte,zA,zB,zC,zD,zE,zF,zG,zH,zI,reduceCtorEq])|apply And.intro|(intro hg;(try simp only [push_cast]at hg)))
 all_goals try exact gA
 all_goals first|(refine hK9 _ ?_;clear hK9 K9)|(simp only [push_cast];done)
 all_goals simp only [push_cast,↓zK,↓zJ,↓reduceIte,zA,zB,zC,zD,zE,zF,zG,zH,zI,reduceCtorEq]
 all_goals repeat'(first|(apply zO<;>(intro hg;(try simp only [push_cast]at hg)))|(refine⟨_,hR,?_⟩;simp only [push_cast,↓zK,↓zJ,↓reduceIte,zA,zB,zC,zD,zE,zF,zG,zH,zI,reduceCtorEq])|(refine⟨_,hB,?_⟩;simp only [push_cast,↓zK,↓zJ,↓reduceIte,zA,zB,zC,zD,zE,zF,zG,zH,zI,reduceCtorEq])|apply And.intro|(intro hg;(try simp only [push_cast]at hg)))
 all_goals try exact gA
 all_goals first|(refine hK _ ?_;clear hK K)|(simp only [push_cast];done)
 all_goals(
   refine zX ?_
   (try simp only [zR,zS])
   refine⟨Or.inl rfl,?_⟩
   simp only [zg,push_cast,↓zK,↓zJ,↓reduceIte,zA,zB,zC,zD,zE,zF,zG,zH,zI,reduceCtorEq])
set_option maxRecDepth 20000 in
set_option maxHeartbeats 4000000 in
theorem zEQ (g:Pa)(hg:g.Ln 1048576)(reg plan:List Int)(hw:wy g reg plan):Fn Try.prog tyT 50 [.agg (dPa g), .c (.int .i64 0), .c (DI reg), .c (DI plan)] [.c (.bool true)]:=by
 have hR:=zC9 g hg reg plan hw
 have hB:=zBW g hg reg plan hw
 unfold dAr at hB
 unfold dPa at hR⊢
 refine zt (fn:=Try.f50) (ts:= [8]) Try.func50 (by kernel_rfl) rfl rfl (by rw [Try.ntmps50];exact Nat.le_of_ble_eq_true rfl) rfl (by simp only [szA,List.mem_cons,List.not_mem_nil,or_false,forall_eq_or_imp,forall_eq,VT.cells,szL];try decide) ?_
 rw [Try.ntmps50]
 simp only [push_cast,↓zK,↓zJ,↓reduceIte,zA,zB,zC,zD,zE,zF,zG,zH,zI,reduceCtorEq]
 refine zL fun K hK=> ?_
 refine zM zP zN [] rfl ?_
 simp only [push_cast,↓zK,↓zJ,↓reduceIte,zA,zB,zC,zD,zE,zF,zG,zH,zI,reduceCtorEq]
 repeat' apply And.intro
 all_goals try exact gB
 all_goals first|(refine hK _ ?_;clear hK K)|(simp only [push_cast];done)
 refine zL fun K hK=> ?_
 refine zf false zP zN ?_ rfl ?_
 ·kernel_rfl
 all_goals refine zp 5 fun K9 hK9=> ?_
 all_goals simp only [push_cast,↓zK,↓zJ,↓reduceIte,zA,zB,zC,zD,zE,zF,zG,zH,zI,reduceCtorEq]
 all_goals repeat'(first|(apply zO<;>(intro hg;(try simp only [push_cast]at hg)))|(refine⟨_,hR,?_⟩;simp only [push_cast,↓zK,↓zJ,↓reduceIte,zA,zB,zC,zD,zE,zF,zG,zH,zI,reduceCtorEq])|apply And.intro|(intro hg;(try simp only [push_cast]at hg)))
 all_goals try exact gA
 all_goals first|(refine hK9 _ ?_;clear hK9 K9)|(simp only [push_cast];done)
 all_goals refine zp 7 fun K9 hK9=> ?_
 all_goals simp only [push_cast,↓zK,↓zJ,↓reduceIte,zA,zB,zC,zD,zE,zF,zG,zH,zI,reduceCtorEq]
 all_goals repeat'(first|(apply zO<;>(intro hg;(try simp only [push_cast]at hg)))|(refine⟨_,hB,?_⟩;simp only [push_cast,↓zK,↓zJ,↓reduceIte,zA,zB,zC,zD,zE,zF,zG,zH,zI,reduceCtorEq])|apply And.intro|(intro hg;(try simp only [push_cast]at hg)))
 all_goals try exact gA
 all_goals first|(refine hK9 _ ?_;clear hK9 K9)|(simp only [push_cast];done)
 all_goals simp only [push_cast,↓zK,↓zJ,↓reduceIte,zA,zB,zC,zD,zE,zF,zG,zH,zI,reduceCtorEq]
 all_goals repeat'(first|(apply zO<;>(intro hg;(try simp only [push_cast]at hg)))|(refine⟨_,hR,?_⟩;simp only [push_cast,↓zK,↓zJ,↓reduceIte,zA,zB,zC,zD,zE,zF,zG,zH,zI,reduceCtorEq])|(refine⟨_,hB,?_⟩;simp only [push_cast,↓zK,↓zJ,↓reduceIte,zA,zB,zC,zD,zE,zF,zG,zH,zI,reduceCtorEq])|apply And.intro|(intro hg;(try simp only [push_cast]at hg)))
 all_goals try exact gA
 all_goals first|(refine hK _ ?_;clear hK K)|(simp only [push_cast];done)
 all_goals(
   refine zX ?_
   (try simp only [zR,zS])
   refine⟨Or.inl rfl,?_⟩
   simp only [zg,push_cast,↓zK,↓zJ,↓reduceIte,zA,zB,zC,zD,zE,zF,zG,zH,zI,reduceCtorEq])
theorem zFR {k n:Nat}(h:k<n):0≤((k:Int)+1).tmod n∧((k:Int)+1).tmod n<n∧(((k:Int)+1).tmod n).toNat<n∧((((k:Int)+1).tmod n).toNat=if k+1<n then k+1 else 0):=by
 have e:((k:Int)+1).tmod n=(((k+1)%n:Nat):Int):=by
  rw [Int.tmod_eq_emod_of_nonneg (by omega)]
  simp
 have h1:(k+1)%n<n:=Nat.mod_lt _ (by omega)
 rw [e]
 refine⟨by omega,by omega,by omega,?_⟩
 rw [Int.toNat_natCast]
 split
 ·exact Nat.mod_eq_of_lt (by assumption)
 ·rw [show k+1=n from by omega,Nat.mod_self]
theorem yr {xs:List Int}{k:Nat}(h:k<xs.length):gi xs (((k:Int)+1).tmod xs.length).toNat=vo xs (gi xs 0) k:=by
 rw [(zFR h).2.2.2]
 unfold vo
 split<;>rfl
theorem zBk {w:Wt}{l:Ls}(h:yP w=false):wX w l=0:=by unfold wX;rw [h];rfl
theorem zBz {w:Wt}{l:Ls}(h:xN w.a l=false):wX w l=0:=by unfold wX;rw [h,Bool.and_false];rfl
theorem JX {w:Wt}{l:Ls}(hw:yP w=true)(h:xN w.a l=true):wX w l=UZ w l:=by unfold wX;rw [hw,h];rfl
theorem zAw {w:Wt}{l:Ls}(h:yP w=true)(hl:xN w.a l=true){k:Nat}(hk:k≤l.loop.length): -256000≤Zq (fun i=>qm w (gi l.loop i) (vo l.loop (gi l.loop 0) i)) k∧Zq (fun i=>qm w (gi l.loop i) (vo l.loop (gi l.loop 0) i)) k≤256000:=by
 have h1:=wn hl
 have :=zHi (f:=fun i=>qm w (gi l.loop i) (vo l.loop (gi l.loop 0) i)) (b:=1000) (n:=k) fun i hi=>zGs h (JB hl (by omega)).1
 omega
set_option maxRecDepth 20000 in
set_option maxHeartbeats 4000000 in
theorem zDZ (w:Wt)(l:Ls)(ha:w.Ln 1048576)(hl:l.Ln 1048576)(hw:yP w=true)(hlas:xN w.a l=true):Fn Try.prog tyT 69 [.agg (dWt w), .agg (dLs l)] [.c (.int .i64 (UZ w l))]:=by
 have hno:=ha.a.owner
 have hlp:=hl.loop
 have hst:=hl.stem
 unfold LnI at hno hlp hst
 have hll:=wn hlas
 have hC:=fun v hv u hu=>zEU w ha hw v hv u hu
 unfold dWt at hC⊢
 unfold dLs
 refine zt (fn:=Try.f69) (ts:= [4]) Try.func69 (by kernel_rfl) rfl rfl (by rw [Try.ntmps69];exact Nat.le_of_ble_eq_true rfl) rfl (by simp only [szA,List.mem_cons,List.not_mem_nil,or_false,forall_eq_or_imp,forall_eq,VT.cells,szL];try decide) ?_
 rw [Try.ntmps69]
 simp only [push_cast,↓zK,↓zJ,↓reduceIte,zA,zB,zC,zD,zE,zF,zG,zH,zI,reduceCtorEq]
 refine zL fun K hK=> ?_
 refine zM zP zN [] rfl ?_
 all_goals simp only [push_cast,↓zK,↓zJ,↓reduceIte,zA,zB,zC,zD,zE,zF,zG,zH,zI,reduceCtorEq]
 all_goals repeat'(first|(apply zO<;>(intro hg;(try simp only [push_cast]at hg)))|(refine⟨_,hC _ (hat (by omega)).1 _ (by rw [yr (by omega)];exact(hat (by omega)).2),?_⟩;simp only [push_cast,↓zK,↓zJ,↓reduceIte,zA,zB,zC,zD,zE,zF,zG,zH,zI,reduceCtorEq])|apply And.intro|(intro hg;(try simp only [push_cast]at hg)))
 all_goals first|exact gA|(rw [yr (by omega)];have :=hb2 (by omega);omega)|(have :=hmd (by omega);omega)|skip
 all_goals first|(refine hK _ ?_;clear hK K)|(simp only [push_cast];done)
 refine zL fun K hK=> ?_
 refine zM zP zN [] rfl ?_
 all_goals simp only [push_cast,↓zK,↓zJ,↓reduceIte,zA,zB,zC,zD,zE,zF,zG,zH,zI,reduceCtorEq]
 all_goals repeat'(first|(apply zO<;>(intro hg;(try simp only [push_cast]at hg)))|(refine⟨_,hC _ (hat (by omega)).1 _ (by rw [yr (by omega)];exact(hat (by omega)).2),?_⟩;simp only [push_cast,↓zK,↓zJ,↓reduceIte,zA,zB,zC,zD,zE,zF,zG,zH,zI,reduceCtorEq])|apply And.intro|(intro hg;(try simp only [push_cast]at hg)))
 all_goals first|exact gA|(rw [yr (by omega)];have :=hb2 (by omega);omega)|(have :=hmd (by omega);omega)|skip
 all_goals first|(refine hK _ ?_;clear hK K)|(simp only [push_cast];done)
 refine zL fun K1 hK1=> ?_
 refine zL fun K hK=> ?_
 refine zM zP zN [] rfl ?_
 all_goals simp only [push_cast,↓zK,↓zJ,↓reduceIte,zA,zB,zC,zD,zE,zF,zG,zH,zI,reduceCtorEq]
 all_goals repeat'(first|(apply zO<;>(intro hg;(try simp only [push_cast]at hg)))|(refine⟨_,hC _ (hat (by omega)).1 _ (by rw [yr (by omega)];exact(hat (by omega)).2),?_⟩;simp only [push_cast,↓zK,↓zJ,↓reduceIte,zA,zB,zC,zD,zE,zF,zG,zH,zI,reduceCtorEq])|apply And.intro|(intro hg;(try simp only [push_cast]at hg)))
 all_goals first|exact gA|(rw [yr (by omega)];have :=hb2 (by omega);omega)|(have :=hmd (by omega);omega)|skip
 all_goals first|(refine hK _ ?_;clear hK K)|(simp only [push_cast];done)
 refine zT ?_
 refine zd [5,6,7,11,12,13,14,15,16,17,18,19,20,21,22,23,24,25,26,27,28,29,30,31] [] (fun(k:Nat)=> [(11, .int .i64 k),(5, .int .i64 (Zq (fun i=>qm w (gi l.loop i) (vo l.loop (gi l.loop 0) i)) k))]) (fun k=> []) (fun k=> []) (fun k=>k≤l.loop.length) (fun k=>l.loop.length - k) 0 ?_ (by omega) ?_
 ·
  simp only [Zq]
  refine zW rfl ?_ ?_ ?_<;>simp only [zc,zb,push_cast,↓zK,↓zJ,↓reduceIte,zA,zB,zC,zD,zE,zF,zG,zH,zI,reduceCtorEq]
 ·rintro k hk KL0 hL0
  have hb1:=zAw hw hlas hk
  have hb2:k<l.loop.length→_:=fun h=>zAw hw hlas (k:=k+1) (by omega)
  have hat:k<l.loop.length→_:=fun h=>JB hlas h
  simp only [Zq]at hb2
  have hmd:k<l.loop.length→_:=fun h=>zFR h
  simp only [push_cast,↓zK,↓zJ,↓reduceIte,zA,zB,zC,zD,zE,zF,zG,zH,zI,reduceCtorEq]
  refine zL fun K hK=> ?_
  refine zM zP zN [] rfl ?_
  all_goals simp only [push_cast,↓zK,↓zJ,↓reduceIte,zA,zB,zC,zD,zE,zF,zG,zH,zI,reduceCtorEq]
  all_goals repeat'(first|(apply zO<;>(intro hg;(try simp only [push_cast]at hg)))|(refine⟨_,hC _ (hat (by omega)).1 _ (by rw [yr (by omega)];exact(hat (by omega)).2),?_⟩;simp only [push_cast,↓zK,↓zJ,↓reduceIte,zA,zB,zC,zD,zE,zF,zG,zH,zI,reduceCtorEq])|apply And.intro|(intro hg;(try simp only [push_cast]at hg)))
  all_goals first|exact gA|(rw [yr (by omega)];have :=hb2 (by omega);omega)|(have :=hmd (by omega);omega)|skip
  all_goals first|(refine hK _ ?_;clear hK K)|(simp only [push_cast];done)
  refine zL fun K2 hK2=> ?_
  refine zU rfl (fun hc=> ?_) (fun hc=> ?_)<;>(try simp only [push_cast]at hc)
  ·
   refine zV ?_
   (try simp only [zR,zS,reduceIte,zF]);refine hK2 _ ?_
   refine zL fun K3 hK3=> ?_
   refine zT ?_
   refine zL fun K hK=> ?_
   refine zM zP zN [] rfl ?_
   all_goals simp only [push_cast,↓zK,↓zJ,↓reduceIte,zA,zB,zC,zD,zE,zF,zG,zH,zI,reduceCtorEq]
   all_goals repeat'(first|(apply zO<;>(intro hg;(try simp only [push_cast]at hg)))|(refine⟨_,hC _ (hat (by omega)).1 _ (by rw [yr (by omega)];exact(hat (by omega)).2),?_⟩;simp only [push_cast,↓zK,↓zJ,↓reduceIte,zA,zB,zC,zD,zE,zF,zG,zH,zI,reduceCtorEq])|apply And.intro|(intro hg;(try simp only [push_cast]at hg)))
   all_goals first|exact gA|(rw [yr (by omega)];have :=hb2 (by omega);omega)|(have :=hmd (by omega);omega)|skip
   all_goals first|(refine hK _ ?_;clear hK K)|(simp only [push_cast];done)
   refine zv false zP zN yj ?_ rfl ?_
   ·kernel_rfl
   intro E hE
   all_goals refine yT 14 (by decide) fun K9 hK9=> ?_
   all_goals simp only [push_cast,↓zK,↓zJ,↓reduceIte,zA,zB,zC,zD,zE,zF,zG,zH,zI,reduceCtorEq]
   all_goals repeat'(first|(apply zO<;>(intro hg;(try simp only [push_cast]at hg)))|(refine⟨_,hC _ (hat (by omega)).1 _ (by rw [yr (by omega)];exact(hat (by omega)).2),?_⟩;simp only [push_cast,↓zK,↓zJ,↓reduceIte,zA,zB,zC,zD,zE,zF,zG,zH,zI,reduceCtorEq])|apply And.intro|(intro hg;(try simp only [push_cast]at hg)))
   all_goals first|exact gA|(rw [yr (by omega)];have :=hb2 (by omega);omega)|(have :=hmd (by omega);omega)|skip
   all_goals first|(refine hK9 _ _ ?_;clear hK9 K9)|(simp only [push_cast];done)
   all_goals simp only [push_cast,↓zK,↓zJ,↓reduceIte,zA,zB,zC,zD,zE,zF,zG,zH,zI,reduceCtorEq]
   all_goals repeat'(first|(apply zO<;>(intro hg;(try simp only [push_cast]at hg)))|(refine⟨_,hC _ (hat (by omega)).1 _ (by rw [yr (by omega)];exact(hat (by omega)).2),?_⟩;simp only [push_cast,↓zK,↓zJ,↓reduceIte,zA,zB,zC,zD,zE,zF,zG,zH,zI,reduceCtorEq])|apply And.intro|(intro hg;(try simp only [push_cast]at hg)))
   all_goals first|exact gA|(refine hE _ _ ?_ ?_;kernel_rfl)|(rw [yr (by omega)];have :=hb2 (by omega);omega)|(have :=hmd (by omega);omega)|skip
   all_goals clear hE E
   (try simp only [zR,zS,reduceIte,zF]);refine hK3 _ ?_
   refine zM zP zN [] rfl ?_
   all_goals simp only [push_cast,↓zK,↓zJ,↓reduceIte,zA,zB,zC,zD,zE,zF,zG,zH,zI,reduceCtorEq]
   all_goals repeat'(first|(apply zO<;>(intro hg;(try simp only [push_cast]at hg)))|(refine⟨_,hC _ (hat (by omega)).1 _ (by rw [yr (by omega)];exact(hat (by omega)).2),?_⟩;simp only [push_cast,↓zK,↓zJ,↓reduceIte,zA,zB,zC,zD,zE,zF,zG,zH,zI,reduceCtorEq])|apply And.intro|(intro hg;(try simp only [push_cast]at hg)))
   all_goals first|exact gA|(rw [yr (by omega)];have :=hb2 (by omega);omega)|(have :=hmd (by omega);omega)|skip
   refine hL0 _ ⟨k+1,by omega,by omega,?_⟩
   rw [yr (by omega)]
   simp only [Zq]
   refine zW rfl ?_ ?_ ?_<;>simp only [zc,zb,push_cast,↓zK,↓zJ,↓reduceIte,zA,zB,zC,zD,zE,zF,zG,zH,zI,reduceCtorEq]
  ·
   refine ze ?_
   (try simp only [zR,zS,reduceIte,zF]);refine hK1 _ ?_
   refine zL fun K hK=> ?_
   refine zM zP zN [] rfl ?_
   all_goals simp only [push_cast,↓zK,↓zJ,↓reduceIte,zA,zB,zC,zD,zE,zF,zG,zH,zI,reduceCtorEq]
   all_goals repeat'(first|(apply zO<;>(intro hg;(try simp only [push_cast]at hg)))|(refine⟨_,hC _ (hat (by omega)).1 _ (by rw [yr (by omega)];exact(hat (by omega)).2),?_⟩;simp only [push_cast,↓zK,↓zJ,↓reduceIte,zA,zB,zC,zD,zE,zF,zG,zH,zI,reduceCtorEq])|apply And.intro|(intro hg;(try simp only [push_cast]at hg)))
   all_goals first|exact gA|(rw [yr (by omega)];have :=hb2 (by omega);omega)|(have :=hmd (by omega);omega)|skip
   all_goals first|(refine hK _ ?_;clear hK K)|(simp only [push_cast];done)
   refine zX ?_
   (try simp only [zR,zS])
   refine⟨Or.inl rfl,?_⟩
   simp only [zg,push_cast,↓zK,↓zJ,↓reduceIte,zA,zB,zC,zD,zE,zF,zG,zH,zI,reduceCtorEq]
   rw [show k=l.loop.length from by omega];rfl
set_option maxRecDepth 20000 in
set_option maxHeartbeats 4000000 in
theorem zBt (w:Wt)(l:Ls)(ha:w.Ln 1048576)(hl:l.Ln 1048576):Fn Try.prog tyT 103 [.agg (dWt w), .agg (dLs l)] [.c (.int .i64 (wX w l))]:=by
 have hno:=ha.a.owner
 have hlp:=hl.loop
 have hst:=hl.stem
 unfold LnI at hno hlp hst
 have hW:=UM w ha
 have hLo:=fun h=>jI w.a l ha.a hl h
 have hAl:=fun hw hlas=>zDZ w l ha hl hw hlas
 unfold dAr dLs at hLo
 unfold dWt at hW hAl⊢
 unfold dLs at hAl⊢
 refine zt (fn:=Try.f103) (ts:= [4]) Try.func103 (by kernel_rfl) rfl rfl (by rw [Try.ntmps103];exact Nat.le_of_ble_eq_true rfl) rfl (by simp only [szA,List.mem_cons,List.not_mem_nil,or_false,forall_eq_or_imp,forall_eq,VT.cells,szL];try decide) ?_
 rw [Try.ntmps103]
 simp only [push_cast,↓zK,↓zJ,↓reduceIte,zA,zB,zC,zD,zE,zF,zG,zH,zI,reduceCtorEq]
 refine zL fun K hK=> ?_
 refine zM zP zN [] rfl ?_
 simp only [push_cast,↓zK,↓zJ,↓reduceIte,zA,zB,zC,zD,zE,zF,zG,zH,zI,reduceCtorEq]
 repeat' apply And.intro
 all_goals try exact gB
 all_goals first|(refine hK _ ?_;clear hK K)|(simp only [push_cast];done)
 refine zL fun K1 hK1=> ?_
 refine zL fun K hK=> ?_
 refine zf false zP zN ?_ rfl ?_
 ·kernel_rfl
 all_goals refine zp 2 fun K9 hK9=> ?_
 all_goals simp only [push_cast,↓zK,↓zJ,↓reduceIte,zA,zB,zC,zD,zE,zF,zG,zH,zI,reduceCtorEq]
 all_goals repeat'(first|(apply zO<;>(intro hg;(try simp only [push_cast]at hg)))|(refine⟨_,hW,?_⟩;simp only [push_cast,↓zK,↓zJ,↓reduceIte,zA,zB,zC,zD,zE,zF,zG,zH,zI,reduceCtorEq])|(refine⟨_,hLo (yV (by with_reducible assumption)).1,?_⟩;simp only [push_cast,↓zK,↓zJ,↓reduceIte,zA,zB,zC,zD,zE,zF,zG,zH,zI,reduceCtorEq])|(refine⟨_,hAl hw hlas,?_⟩;simp only [push_cast,↓zK,↓zJ,↓reduceIte,zA,zB,zC,zD,zE,zF,zG,zH,zI,reduceCtorEq])|apply And.intro|(intro hg;(try simp only [push_cast]at hg)))
 all_goals try exact gA
 all_goals first|(refine hK9 _ ?_;clear hK9 K9)|(simp only [push_cast];done)
 all_goals refine zp 6 fun K9 hK9=> ?_
 all_goals simp only [push_cast,↓zK,↓zJ,↓reduceIte,zA,zB,zC,zD,zE,zF,zG,zH,zI,reduceCtorEq]
 all_goals repeat'(first|(apply zO<;>(intro hg;(try simp only [push_cast]at hg)))|(refine⟨_,hW,?_⟩;simp only [push_cast,↓zK,↓zJ,↓reduceIte,zA,zB,zC,zD,zE,zF,zG,zH,zI,reduceCtorEq])|(refine⟨_,hLo (yV (by with_reducible assumption)).1,?_⟩;simp only [push_cast,↓zK,↓zJ,↓reduceIte,zA,zB,zC,zD,zE,zF,zG,zH,zI,reduceCtorEq])|(refine⟨_,hAl hw hlas,?_⟩;simp only [push_cast,↓zK,↓zJ,↓reduceIte,zA,zB,zC,zD,zE,zF,zG,zH,zI,reduceCtorEq])|apply And.intro|(intro hg;(try simp only [push_cast]at hg)))
 all_goals try exact gA
 all_goals first|(refine hK9 _ ?_;clear hK9 K9)|(simp only [push_cast];done)
 all_goals simp only [push_cast,↓zK,↓zJ,↓reduceIte,zA,zB,zC,zD,zE,zF,zG,zH,zI,reduceCtorEq]
 all_goals repeat'(first|(apply zO<;>(intro hg;(try simp only [push_cast]at hg)))|(refine⟨_,hW,?_⟩;simp only [push_cast,↓zK,↓zJ,↓reduceIte,zA,zB,zC,zD,zE,zF,zG,zH,zI,reduceCtorEq])|(refine⟨_,hLo (yV (by with_reducible assumption)).1,?_⟩;simp only [push_cast,↓zK,↓zJ,↓reduceIte,zA,zB,zC,zD,zE,zF,zG,zH,zI,reduceCtorEq])|(refine⟨_,hAl hw hlas,?_⟩;simp only [push_cast,↓zK,↓zJ,↓reduceIte,zA,zB,zC,zD,zE,zF,zG,zH,zI,reduceCtorEq])|apply And.intro|(intro hg;(try simp only [push_cast]at hg)))
 all_goals try exact gA
 all_goals first|(refine hK _ ?_;clear hK K)|(simp only [push_cast];done)
 all_goals refine zU rfl (fun hc=> ?_) (fun hc=> ?_)
 all_goals(first|(cases hc;done)|skip)
 all_goals(try simp only [push_cast]at hc)
 all_goals try(
   refine zL fun K hK=> ?_
   refine zM zP zN [] rfl ?_
   simp only [push_cast,↓zK,↓zJ,↓reduceIte,zA,zB,zC,zD,zE,zF,zG,zH,zI,reduceCtorEq]
   repeat' apply And.intro
   all_goals try exact gB
   all_goals first|(refine hK _ ?_;clear hK K)|(simp only [push_cast];done)
   refine zX ?_
   (try simp only [zR,zS])
   refine⟨Or.inl rfl,?_⟩
   simp only [zg,push_cast,↓zK,↓zJ,↓reduceIte,zA,zB,zC,zD,zE,zF,zG,zH,zI,reduceCtorEq]
   symm
   first|exact zBk (by with_reducible assumption)|exact zBz (by with_reducible assumption)
   done)
 refine zV ?_
 (try simp only [zR,zS,reduceIte,zF]);refine hK1 _ ?_
 have hw:yP w=true:=by with_reducible assumption
 have hlas:xN w.a l=true:=by with_reducible assumption
 refine zL fun K hK=> ?_
 refine zM zP zN [] rfl ?_
 all_goals refine zm 3 fun K9 hK9=> ?_
 all_goals simp only [push_cast,↓zK,↓zJ,↓reduceIte,zA,zB,zC,zD,zE,zF,zG,zH,zI,reduceCtorEq]
 all_goals repeat'(first|(apply zO<;>(intro hg;(try simp only [push_cast]at hg)))|(refine⟨_,hW,?_⟩;simp only [push_cast,↓zK,↓zJ,↓reduceIte,zA,zB,zC,zD,zE,zF,zG,zH,zI,reduceCtorEq])|(refine⟨_,hLo (yV (by with_reducible assumption)).1,?_⟩;simp only [push_cast,↓zK,↓zJ,↓reduceIte,zA,zB,zC,zD,zE,zF,zG,zH,zI,reduceCtorEq])|(refine⟨_,hAl hw hlas,?_⟩;simp only [push_cast,↓zK,↓zJ,↓reduceIte,zA,zB,zC,zD,zE,zF,zG,zH,zI,reduceCtorEq])|apply And.intro|(intro hg;(try simp only [push_cast]at hg)))
 all_goals try exact gA
 all_goals first|(refine hK9 _ ?_;clear hK9 K9)|(simp only [push_cast];done)
 all_goals simp only [push_cast,↓zK,↓zJ,↓reduceIte,zA,zB,zC,zD,zE,zF,zG,zH,zI,reduceCtorEq]
 all_goals repeat'(first|(apply zO<;>(intro hg;(try simp only [push_cast]at hg)))|(refine⟨_,hW,?_⟩;simp only [push_cast,↓zK,↓zJ,↓reduceIte,zA,zB,zC,zD,zE,zF,zG,zH,zI,reduceCtorEq])|(refine⟨_,hLo (yV (by with_reducible assumption)).1,?_⟩;simp only [push_cast,↓zK,↓zJ,↓reduceIte,zA,zB,zC,zD,zE,zF,zG,zH,zI,reduceCtorEq])|(refine⟨_,hAl hw hlas,?_⟩;simp only [push_cast,↓zK,↓zJ,↓reduceIte,zA,zB,zC,zD,zE,zF,zG,zH,zI,reduceCtorEq])|apply And.intro|(intro hg;(try simp only [push_cast]at hg)))
 all_goals try exact gA
 all_goals first|(refine hK _ ?_;clear hK K)|(simp only [push_cast];done)
 refine zX ?_
 (try simp only [zR,zS])
 refine⟨Or.inl rfl,?_⟩
 simp only [zg,push_cast,↓zK,↓zJ,↓reduceIte,zA,zB,zC,zD,zE,zF,zG,zH,zI,reduceCtorEq]
 exact(JX hw hlas).symm
structure Fr where
 num:Int
 den:Int
 deriving DecidableEq
def dFr (x:Fr):List D:= [.int .i64 x.num, .int .i64 x.den]
theorem zGn (n:Int){d:Int}(h:1≤d):1≤Int.gcd n d:=by
 have :Int.gcd n d≠0:=fun h0=>by rw [Int.gcd_eq_zero_iff]at h0;omega
 omega
def Uz (n d:Int):Fr:=⟨n.tdiv (Int.gcd n d),d.tdiv (Int.gcd n d)⟩
def vz (w:Wt):Bool:=yP w&&decide (w.cost.length≤8)
theorem zAK {w:Wt}(h:vz w=true):yP w=true:=by unfold vz at h;rw [Bool.and_eq_true]at h;exact h.1
namespace MV
open Go.RowKit
set_option linter.unusedVariables false
set_option linter.unusedSimpArgs false
def optB (mx:Bool)(f:Nat→Int):Nat→Int
 |0=>0
 |1=>f 0
 |k+2=>if(mx=true∧f (k+1)>optB mx f (k+1))∨(mx=false∧f (k+1)<optB mx f (k+1))then f (k+1)else optB mx f (k+1)
theorem jg (mx:Bool)(f:Nat→Int)(k:Nat):optB mx f (k+2)=if(mx=true∧f (k+1)>optB mx f (k+1))∨(mx=false∧f (k+1)<optB mx f (k+1))then f (k+1)else optB mx f (k+1):=rfl
theorem optB_ex (mx:Bool)(f:Nat→Int): ∀k,1≤k→∃j,j<k∧optB mx f k=f j
 |1,_=>⟨0,by omega,rfl⟩
 |k+2,_=>by
  obtain⟨j,hj,he⟩:=optB_ex mx f (k+1) (by omega)
  rw [jg]
  split
  ·exact⟨k+1,by omega,rfl⟩
  ·exact⟨j,by omega,he⟩
theorem XE (f:Nat→Int): ∀k j,j<k→f j≤optB true f k
 |0,j,h=>by omega
 |1,j,h=>by
         have :j=0:=by omega
         subst this;exact Int.le_refl _
 |k+2,j,h=>by
  rw [jg]
  have ih:=XE f (k+1)
  simp only [true_and,Bool.true_eq_false,false_and,or_false]
  by_cases hj:j=k+1
  ·subst hj;split<;>omega
  ·have :=ih j (by omega);split<;>omega
theorem KU (mx:Bool)(f:Nat→Int): ∀k,optB (!mx) (fun j=> -f j) k= -optB mx f k
 |0=>rfl
 |1=>rfl
 |k+2=>by
  rw [jg,jg,KU mx f (k+1)]
  cases mx<;>simp only [Bool.not_true,Bool.not_false,true_and,Bool.true_eq_false,Bool.false_eq_true,false_and,or_false,false_or]<;>split<;>split<;>omega
theorem zBF (f:Nat→Int)(k j:Nat)(h:j<k):optB false f k≤f j:=by
 have h1:=XE (fun j=> -f j) k j h
 have h2:=KU false f k
 simp only [Bool.not_false]at h2
 rw [h2]at h1
 omega
structure Gm where
 mx:Nat→Bool
 deg:Nat→Nat
 to:Nat→Nat→Nat
 c:Nat→Nat→Int
def Gm.dual (g:Gm):Gm:=⟨fun v=> !g.mx v,g.deg,g.to,fun v j=> -g.c v j⟩
structure Gm.Ok (g:Gm)(n:Nat)(W:Int):Prop where
 deg: ∀v,v<n→1≤g.deg v
 to: ∀v,v<n→∀j,j<g.deg v→g.to v j<n
 lo: ∀v,v<n→∀j,j<g.deg v→ -W≤g.c v j
 hi: ∀v,v<n→∀j,j<g.deg v→g.c v j≤W
theorem Gm.Ok.dual {g:Gm}{n:Nat}{W:Int}(h:g.Ok n W):g.dual.Ok n W:=
 ⟨h.deg,h.to,fun v hv j hj=>by have :=h.hi v hv j hj;show -W≤ -g.c v j;omega,fun v hv j hj=>by have :=h.lo v hv j hj;show -g.c v j≤W;omega⟩
def Gm.pay (g:Gm):Nat→Nat→Int
 |0,_=>0
 |k+1,v=>optB (g.mx v) (fun j=>g.c v j+g.pay k (g.to v j)) (g.deg v)
theorem Gm.pay_dual (g:Gm): ∀k v,g.dual.pay k v= -g.pay k v
 |0,v=>rfl
 |k+1,v=>by
  show optB (!g.mx v) (fun j=> -g.c v j+g.dual.pay k (g.to v j)) (g.deg v)= -optB (g.mx v) (fun j=>g.c v j+g.pay k (g.to v j)) (g.deg v)
  rw [←KU]
  congr 1
  funext j
  rw [g.pay_dual k]
  omega
def Zm (x y:Int×Int):Prop:=x.1*y.2<y.1*x.2
instance (x y:Int×Int):Decidable (Zm x y):=by unfold Zm;exact inferInstance
def vc (mx:Bool)(f:Nat→Int×Int):Nat→Int×Int
 |0=>(0,1)
 |1=>f 0
 |k+2=>if(mx=true∧Zm (vc mx f (k+1)) (f (k+1)))∨(mx=false∧Zm (f (k+1)) (vc mx f (k+1)))then f (k+1)else vc mx f (k+1)
theorem WH (mx:Bool)(f:Nat→Int×Int)(k:Nat):vc mx f (k+2)=if(mx=true∧Zm (vc mx f (k+1)) (f (k+1)))∨(mx=false∧Zm (f (k+1)) (vc mx f (k+1)))then f (k+1)else vc mx f (k+1):=rfl
theorem Yv (mx:Bool)(f:Nat→Int×Int): ∀k,1≤k→∃j,j<k∧vc mx f k=f j
 |1,_=>⟨0,by omega,rfl⟩
 |k+2,_=>by
  obtain⟨j,hj,he⟩:=Yv mx f (k+1) (by omega)
  rw [WH]
  split
  ·exact⟨k+1,by omega,rfl⟩
  ·exact⟨j,by omega,he⟩
def neg (x:Int×Int):Int×Int:=(-x.1,x.2)
theorem zGu (x y:Int×Int):Zm (neg x) (neg y)↔Zm y x:=by
 unfold Zm neg
 simp only [Int.neg_mul]
 omega
theorem Uk (mx:Bool)(f:Nat→Int×Int): ∀k,vc (!mx) (fun j=>neg (f j)) k=neg (vc mx f k)
 |0=>rfl
 |1=>rfl
 |k+2=>by
  rw [WH,WH,Uk mx f (k+1)]
  simp only [zGu]
  cases mx<;>simp only [Bool.not_true,Bool.not_false,true_and,Bool.true_eq_false,Bool.false_eq_true,false_and,or_false,false_or]<;>split<;>rfl
def atL (m x:Int×Int):Prop:=m.1*x.2≤x.1*m.2
theorem ZV {m x y:Int×Int}(hx:0<x.2)(hy:0<y.2)(hm:0<m.2)(h: ¬Zm x y)(ha:atL m y):atL m x:=by
 unfold Zm at h
 unfold atL at*
 have h1:y.1*x.2≤x.1*y.2:=by omega
 -- m1*y2≤y1*m2 ;times x2 ;y1*x2≤x1*y2 ;times m2
 have h2:m.1*y.2*x.2≤y.1*m.2*x.2:=Int.mul_le_mul_of_nonneg_right ha (by omega)
 have h3:y.1*x.2*m.2≤x.1*y.2*m.2:=Int.mul_le_mul_of_nonneg_right h1 (by omega)
 have e1:y.1*m.2*x.2=y.1*x.2*m.2:=by rw [Int.mul_assoc,Int.mul_comm m.2,←Int.mul_assoc]
 have e2:m.1*y.2*x.2=(m.1*x.2)*y.2:=by rw [Int.mul_assoc,Int.mul_comm y.2,←Int.mul_assoc]
 have e3:x.1*y.2*m.2=(x.1*m.2)*y.2:=by rw [Int.mul_assoc,Int.mul_comm y.2,←Int.mul_assoc]
 rw [e1]at h2
 rw [e2]at h2
 rw [e3]at h3
 exact Int.le_of_mul_le_mul_right (Int.le_trans h2 h3) hy
theorem JV {m x y:Int×Int}(hx:0<x.2)(hy:0<y.2)(hm:0<m.2)(h:Zm x y)(ha:atL m x):atL m y:=
 ZV hy hx hm (by unfold Zm at*;omega) ha
theorem Vn {m:Int×Int}{f:Nat→Int×Int}(hm:0<m.2): ∀k,(∀j,j<k→0<(f j).2)→∀j,j<k→atL m (f j)→atL m (vc true f k)
 |0,_,j,h,_=>by omega
 |1,_,j,h,ha=>by
  have :j=0:=by omega
  subst this;exact ha
 |k+2,hp,j,h,ha=>by
  have ih:=Vn hm (k+1) (fun j hj=>hp j (by omega))
  obtain⟨i,hi,he⟩:=Yv true f (k+1) (by omega)
  rw [WH]
  simp only [true_and,Bool.true_eq_false,false_and,or_false]
  have hpo:0<(vc true f (k+1)).2:=by rw [he];exact hp i (by omega)
  by_cases hj:j=k+1
  ·subst hj
   split
   ·exact ha
   ·rename_i hn
    exact ZV hpo (hp _ (by omega)) hm hn ha
  ·have h1:=ih j (by omega) ha
   split
   ·rename_i hl
    exact JV hpo (hp _ (by omega)) hm hl h1
   ·exact h1
theorem Vq {m:Int×Int}{f:Nat→Int×Int}(hm:0<m.2): ∀k,(∀j,j<k→0<(f j).2)→atL m (vc false f k)→∀j,j<k→atL m (f j)
 |0,_,_,j,h=>by omega
 |1,_,ha,j,h=>by
  have :j=0:=by omega
  subst this;exact ha
 |k+2,hp,ha,j,h=>by
  have ih:=Vq hm (k+1) (fun j hj=>hp j (by omega))
  obtain⟨i,hi,he⟩:=Yv false f (k+1) (by omega)
  rw [WH]at ha
  simp only [true_and,Bool.false_eq_true,false_and,false_or]at ha
  have hpo:0<(vc false f (k+1)).2:=by rw [he];exact hp i (by omega)
  split at ha
  ·rename_i hl
   have hb:atL m (vc false f (k+1)):=JV (hp _ (by omega)) hpo hm hl ha
   by_cases hj:j=k+1
   ·subst hj;exact ha
   ·exact ih hb j (by omega)
  ·rename_i hn
   by_cases hj:j=k+1
   ·subst hj
    exact ZV (hp _ (by omega)) hpo hm hn ha
   ·exact ih ha j (by omega)
def vC (v:Nat):List (Nat×Int)→Nat→Option (Nat×Int)
 | [],_=>none
 |(u,s)::S,i=>if u=v then some (i,s)else vC v S (i+1)
def Gm.first (g:Gm):Nat→List (Nat×Int)→Nat→Int→Int×Int
 |0,_,_,_=>(0,1)
 |f+1,S,v,s=>
  match vC v S 0 with
  |some (i,s0)=>(s - s0,(i:Int)+1)
  |none=>vc (g.mx v) (fun j=>g.first f ((v,s)::S) (g.to v j) (s+g.c v j)) (g.deg v)
def zA2 (S:List (Nat×Int)):List (Nat×Int):=S.map fun x=>(x.1,-x.2)
theorem ui (v:Nat): ∀(S:List (Nat×Int)) (i:Nat),vC v (zA2 S) i=(vC v S i).map fun x=>(x.1,-x.2)
 | [],i=>rfl
 |(u,s)::S,i=>by
  show(if u=v then some (i,-s)else vC v (zA2 S) (i+1))=((if u=v then some (i,s)else vC v S (i+1)).map fun x=>(x.1,-x.2))
  rw [ui v S (i+1)]
  split<;>rfl
theorem Gm.first_dual (g:Gm): ∀f S v s,g.dual.first f (zA2 S) v (-s)=neg (g.first f S v s)
 |0,S,v,s=>rfl
 |f+1,S,v,s=>by
  unfold Gm.first
  rw [ui]
  cases hf:vC v S 0 with
  |some x=>
   obtain⟨i,s0⟩:=x
   show(-s - -s0,(i:Int)+1)=neg (s - s0,(i:Int)+1)
   unfold neg
   simp only
   congr 1
   omega
  |none=>
   show vc (!g.mx v) (fun j=>g.dual.first f ((v,-s)::zA2 S) (g.to v j) (-s+ -g.c v j)) (g.deg v)=neg (vc (g.mx v) _ (g.deg v))
   rw [←Uk]
   congr 1
   funext j
   rw [←g.first_dual f ((v,s)::S) (g.to v j) (s+g.c v j)]
   show _=g.dual.first f ((v,-s)::zA2 S) (g.to v j) (-(s+g.c v j))
   congr 1
   omega
theorem Zg {v:Nat}: ∀{S:List (Nat×Int)} {i k:Nat} {s0:Int},vC v S i=some (k,s0)→∃j,k=i+j∧S[j]? =some (v,s0)
 | [],i,k,s0,h=>by simp [vC]at h
 |(u,s)::S,i,k,s0,h=>by
  simp only [vC]at h
  split at h
  ·rename_i e;subst e;cases h;exact⟨0,rfl,rfl⟩
  ·obtain⟨j,h1,h2⟩:=Zg h
   exact⟨j+1,by omega,by simpa using h2⟩
theorem Yr {v:Nat}: ∀{S:List (Nat×Int)} {i:Nat},vC v S i=none→v∉S.map (·.1)
 | [],i,h=>by simp
 |(u,s)::S,i,h=>by
  simp only [vC]at h
  split at h
  ·cases h
  ·rename_i e
   simp only [List.map_cons,List.mem_cons,not_or]
   exact⟨fun h=>e h.symm,Yr h⟩
inductive Way (n:Nat)(W:Int):List (Nat×Int)→Nat→Int→Prop
 |nil {v:Nat}:v<n→Way n W [] v 0
 |cons {S:List (Nat×Int)} {u:Nat} {r:Int} {v:Nat} {s:Int}:Way n W S u r→u∉S.map (·.1)→v<n→s≤r+W→r - W≤s→Way n W ((u,r)::S) v s
theorem Way.lt {n:Nat}{W:Int}{S:List (Nat×Int)}{v:Nat}{s:Int}(h:Way n W S v s):v<n:=by cases h<;>assumption
theorem Way.mem {n:Nat}{W:Int}{S:List (Nat×Int)}{v:Nat}{s:Int}(h:Way n W S v s):(S.map (·.1)).Nodup∧∀x∈S.map (·.1),x<n:=by
 induction h with
 |nil _=>simp
 |cons h1 h2 h3 h4 h5 ih=>
  simp only [List.map_cons,List.nodup_cons]
  refine⟨⟨h2,ih.1⟩,fun x hx=> ?_⟩
  rcases List.mem_cons.1 hx with rfl|hx
  ·exact h1.lt
  ·exact ih.2 x hx
theorem nodup_len : ∀(n:Nat) (l:List Nat),l.Nodup→(∀x∈l,x<n)→l.length≤n
 |0,l,_,h=>by
  cases l with
  |nil=>simp
  |cons x l=>have :=h x (by simp);omega
 |n+1,l,hd,h=>by
  have h1:(l.filter (fun x=>x≠n)).length≤n:=nodup_len n _ (hd.filter _) fun x hx=>by
   have :=List.mem_filter.1 hx
   have h2:=h x this.1
   have h3:x≠n:=by simpa using this.2
   omega
  have h2:l.length≤(l.filter (fun x=>x≠n)).length+1:=by
   clear h1 h
   induction l with
   |nil=>simp
   |cons x l ih=>
    rw [List.nodup_cons]at hd
    by_cases hx:x=n
    ·subst hx
     have :l.filter (fun y=>y≠x)=l:=List.filter_eq_self.2 fun y hy=>by
      have :y≠x:=fun e=>hd.1 (e ▸ hy)
      simpa using this
     rw [List.filter_cons_of_neg (by simp),this]
     simp
    ·rw [List.filter_cons_of_pos (by simpa using hx)]
     have :=ih hd.2
     simp only [List.length_cons]
     omega
  omega
theorem Way.len {n:Nat}{W:Int}{S:List (Nat×Int)}{v:Nat}{s:Int}(h:Way n W S v s):S.length≤n:=by
 have :=nodup_len n _ h.mem.1 h.mem.2
 simpa using this
theorem Way.len' {n:Nat}{W:Int}{S:List (Nat×Int)}{v:Nat}{s:Int}(h:Way n W S v s)(hv:v∉S.map (·.1)):S.length+1≤n:=by
 have :=nodup_len n (v::S.map (·.1)) (by rw [List.nodup_cons];exact⟨hv,h.mem.1⟩) fun x hx=>by
  rcases List.mem_cons.1 hx with rfl|hx
  ·exact h.lt
  ·exact h.mem.2 x hx
 simpa using this
theorem Way.sum {n:Nat}{W:Int}{S:List (Nat×Int)}{v:Nat}{s:Int}(h:Way n W S v s): -(S.length*W)≤s∧s≤S.length*W:=by
 induction h with
 |nil _=>simp
 |cons h1 h2 h3 h4 h5 ih=>
  simp only [List.length_cons,Int.natCast_add,Int.add_mul,Int.natCast_one,Int.one_mul]
  omega
theorem Way.back {n:Nat}{W:Int}{S:List (Nat×Int)}{v:Nat}{s:Int}(h:Way n W S v s): ∀{j:Nat} {u:Nat} {r:Int},S[j]? =some (u,r)→Way n W (S.drop (j+1)) u r∧u∉(S.drop (j+1)).map (·.1)∧s - r≤(j+1)*W∧ -((j+1)*W)≤s - r:=by
 induction h with
 |nil _=>intro j u r h;simp at h
 | @cons S u r v s h1 h2 h3 h4 h5 ih=>
  intro j u' r' h
  cases j with
  |zero=>
   simp at h
   obtain⟨rfl,rfl⟩:=h
   simp only [List.drop_succ_cons,List.drop_zero]
   exact⟨h1,h2,by omega,by omega⟩
  |succ j=>
   simp at h
   obtain⟨k1,k2,k3,k4⟩:=ih h
   refine⟨by simpa using k1,by simpa using k2,?_,?_⟩<;>
   ·simp only [Int.natCast_add,Int.add_mul,Int.natCast_one,Int.one_mul]at*
    omega
theorem Gm.first_ok {g:Gm}{n:Nat}{W:Int}(hg:g.Ok n W): ∀f S v s,Way n W S v s→n+1≤f+S.length→1≤f→1≤(g.first f S v s).2∧(g.first f S v s).2≤n∧(g.first f S v s).1≤(g.first f S v s).2*W∧ -((g.first f S v s).2*W)≤(g.first f S v s).1
 |0,S,v,s,hw,h,h1=>by omega
 |f+1,S,v,s,hw,h,h1=>by
  unfold Gm.first
  cases hf:vC v S 0 with
  |some x=>
   obtain⟨i,s0⟩:=x
   obtain⟨j,hj,hS⟩:=Zg hf
   obtain⟨-,-,k3,k4⟩:=hw.back hS
   have hlt:j<S.length:=(List.getElem?_eq_some_iff.1 hS).1
   have :=hw.len
   have hij:i=j:=by omega
   subst hij
   exact⟨by simp only;omega,by simp only;omega,k3,k4⟩
  |none=>
   have hv:=Yr hf
   have hl:=hw.len' hv
   obtain⟨j,hj,he⟩:=Yv (g.mx v) (fun j=>g.first f ((v,s)::S) (g.to v j) (s+g.c v j)) (g.deg v) (hg.deg v hw.lt)
   simp only
   rw [he]
   have h2:=hg.lo v hw.lt j hj
   have h3:=hg.hi v hw.lt j hj
   exact g.first_ok hg f ((v,s)::S) (g.to v j) (s+g.c v j) (.cons hw hv (hg.to v hw.lt j hj) (by omega) (by omega)) (by simp only [List.length_cons];omega) (by omega)
inductive XB (g:Gm)(n:Nat)(m:Int×Int):List (Nat×Int)→Nat→Int→Prop
 |nil {v:Nat}:atL m (g.first (n+1) [] v 0)→XB g n m [] v 0
 |cons {S:List (Nat×Int)} {u:Nat} {r:Int} {v:Nat} {s:Int}:XB g n m S u r→atL m (g.first (n+1 - (S.length+1)) ((u,r)::S) v s)→XB g n m ((u,r)::S) v s
theorem XB.here {g:Gm}{n:Nat}{m:Int×Int}{S:List (Nat×Int)}{v:Nat}{s:Int}(h:XB g n m S v s):atL m (g.first (n+1 - S.length) S v s):=by
 cases h with
 |nil h=>exact h
 |cons h1 h2=>exact h2
theorem XB.back {g:Gm}{n:Nat}{m:Int×Int}{S:List (Nat×Int)}{v:Nat}{s:Int}(h:XB g n m S v s): ∀{j:Nat} {u:Nat} {r:Int},S[j]? =some (u,r)→XB g n m (S.drop (j+1)) u r:=by
 induction h with
 |nil _=>intro j u r h;simp at h
 |cons h1 h2 ih=>
  intro j u' r' h
  cases j with
  |zero=>
   simp at h
   obtain⟨rfl,rfl⟩:=h
   simpa using h1
  |succ j=>
   simp at h
   simpa using ih h
theorem Gm.step_good {g:Gm}{n:Nat}{W:Int}{m:Int×Int}(hg:g.Ok n W)(hm:0<m.2){S:List (Nat×Int)}{v:Nat}{s:Int}(hw:Way n W S v s)(hv:v∉S.map (·.1))(hgd:XB g n m S v s)(k:Nat):
  ∃j,j<g.deg v∧g.c v j+g.pay k (g.to v j)≤g.pay (k+1) v∧atL m (g.first (n+1 - (S.length+1)) ((v,s)::S) (g.to v j) (s+g.c v j)):=by
 have hl:=hw.len' hv
 have h0:=hgd.here
 have hf:n+1 - S.length=(n+1 - (S.length+1))+1:=by omega
 rw [hf]at h0
 unfold Gm.first at h0
 have hn:vC v S 0=none:=by
  cases h:vC v S 0 with
  |none=>rfl
  |some x=>
   obtain⟨i,s0⟩:=x
   obtain⟨j,-,hS⟩:=Zg h
   exact absurd (List.mem_map.2 ⟨_,List.mem_of_getElem? hS,rfl⟩) hv
 rw [hn]at h0
 simp only at h0
 have hpos: ∀j,j<g.deg v→0<(g.first (n+1 - (S.length+1)) ((v,s)::S) (g.to v j) (s+g.c v j)).2:=fun j hj=>by
  have h2:=hg.lo v hw.lt j hj
  have h3:=hg.hi v hw.lt j hj
  have :=(g.first_ok hg (n+1 - (S.length+1)) ((v,s)::S) (g.to v j) (s+g.c v j) (.cons hw hv (hg.to v hw.lt j hj) (by omega) (by omega)) (by simp only [List.length_cons];omega) (by omega)).1
  omega
 cases hmx:g.mx v with
 |true=>
  rw [hmx]at h0
  obtain⟨j,hj,he⟩:=Yv true (fun j=>g.first (n+1 - (S.length+1)) ((v,s)::S) (g.to v j) (s+g.c v j)) (g.deg v) (hg.deg v hw.lt)
  rw [he]at h0
  refine⟨j,hj,?_,h0⟩
  show _≤optB (g.mx v) (fun j=>g.c v j+g.pay k (g.to v j)) (g.deg v)
  rw [hmx]
  exact XE (fun j=>g.c v j+g.pay k (g.to v j)) (g.deg v) j hj
 |false=>
  rw [hmx]at h0
  obtain⟨j,hj,he⟩:=optB_ex false (fun j=>g.c v j+g.pay k (g.to v j)) (g.deg v) (hg.deg v hw.lt)
  refine⟨j,hj,?_,Vq hm _ hpos h0 j hj⟩
  show _≤optB (g.mx v) (fun j=>g.c v j+g.pay k (g.to v j)) (g.deg v)
  rw [hmx,he]
  exact Int.le_refl _
theorem Gm.pay_ge {g:Gm}{n:Nat}{W:Int}{m:Int×Int}(hg:g.Ok n W)(hW:0≤W)(hm:0<m.2)(hm1:m.1≤m.2*W)(hm2: -(m.2*W)≤m.1): ∀k S v s,Way n W S v s→v∉S.map (·.1)→XB g n m S v s→
  k*m.1 - (m.2*s - S.length*m.1) - 2*(((n:Int) - 1)*(m.2*W))≤m.2*g.pay k v
 |0,S,v,s,hw,hv,hgd=>by
  have hl:=hw.len' hv
  have h1:=hw.sum
  show(0:Nat)*m.1 - (m.2*s - S.length*m.1) - 2*(((n:Int) - 1)*(m.2*W))≤m.2*0
  have h2:m.2* -(S.length*W)≤m.2*s:=Int.mul_le_mul_of_nonneg_left h1.1 (by omega)
  have h3:(S.length:Int)*m.1≤S.length*(m.2*W):=Int.mul_le_mul_of_nonneg_left hm1 (by omega)
  have hmw:0≤m.2*W:=Int.mul_nonneg (by omega) hW
  have h4:(S.length:Int)*(m.2*W)≤((n:Int) - 1)*(m.2*W):=Int.mul_le_mul_of_nonneg_right (by omega) hmw
  have h5:m.2* -(S.length*W)= -((S.length:Int)*(m.2*W)):=by
   rw [Int.mul_neg,←Int.mul_assoc,Int.mul_comm m.2,Int.mul_assoc]
  rw [h5]at h2
  simp only [Int.natCast_zero,Int.zero_mul,Int.mul_zero]
  omega
 |k+1,S,v,s,hw,hv,hgd=>by
  have hl:=hw.len' hv
  obtain⟨j,hj,hp,ha⟩:=g.step_good hg hm hw hv hgd k
  have h2:=hg.lo v hw.lt j hj
  have h3:=hg.hi v hw.lt j hj
  have hw':Way n W ((v,s)::S) (g.to v j) (s+g.c v j):= .cons hw hv (hg.to v hw.lt j hj) (by omega) (by omega)
  have hp2:m.2*(g.c v j+g.pay k (g.to v j))≤m.2*g.pay (k+1) v:=Int.mul_le_mul_of_nonneg_left hp (by omega)
  rw [Int.mul_add]at hp2
  cases hf:vC (g.to v j) ((v,s)::S) 0 with
  |none=>
   have ih:=g.pay_ge hg hW hm hm1 hm2 k _ _ _ hw' (Yr hf) (.cons hgd ha)
   rw [List.length_cons,Int.mul_add]at ih
   simp only [Int.natCast_add,Int.natCast_one,Int.add_mul,Int.one_mul]at ih⊢
   omega
  |some x=>
   obtain⟨i,s0⟩:=x
   obtain⟨i',hi',hS⟩:=Zg hf
   have :i=i':=by omega
   subst this
   obtain⟨k1,k2,-,-⟩:=hw'.back hS
   have k3:=XB.back (.cons hgd ha) hS
   have ih:=g.pay_ge hg hW hm hm1 hm2 k _ _ _ k1 k2 k3
   have hlt:i<S.length+1:=by have :=(List.getElem?_eq_some_iff.1 hS).1;simpa using this
   have hF:n+1 - (S.length+1)=(n - (S.length+1))+1:=by omega
   rw [hF]at ha
   unfold Gm.first at ha
   rw [hf]at ha
   simp only at ha
   unfold atL at ha
   simp only at ha
   have hd:(((v,s)::S).drop (i+1)).length=S.length+1 - (i+1):=by rw [List.length_drop];simp
   rw [hd]at ih
   have hc:((S.length+1 - (i+1):Nat):Int)=(S.length:Int) - i:=by omega
   rw [hc]at ih
   have e1:m.1*((i:Int)+1)=i*m.1+m.1:=by rw [Int.mul_add,Int.mul_one,Int.mul_comm]
   have e2:(s+g.c v j - s0)*m.2=m.2*s+m.2*g.c v j - m.2*s0:=by rw [Int.mul_comm,Int.mul_sub,Int.mul_add]
   rw [e1,e2]at ha
   simp only [Int.natCast_add,Int.natCast_one,Int.add_mul,Int.sub_mul,Int.one_mul]at ih⊢
   omega
def Gm.val (g:Gm)(n:Nat)(v:Nat):Int×Int:=g.first (n+1) [] v 0
theorem Gm.val_ok {g:Gm}{n:Nat}{W:Int}(hg:g.Ok n W){v:Nat}(hv:v<n):1≤(g.val n v).2∧(g.val n v).2≤n∧(g.val n v).1≤(g.val n v).2*W∧ -((g.val n v).2*W)≤(g.val n v).1:=
 g.first_ok hg (n+1) [] v 0 (.nil hv) (by simp) (by omega)
theorem Gm.val_ge {g:Gm}{n:Nat}{W:Int}(hg:g.Ok n W)(hW:0≤W){v:Nat}(hv:v<n)(k:Nat):k*(g.val n v).1 - 2*(((n:Int) - 1)*((g.val n v).2*W))≤(g.val n v).2*g.pay k v:=by
 have h:=g.val_ok hg hv
 have :=g.pay_ge hg hW (m:=g.val n v) (by omega) h.2.2.1 h.2.2.2 k [] v 0 (.nil hv) (by simp) (.nil (Int.le_refl _))
 simpa using this
theorem Gm.val_dual (g:Gm)(n v:Nat):g.dual.val n v=neg (g.val n v):=g.first_dual (n+1) [] v 0
theorem Gm.val_le {g:Gm}{n:Nat}{W:Int}(hg:g.Ok n W)(hW:0≤W){v:Nat}(hv:v<n)(k:Nat):(g.val n v).2*g.pay k v≤k*(g.val n v).1+2*(((n:Int) - 1)*((g.val n v).2*W)):=by
 have h:=Gm.val_ge hg.dual hW hv k
 rw [g.val_dual,g.pay_dual]at h
 unfold neg at h
 simp only [Int.mul_neg]at h
 omega
theorem small {n W q:Int}(hn:1≤n)(hW:1≤W)(hq:1≤q)(hqn:q≤n):0≤(n - 1)*(q*W)∧(n - 1)*(q*W)≤n*n*n*W - W∧2*((n - 1)*W)*(n*n)=2*(n*n*n*W) - 2*(n*n*W)∧W≤n*n*W∧(2*n*W)*(n*n)=2*(n*n*n*W)∧n*n*W≤n*n*n*W:=by
 have h0:0≤(n - 1)*(q*W):=Int.mul_nonneg (by omega) (Int.mul_nonneg (by omega) (by omega))
 have h1:q*W≤n*W:=Int.mul_le_mul_of_nonneg_right hqn (by omega)
 have h2:(n - 1)*(q*W)≤(n - 1)*(n*W):=Int.mul_le_mul_of_nonneg_left h1 (by omega)
 have e1:(n - 1)*(n*W)=n*n*W - n*W:=by rw [Int.sub_mul,Int.one_mul];congr 1;ac_rfl
 have h3:1*W≤n*W:=Int.mul_le_mul_of_nonneg_right hn (by omega)
 have h4:1*(n*W)≤n*(n*W):=Int.mul_le_mul_of_nonneg_right hn (by omega)
 have e4:n*(n*W)=n*n*W:=by ac_rfl
 have h5:1*(n*n*W)≤n*(n*n*W):=Int.mul_le_mul_of_nonneg_right hn (Int.mul_nonneg (Int.mul_nonneg (by omega) (by omega)) (by omega))
 have e5:n*(n*n*W)=n*n*n*W:=by ac_rfl
 have e2:2*((n - 1)*W)*(n*n)=2*(n*n*n*W) - 2*(n*n*W):=by
  rw [Int.sub_mul,Int.one_mul,Int.mul_sub,Int.sub_mul];congr 1<;>ac_rfl
 have e3:(2*n*W)*(n*n)=2*(n*n*n*W):=by ac_rfl
 omega
end MV
def toE (w:Wt)(v j:Nat):Nat:=(gi (gl w.a.next v) j).toNat
def coE (w:Wt)(v j:Nat):Int:=gi (gl w.cost v) j
def Ed (w:Wt)(b:Int)(d:List Int)(v j:Nat)(x:Int):Prop:=gi d (toE w v j)≤b∧gi d (toE w v j) - coE w v j≤x
theorem Qy {w:Wt}{b:Int}{d:List Int}{v j:Nat}{x:Int}(h0:0≤x)(hx:x≤b):va w b d v j≤x↔Ed w b d v j x:=by
 unfold va Ed toE coE
 split
 ·constructor<;>intro h<;>omega
 ·split<;>constructor<;>intro h<;>omega
theorem zIT {b x y:Int}(hx:x≤b):Zl b y≤x↔y≤x:=by
 unfold Zl
 split<;>constructor<;>intro h<;>omega
theorem uN {f:Nat→Int}(hf: ∀j,0≤f j){x:Int}: ∀k,1≤k→(xL 0 f k≤x↔∃j,j<k∧f j≤x)
 |1,_=>by
  rw [QZ]
  exact⟨fun h=>⟨0,by omega,h⟩,fun⟨j,hj,h⟩=>by rw [show j=0 by omega]at h;exact h⟩
 |k+2,_=>by
  have ih:=uN (f:=f) hf (x:=x) (k+1) (by omega)
  have h0:=wz (o:=0) hf (k+1) (by omega)
  have h1:(∃j,j<k+2∧f j≤x)↔(∃j,j<k+1∧f j≤x)∨f (k+1)≤x:=by
   constructor
   ·rintro⟨j,hj,h⟩
    rcases Nat.lt_or_ge j (k+1)with h2|h2
    ·exact .inl ⟨j,h2,h⟩
    ·right;rw [show k+1=j by omega];exact h
   ·rintro(⟨j,hj,h⟩|h)
    ·exact⟨j,by omega,h⟩
    ·exact⟨k+1,by omega,h⟩
  rw [h1,←ih,vu 0 f (k+1)]
  split<;>constructor<;>intro h<;>omega
theorem un {f:Nat→Int}(hf: ∀j,0≤f j){x:Int}: ∀k,1≤k→(xL 1 f k≤x↔∀j,j<k→f j≤x)
 |1,_=>by
  rw [QZ]
  exact⟨fun h j hj=>by rw [show j=0 by omega];exact h,fun h=>h 0 (by omega)⟩
 |k+2,_=>by
  have ih:=un (f:=f) hf (x:=x) (k+1) (by omega)
  have h0:=wz (o:=1) hf (k+1) (by omega)
  have h1:(∀j,j<k+2→f j≤x)↔(∀j,j<k+1→f j≤x)∧f (k+1)≤x:=by
   constructor
   ·exact fun h=>⟨fun j hj=>h j (by omega),h _ (by omega)⟩
   ·rintro⟨h,h2⟩ j hj
    rcases Nat.lt_or_ge j (k+1)with h3|h3
    ·exact h j h3
    ·rw [show j=k+1 by omega];exact h2
  rw [h1,←ih,vu 1 f (k+1)]
  split<;>constructor<;>intro h<;>omega
theorem wO {w:Wt}(hw:WSh w){b:Int}(hb:0≤b){d:List Int}{v:Nat}(hv:v<w.a.owner.length){x:Int}(h0:0≤x)(hx:x≤b):
  xV w b d v≤x↔(gi w.a.owner v=0→∃j,j<(gl w.a.next v).length∧Ed w b d v j x)∧(gi w.a.owner v=1→∀j,j<(gl w.a.next v).length→Ed w b d v j x):=by
 have hr:=(hw.row v hv).2.1
 unfold xV
 rw [zIT hx]
 rcases hw.own v hv with e|e<;>rw [e]
 ·rw [uN (fun j=>wD hb) _ hr]
  constructor
  ·rintro⟨j,hj,h⟩
   exact⟨fun _=>⟨j,hj,(Qy h0 hx).1 h⟩,fun h'=>absurd h' (by decide)⟩
  ·rintro⟨h,-⟩
   obtain⟨j,hj,h⟩:=h rfl
   exact⟨j,hj,(Qy h0 hx).2 h⟩
 ·rw [un (fun j=>wD hb) _ hr]
  constructor
  ·exact fun h=>⟨fun h'=>absurd h' (by decide),fun _ j hj=>(Qy h0 hx).1 (h j hj)⟩
  ·exact fun h j hj=>(Qy h0 hx).2 (h.2 rfl j hj)
theorem jb : ∀{r:List Int} {m:Int},m≤yY m r∧∀x∈r,-x≤yY m r
 | [],m=>⟨Int.le_refl _,fun x hx=>by simp at hx⟩
 |c::r,m=>by
  have ih:=jb (r:=r) (m:=if -c>m then -c else m)
  unfold yY
  refine⟨?_,fun x hx=> ?_⟩
  ·have :=ih.1;split at this<;>rename_i e<;>simp only [e,if_true,if_false]<;>omega
  ·rcases List.mem_cons.1 hx with rfl|hx
   ·have :=ih.1;split at this<;>rename_i e<;>simp only [e,if_true,if_false]<;>omega
   ·exact ih.2 x hx
theorem Va : ∀{rs:List (List Int)} {m:Int},m≤yl m rs∧∀r∈rs,∀x∈r,-x≤yl m rs
 | [],m=>⟨Int.le_refl _,fun x hx=>by simp at hx⟩
 |r::rs,m=>by
  have ih:=Va (rs:=rs) (m:=yY m r)
  have h1:=jb (r:=r) (m:=m)
  unfold yl
  refine⟨Int.le_trans h1.1 ih.1,fun s hs x hx=> ?_⟩
  rcases List.mem_cons.1 hs with rfl|hs
  ·exact Int.le_trans (h1.2 x hx) ih.1
  ·exact ih.2 s hs x hx
theorem zJW {w:Wt}(hw:WSh w){v j:Nat}(hv:v<w.a.owner.length)(hj:j<(gl w.a.next v).length): -coE w v j≤yl 0 w.cost:=by
 have h1:=(hw.row v hv).1
 refine(Va (rs:=w.cost) (m:=0)).2 (gl w.cost v) ?_ (coE w v j) ?_
 ·unfold gl
  rw [List.getD_eq_getElem?_getD,List.getElem?_eq_getElem (by rw [hw.cl];exact hv)]
  exact List.getElem_mem _
 ·unfold coE gi
  rw [List.getD_eq_getElem?_getD,List.getElem?_eq_getElem (by rw [h1];exact hj)]
  exact List.getElem_mem _
def Ju (n:Nat)(f:Nat→Int):List Int:=(List.range n).map f
theorem KD (n:Nat)(f:Nat→Int):(Ju n f).length=n:=by simp [Ju]
theorem kP {n:Nat}{f:Nat→Int}{v:Nat}(h:v<n):gi (Ju n f) v=f v:=by
 unfold gi Ju
 rw [List.getD_eq_getElem?_getD,List.getElem?_map,List.getElem?_range h]
 rfl
theorem Kg {f:Nat→Nat}: ∀n,(∀i j,i<j→j<n→f i≠f j)→((List.range n).map f).Nodup
 |0,_=>by simp
 |n+1,h=>by
  rw [List.range_succ,List.map_append]
  refine List.nodup_append.2 ⟨Kg n fun i j h1 h2=>h i j h1 (by omega),by simp,fun a ha b hb=> ?_⟩
  obtain⟨i,hi,rfl⟩:=List.mem_map.1 ha
  simp only [List.map_cons,List.map_nil,List.mem_singleton]at hb
  rw [hb]
  exact h i n (List.mem_range.1 hi) (by omega)
theorem zJn {n:Nat}{c:Nat→Int}{W:Int}(hW:0≤W){v:Nat}(hv:v<n)(hc:((n:Int) - 1)*W<c v): ∃i:Nat,i<n∧∀u,u<n→c u≤((i:Int) - 1)*W∨(i:Int)*W+1≤c u:=by
 refine Classical.byContradiction fun hno=> ?_
 have h1: ∀i:Nat,i<n→∃u,u<n∧((i:Int) - 1)*W<c u∧c u≤(i:Int)*W:=fun i hi=>by
  refine Classical.byContradiction fun h2=>hno ⟨i,hi,fun u hu=> ?_⟩
  rcases Int.lt_or_le (((i:Int) - 1)*W) (c u)with h3|h3
  ·rcases Int.lt_or_le ((i:Int)*W) (c u)with h4|h4
   ·exact .inr (by omega)
   ·exact absurd ⟨u,hu,h3,h4⟩ h2
  ·exact .inl h3
 have h2: ∀i:Nat,∃u,i<n→u<n∧((i:Int) - 1)*W<c u∧c u≤(i:Int)*W:=fun i=>by
  by_cases hi:i<n
  ·obtain⟨u,h⟩:=h1 i hi;exact⟨u,fun _=>h⟩
  ·exact⟨0,fun h=>absurd h hi⟩
 let f:Nat→Nat:=fun i=>Classical.choose (h2 i)
 have hf: ∀i,i<n→f i<n∧((i:Int) - 1)*W<c (f i)∧c (f i)≤(i:Int)*W:=fun i=>Classical.choose_spec (h2 i)
 have hm: ∀a b:Int,a≤b→a*W≤b*W:=fun a b h=>Int.mul_le_mul_of_nonneg_right h hW
 have hnd:((List.range n).map f).Nodup:=Kg n fun i j hij hj e=>by
  have ha:=hf i (by omega)
  have hb:=hf j hj
  rw [e]at ha
  have :=hm i (j - 1) (by omega)
  omega
 have hnv:v∉(List.range n).map f:=fun hvm=>by
  obtain⟨i,hi,e⟩:=List.mem_map.1 hvm
  have hi:=List.mem_range.1 hi
  have ha:=hf i hi
  rw [e]at ha
  have :=hm i (n - 1) (by omega)
  omega
 have :=MV.nodup_len n (v::(List.range n).map f) (List.nodup_cons.2 ⟨hnv,hnd⟩) fun x hx=>by
  rcases List.mem_cons.1 hx with rfl|hx
  ·exact hv
  ·obtain⟨i,hi,rfl⟩:=List.mem_map.1 hx
   exact(hf i (List.mem_range.1 hi)).1
 simp only [List.length_cons,List.length_map,List.length_range]at this
 omega
theorem Vt {w:Wt}(hw:WSh w){b:Int}(hb:zk w≤b){c:List Int}(hL:xJ w b c){v:Nat}(hv:v<w.a.owner.length)(h:gi c v≤b):gi c v≤zk w:=by
 have hb0:0≤b:=Int.le_trans hw.bound.1 hb
 have hW:=(Va (rs:=w.cost) (m:=0)).1
 refine Classical.byContradiction fun hno=> ?_
 have hno:((w.a.owner.length:Int) - 1)*yl 0 w.cost<gi c v:=by unfold zk at hno;omega
 obtain⟨i,hi,hwin⟩:=zJn (c:=gi c) hW hv hno
 have hmul:((i:Int) - 1)*yl 0 w.cost=(i:Int)*yl 0 w.cost - yl 0 w.cost:=by rw [Int.sub_mul,Int.one_mul]
 have hge:(i:Int)*yl 0 w.cost≤((w.a.owner.length:Int) - 1)*yl 0 w.cost:=Int.mul_le_mul_of_nonneg_right (by omega) hW
 have hi0:0≤(i:Int)*yl 0 w.cost:=Int.mul_nonneg (by omega) hW
 rw [hmul]at hwin
 generalize hM:(i:Int)*yl 0 w.cost=M at*
 generalize hWW:yl 0 w.cost=W at*
 let d:=Ju w.a.owner.length fun u=>if M+1≤gi c u∧gi c u≤b then gi c u - 1 else gi c u
 have hd: ∀u,u<w.a.owner.length→gi d u=if M+1≤gi c u∧gi c u≤b then gi c u - 1 else gi c u:=fun u hu=>kP hu
 have hpre:PreC w b d:=by
  refine⟨KD _ _,fun u hu=> ?_,fun u hu=> ?_⟩
  ·have :=hL.rg u hu
   rw [hd u hu]
   split<;>omega
  ·have hr:=hL.rg u hu
   rcases Int.lt_or_le b (gi c u)with h1|h1
   ·have :=(wE hw hb0 (c:=d) hu).2
    rw [hd u hu,if_neg (by omega)]
    omega
   ·have hdu0:0≤gi d u:=by rw [hd u hu];split<;>omega
    have hdub:gi d u≤b:=by rw [hd u hu];split<;>omega
    have hed: ∀j,j<(gl w.a.next u).length→Ed w b c u j (gi c u)→Ed w b d u j (gi d u):=fun j hj he=>by
     have ht:=hw.to u hu j hj
     have hc1:=zJW hw hu hj
     rw [hWW]at hc1
     have htn:toE w u j<w.a.owner.length:=by unfold toE;omega
     have hwt:=hwin _ htn
     obtain⟨e1,e2⟩:=he
     have hdt:=hd _ htn
     have hdu:=hd u hu
     unfold Ed
     split at hdt<;>split at hdu<;>omega
    have hs:=(wO hw hb0 hu hr.1 h1).1 (hL.pre u hu)
    refine(wO hw hb0 hu hdu0 hdub).2 ⟨fun e=> ?_,fun e j hj=>hed j hj (hs.2 e j hj)⟩
    obtain⟨j,hj,he⟩:=hs.1 e
    exact⟨j,hj,hed j hj he⟩
 have h3:=hL.low d hpre v hv
 rw [hd v hv,if_pos (by omega)]at h3
 omega
theorem jQ {w:Wt}(hw:WSh w){b1 b2:Int}(h1:zk w≤b1)(h2:zk w≤b2){c1 c2:List Int}(L1:xJ w b1 c1)(L2:xJ w b2 c2){v:Nat}(hv:v<w.a.owner.length)(h:gi c2 v≤b2):gi c1 v≤gi c2 v:=by
 have hb0:=hw.bound.1
 let d:=Ju w.a.owner.length fun u=>if gi c2 u≤b2 then gi c2 u else b1+1
 have hd: ∀u,u<w.a.owner.length→gi d u=if gi c2 u≤b2 then gi c2 u else b1+1:=fun u hu=>kP hu
 have hg:=fun u (hu:u<w.a.owner.length)=>Vt hw h2 L2 hu
 have hpre:PreC w b1 d:=by
  refine⟨KD _ _,fun u hu=> ?_,fun u hu=> ?_⟩
  ·have :=L2.rg u hu
   have :=hg u hu
   rw [hd u hu]
   split<;>omega
  ·have hr:=L2.rg u hu
   rw [hd u hu]
   split
   ·rename_i e
    have hs:=(wO hw (by omega) hu hr.1 e).1 (L2.pre u hu)
    have hgu:=hg u hu e
    have hed: ∀j,j<(gl w.a.next u).length→Ed w b2 c2 u j (gi c2 u)→Ed w b1 d u j (gi c2 u):=fun j hj he=>by
     have ht:=hw.to u hu j hj
     have htn:toE w u j<w.a.owner.length:=by unfold toE;omega
     obtain⟨e1,e2⟩:=he
     have :=hg _ htn e1
     unfold Ed
     rw [hd _ htn,if_pos e1]
     omega
    refine(wO hw (by omega) hu hr.1 (by omega)).2 ⟨fun e=> ?_,fun e j hj=>hed j hj (hs.2 e j hj)⟩
    obtain⟨j,hj,he⟩:=hs.1 e
    exact⟨j,hj,hed j hj he⟩
   ·exact(wE hw (by omega) hu).2
 have h3:=L1.low d hpre v hv
 rwa [hd v hv,if_pos h]at h3
theorem zEc {w:Wt}(hw:WSh w){b1 b2:Int}(h1:zk w≤b1)(h2:zk w≤b2){c1 c2:List Int}(L1:xJ w b1 c1)(L2:xJ w b2 c2){v:Nat}(hv:v<w.a.owner.length):yL b1 (gi c1 v)=yL b2 (gi c2 v):=by
 have a:=jQ hw h1 h2 L1 L2 hv
 have e:=jQ hw h2 h1 L2 L1 hv
 have g1:=Vt hw h1 L1 hv
 have g2:=Vt hw h2 L2 hv
 unfold yL
 split<;>split<;>omega
@[reducible] def xX (fs : List Fr) : List D := fs.flatMap dFr
theorem m2d (n:Nat):n*2 / 2=n:=by omega
theorem zGU (fs:List Fr):(xX fs).length=fs.length*2:=by
 induction fs with
 |nil=>rfl
 |cons x fs ih=>simp only [xX,List.flatMap_cons,List.length_append,List.length_cons]at*;rw [ih];simp only [dFr,List.length_cons,List.length_nil];omega
theorem zGy (fs:List Fr)(x y:Int):xX fs++ [D.int .i64 x,D.int .i64 y]=xX (fs++ [⟨x,y⟩]):=by simp [xX,dFr]
theorem zFP (fs:List Fr)(n:Nat):(xX fs).take (n*2)=xX (fs.take n):=by
 induction fs generalizing n with
 |nil=>simp [xX]
 |cons x fs ih=>
  cases n with
  |zero=>simp [xX]
  |succ n=>
   have :=ih n
   simp only [xX,List.flatMap_cons,List.take_succ_cons]at*
   rw [show(n+1)*2=n*2+1+1 from by omega]
   simp only [dFr,List.cons_append,List.nil_append,List.take_succ_cons]
   rw [this]
attribute [push_cast] m2d zGU zGy zFP
def gf (fs:List Fr)(k:Nat):Fr:=fs.getD k ⟨0,0⟩
theorem zAE (fs:List Fr)(k:Nat):(xX fs)[k*2]? =if k<fs.length then some (.int .i64 (gf fs k).num)else none:=by
 induction fs generalizing k with
 |nil=>rfl
 |cons x fs ih=>
  cases k with
  |zero=>rfl
  |succ k=>
   rw [show(k+1)*2=k*2+1+1 from by omega]
   simp only [xX,List.flatMap_cons,dFr,List.cons_append,List.nil_append,List.getElem?_cons_succ,List.length_cons]
   have :=ih k
   simp only [xX]at this
   rw [this]
   simp only [gf,List.getD_cons_succ]
   split<;>split<;>first|rfl|omega
theorem zAj (fs:List Fr)(k:Nat):(xX fs)[k*2+1]? =if k<fs.length then some (.int .i64 (gf fs k).den)else none:=by
 induction fs generalizing k with
 |nil=>rfl
 |cons x fs ih=>
  cases k with
  |zero=>rfl
  |succ k=>
   rw [show(k+1)*2+1=k*2+1+1+1 from by omega]
   simp only [xX,List.flatMap_cons,dFr,List.cons_append,List.nil_append,List.getElem?_cons_succ,List.length_cons]
   have :=ih k
   simp only [xX]at this
   rw [this]
   simp only [gf,List.getD_cons_succ]
   split<;>split<;>first|rfl|omega
theorem zDI (fs:List Fr)(k:Nat):YK (xX fs) (k*2)=(gf fs k).num:=by
 unfold YK
 rw [zAE]
 split
 ·rename_i h;split at h<;>cases h;rfl
 ·rename_i h
  split at h
  ·rename_i h2;exact absurd rfl (h _ _)
  ·rename_i h2;unfold gf;rw [List.getD_eq_getElem?_getD,List.getElem?_eq_none (by omega)];rfl
theorem zC6 (fs:List Fr)(k:Nat):YK (xX fs) (k*2+1)=(gf fs k).den:=by
 unfold YK
 rw [zAj]
 split
 ·rename_i h;split at h<;>cases h;rfl
 ·rename_i h
  split at h
  ·rename_i h2;exact absurd rfl (h _ _)
  ·rename_i h2;unfold gf;rw [List.getD_eq_getElem?_getD,List.getElem?_eq_none (by omega)];rfl
theorem zDL (fs:List Fr)(k:Nat):xi (.int .i64) (xX fs) (k*2)=(k<fs.length):=by
 unfold xi
 rw [zAE]
 apply propext
 constructor
 ·rintro⟨n,h⟩;split at h;assumption;cases h
 ·intro h;rw [if_pos h];exact⟨_,rfl⟩
theorem zC7 (fs:List Fr)(k:Nat):xi (.int .i64) (xX fs) (k*2+1)=(k<fs.length):=by
 unfold xi
 rw [zAj]
 apply propext
 constructor
 ·rintro⟨n,h⟩;split at h;assumption;cases h
 ·intro h;rw [if_pos h];exact⟨_,rfl⟩
attribute [push_cast] zDI zC6 zDL zC7
theorem zEh (fs:List Fr)(k:Nat)(n:Int):(xX fs).set (k*2) (.int .i64 n)=xX (fs.set k ⟨n,(gf fs k).den⟩):=by
 induction fs generalizing k with
 |nil=>simp [xX]
 |cons x fs ih=>
  cases k with
  |zero=>simp [xX,dFr,gf]
  |succ k=>
   have :=ih k
   rw [show(k+1)*2=k*2+1+1 from by omega]
   simp only [xX,List.flatMap_cons,dFr,List.cons_append,List.nil_append,List.set_cons_succ]at*
   rw [this]
   simp only [gf,List.getD_cons_succ]
theorem zEi (fs:List Fr)(k:Nat)(n:Int):(xX fs).set (k*2+1) (.int .i64 n)=xX (fs.set k ⟨(gf fs k).num,n⟩):=by
 induction fs generalizing k with
 |nil=>simp [xX]
 |cons x fs ih=>
  cases k with
  |zero=>simp [xX,dFr,gf]
  |succ k=>
   have :=ih k
   rw [show(k+1)*2+1=k*2+1+1+1 from by omega]
   simp only [xX,List.flatMap_cons,dFr,List.cons_append,List.nil_append,List.set_cons_succ]at*
   rw [this]
   simp only [gf,List.getD_cons_succ]
attribute [push_cast] zEh zEi
end Go.Proofs.Ytdbecmmeifdafaa
