/- The recursive solver of the reference: one step of its walk -/
import Derived.Test.YthepmdkpbjfdcaaB12zpw
import Derived.Test.YthepmdkpbjfdcaaB8zpw
import Derived.Test.YthepmdkpbjfdcaaB6zpw
import Derived.Test.YthepmdkpbjfdcaaB9zpw
import Derived.Test.YthepmdkpbjfdcaaB10zpw
import Derived.Test.YthepmdkpbjfdcaaGDzpw
namespace Go.Proofs.Ythepmdkpbjfdcaa
open Nat renaming reduceMod → zA, reduceMul → zB, reduceDiv → zC, reduceAdd → zD, reduceSub → zE, reduceEqDiff → zF, reduceBEq → zG, reduceLT → zH, reduceLeDiff → zI
open Go.RowKit
set_option linter.unusedVariables false
set_option linter.unusedSimpArgs false
set_option maxRecDepth 20000 in
set_option maxHeartbeats 8000000 in
theorem zDB (x:L7)(inn:List Bool)(hx:x.Ok inn.length)(top who:Int)(hT:yK x inn inn.length=top)(hW: ∀_:Unit,0≤top→Int.tmod top 2=who∧0≤who∧who≤1)(goal att rest low lost away rest2 again res:List Bool)(hG:yX inn.length (yw x inn top)=goal)(hA:yW x inn.length inn who goal=att)(hR:yI inn att=rest)(hLo: ∀_:Unit,low.length=inn.length)(hL:yX inn.length (yP rest low who)=lost)(hA2:yW x inn.length inn (1 - who) lost=away)(hR2:yI inn away=rest2)(hLa: ∀_:Unit,again.length=inn.length)(hF1: ∀_:Unit,0≤top→Fn Try.prog tyT 102 [.agg (dL7 x), .c (.lst 4 (dB rest))] [.c (.lst 4 (dB low))])(hF2: ∀_:Unit,0≤top→vJ lost inn.length=true→Fn Try.prog tyT 102 [.agg (dL7 x), .c (.lst 4 (dB rest2))] [.c (.lst 4 (dB again))])(hres: ∀_:Unit,(top<0→res=List.replicate inn.length false)∧(0≤top→vJ lost inn.length=false→res=yX inn.length (we inn who))∧(0≤top→vJ lost inn.length=true→res=yX inn.length (ve again away who))):Fn Try.prog tyT 102 [.agg (dL7 x), .c (.lst 4 (dB inn))] [.c (.lst 4 (dB res))]:=by
 have hn1:=hx.hn
 have hn3:=hx.hp
 have hgl:goal.length=inn.length:=by rw [←hG];exact qW _ _
 have hal:att.length=inn.length:=by rw [←hA];exact vt _ _ _ _ _
 have hrl:rest.length=inn.length:=by rw [←hR];simp [yI]
 have hll:lost.length=inn.length:=by rw [←hL];exact qW _ _
 have hwl:away.length=inn.length:=by rw [←hA2];exact vt _ _ _ _ _
 have hsl:rest2.length=inn.length:=by rw [←hR2];simp [yI]
 have hTp:=zFi x inn.length hx inn rfl
 rw [hT]at hTp
 have hAt:=WP x inn hx who goal hgl
 rw [hA,←List.take_of_length_le (l:=goal) (i:=inn.length) (by omega)]at hAt
 have hLs:=uK inn att hn1 hal
 rw [hR]at hLs
 have hAu:=WP x inn hx (1 - who) lost hll
 rw [hA2,←List.take_of_length_le (l:=lost) (i:=inn.length) (by omega)]at hAu
 have hLu:=uK inn away hn1 hwl
 rw [hR2]at hLu
 unfold dL7 at hTp hAt hAu hF1 hF2⊢
 have htr:=JT hx inn inn.length (by omega)
 rw [hT]at htr
 clear hT
 replace hrl: ∀_:Unit,rest.length=inn.length:=fun _=>hrl
 replace hwl: ∀_:Unit,away.length=inn.length:=fun _=>hwl
 clear hgl hal hll hsl
 refine zw (fn:=Try.f102) (ts:= [4]) Try.func102 (by kernel_rfl) rfl rfl (by rw [Try.ntmps102];exact Nat.le_of_ble_eq_true rfl) rfl (by simp only [szA,List.mem_cons,List.not_mem_nil,or_false,forall_eq_or_imp,forall_eq,VT.cells,szL];try decide) ?_
 rw [Try.ntmps102]
 simp only [push_cast,↓zK,↓zJ,↓reduceIte,zA,zB,zC,zD,zE,zF,zG,zH,zI,reduceCtorEq]
 refine zL fun K hK=> ?_
 refine zM zO zN [] rfl ?_
 simp only [push_cast,↓zK,↓zJ,↓reduceIte,zA,zB,zC,zD,zE,zF,zG,zH,zI,reduceCtorEq]
 repeat' apply And.intro
 all_goals try exact gB
 all_goals first|(refine hK _ ?_;clear hK K)|(simp only [push_cast];done)
 refine zL fun K hK=> ?_
 refine zM zO zN [] rfl ?_
 all_goals refine zo 3 fun K9 hK9=> ?_
 all_goals simp only [push_cast,↓zK,↓zJ,↓reduceIte,zA,zB,zC,zD,zE,zF,zG,zH,zI,reduceCtorEq]
 all_goals repeat'(first|(apply zP<;>(intro hg;(try simp only [push_cast]at hg)))|(refine⟨_,hTp,?_⟩;simp only [push_cast,↓zK,↓zJ,↓reduceIte,zA,zB,zC,zD,zE,zF,zG,zH,zI,reduceCtorEq])|apply And.intro|(intro hg;(try simp only [push_cast]at hg)))
 all_goals try exact gA
 all_goals first|(refine hK9 _ ?_;clear hK9 K9)|(simp only [push_cast];done)
 all_goals simp only [push_cast,↓zK,↓zJ,↓reduceIte,zA,zB,zC,zD,zE,zF,zG,zH,zI,reduceCtorEq]
 all_goals repeat'(first|(apply zP<;>(intro hg;(try simp only [push_cast]at hg)))|(refine⟨_,hTp,?_⟩;simp only [push_cast,↓zK,↓zJ,↓reduceIte,zA,zB,zC,zD,zE,zF,zG,zH,zI,reduceCtorEq])|apply And.intro|(intro hg;(try simp only [push_cast]at hg)))
 all_goals try exact gA
 all_goals first|(refine hK _ ?_;clear hK K)|(simp only [push_cast];done)
 refine zL fun K hK=> ?_
 refine zM zO zN [] rfl ?_
 simp only [push_cast,↓zK,↓zJ,↓reduceIte,zA,zB,zC,zD,zE,zF,zG,zH,zI,reduceCtorEq]
 repeat' apply And.intro
 all_goals try exact gB
 all_goals first|(refine hK _ ?_;clear hK K)|(simp only [push_cast];done)
 refine zL fun K1 hK1=> ?_
 refine zL fun K hK=> ?_
 refine zM zO zN [] rfl ?_
 simp only [push_cast,↓zK,↓zJ,↓reduceIte,zA,zB,zC,zD,zE,zF,zG,zH,zI,reduceCtorEq]
 repeat' apply And.intro
 all_goals try exact gB
 all_goals first|(refine hK _ ?_;clear hK K)|(simp only [push_cast];done)
 refine zU rfl (fun hc=> ?_) (fun hc=> ?_)<;>(try simp only [push_cast]at hc)
 ·
  have hr9:=(hres ()).1 (by omega)
  subst hr9
  refine zL fun K hK=> ?_
  refine zM zO zN [] rfl ?_
  simp only [push_cast,↓zK,↓zJ,↓reduceIte,zA,zB,zC,zD,zE,zF,zG,zH,zI,reduceCtorEq]
  repeat' apply And.intro
  all_goals try exact gB
  all_goals first|(refine hK _ ?_;clear hK K)|(simp only [push_cast];done)
  refine zX ?_
  (try simp only [zR,zS])
  refine⟨Or.inl rfl,?_⟩
  simp only [zd,push_cast,↓zK,↓zJ,↓reduceIte,zA,zB,zC,zD,zE,zF,zG,zH,zI,reduceCtorEq]
  all_goals first|rfl|exact⟨rfl,by simp⟩|(simp;done)
 ·
  refine zV ?_
  (try simp only [zR,zS,reduceIte,zF]);refine hK1 _ ?_
  refine zL fun K hK=> ?_
  refine zM zO zN [] rfl ?_
  simp only [push_cast,↓zK,↓zJ,↓reduceIte,zA,zB,zC,zD,zE,zF,zG,zH,zI,reduceCtorEq]
  repeat' apply And.intro
  all_goals try exact gB
  all_goals first|(refine hK _ ?_;clear hK K)|(simp only [push_cast];done)
  rw [(hW () (by omega)).1]
  have hwr:=(hW () (by omega)).2
  refine zL fun K hK=> ?_
  refine zM zO zN [] rfl ?_
  simp only [push_cast,↓zK,↓zJ,↓reduceIte,zA,zB,zC,zD,zE,zF,zG,zH,zI,reduceCtorEq]
  repeat' apply And.intro
  all_goals try exact gB
  all_goals first|(refine hK _ ?_;clear hK K)|(simp only [push_cast];done)
  refine zL fun K2 hK2=> ?_
  refine zL fun K hK=> ?_
  refine zM zO zN [] rfl ?_
  simp only [push_cast,↓zK,↓zJ,↓reduceIte,zA,zB,zC,zD,zE,zF,zG,zH,zI,reduceCtorEq]
  repeat' apply And.intro
  all_goals try exact gB
  all_goals first|(refine hK _ ?_;clear hK K)|(simp only [push_cast];done)
  refine zW ?_
  refine zi [9,33,34,35,36,37,38,39,40,41,42,43,44,45,46,47,48,49,50,51,52,53,54] [128] (fun(k:Nat)=> [(9, .int .i64 k),(8, .sl 128 [] 0 inn.length 4)]) (fun k=> []) (fun k=> [(128,⟨.ex,4,dB (mkB inn.length (yw x inn top) k),none⟩)]) (fun k=>k≤inn.length) (fun k=>inn.length - k) 0 ?_ (Nat.zero_le _) ?_
  ·
   rw [Xa]
   refine zY rfl ?_ ?_ ?_<;>simp only [zf,ze,push_cast,↓zK,↓zJ,↓reduceIte,zA,zB,zC,zD,zE,zF,zG,zH,zI,reduceCtorEq]
  ·rintro k hk KL0 hL0
   have hml:=wU (f:=yw x inn top) hk
   simp only [push_cast,↓zK,↓zJ,↓reduceIte,zA,zB,zC,zD,zE,zF,zG,zH,zI,reduceCtorEq]
   refine zL fun K3 hK3=> ?_
   refine zL fun K hK=> ?_
   refine zM zO zN [] rfl ?_
   simp only [push_cast,↓zK,↓zJ,↓reduceIte,zA,zB,zC,zD,zE,zF,zG,zH,zI,reduceCtorEq]
   repeat' apply And.intro
   all_goals try exact gB
   all_goals first|(refine hK _ ?_;clear hK K)|(simp only [push_cast];done)
   refine zU rfl (fun hc=> ?_) (fun hc=> ?_)<;>(try simp only [push_cast]at hc)
   ·
    refine zV ?_
    (try simp only [zR,zS,reduceIte,zF]);refine hK3 _ ?_
    refine zL fun K4 hK4=> ?_
    refine zW ?_
    refine zj false zO zN ?_ rfl ?_
    ·kernel_rfl
    all_goals simp only [push_cast,↓zK,↓zJ,↓reduceIte,zA,zB,zC,zD,zE,zF,zG,zH,zI,reduceCtorEq]
    all_goals repeat'(first|(apply zP<;>(intro hg;(try simp only [push_cast]at hg)))|apply And.intro|(intro hg;(try simp only [push_cast]at hg)))
    all_goals try exact gA
    all_goals(
      (try simp only [zR,zS,reduceIte,zF]);refine hK4 _ ?_
      refine zM zO zN [] rfl ?_
      simp only [push_cast,↓zK,↓zJ,↓reduceIte,zA,zB,zC,zD,zE,zF,zG,zH,zI,reduceCtorEq]
      repeat' apply And.intro
      all_goals try exact gB
      refine hL0 _ ⟨k+1,(show k+1≤inn.length by omega),(show inn.length - (k+1)<inn.length - k by omega),?_⟩
      first|rw [zAN (k:=k) (n:=inn.length) (inn:=inn) (by omega) (by with_reducible assumption)]|rw [zCD (k:=k) (n:=inn.length) (inn:=inn) (by omega) (by with_reducible assumption)]
      refine zY rfl ?_ ?_ ?_<;>simp only [zf,ze,push_cast,↓zK,↓zJ,↓reduceIte,zA,zB,zC,zD,zE,zF,zG,zH,zI,reduceCtorEq])
   ·
    refine zk ?_
    have hkk:k=inn.length:=by omega
    subst hkk
    rw [Qd]
    rw [hG]
    (try simp only [zR,zS,reduceIte,zF]);refine hK2 _ ?_
    refine zL fun K hK=> ?_
    refine zM zO zN [] rfl ?_
    all_goals refine zo 6 fun K9 hK9=> ?_
    all_goals simp only [push_cast,↓zK,↓zJ,↓reduceIte,zA,zB,zC,zD,zE,zF,zG,zH,zI,reduceCtorEq]
    all_goals repeat'(first|(apply zP<;>(intro hg;(try simp only [push_cast]at hg)))|(refine⟨_,hAt,?_⟩;simp only [push_cast,↓zK,↓zJ,↓reduceIte,zA,zB,zC,zD,zE,zF,zG,zH,zI,reduceCtorEq])|apply And.intro|(intro hg;(try simp only [push_cast]at hg)))
    all_goals try exact gA
    all_goals first|(refine hK9 _ ?_;clear hK9 K9)|(simp only [push_cast];done)
    all_goals refine zo 1 fun K9 hK9=> ?_
    all_goals simp only [push_cast,↓zK,↓zJ,↓reduceIte,zA,zB,zC,zD,zE,zF,zG,zH,zI,reduceCtorEq]
    all_goals repeat'(first|(apply zP<;>(intro hg;(try simp only [push_cast]at hg)))|(refine⟨_,hLs,?_⟩;simp only [push_cast,↓zK,↓zJ,↓reduceIte,zA,zB,zC,zD,zE,zF,zG,zH,zI,reduceCtorEq])|apply And.intro|(intro hg;(try simp only [push_cast]at hg)))
    all_goals try exact gA
    all_goals first|(refine hK9 _ ?_;clear hK9 K9)|(simp only [push_cast];done)
    all_goals simp only [push_cast,↓zK,↓zJ,↓reduceIte,zA,zB,zC,zD,zE,zF,zG,zH,zI,reduceCtorEq]
    all_goals repeat'(first|(apply zP<;>(intro hg;(try simp only [push_cast]at hg)))|(refine⟨_,hAt,?_⟩;simp only [push_cast,↓zK,↓zJ,↓reduceIte,zA,zB,zC,zD,zE,zF,zG,zH,zI,reduceCtorEq])|(refine⟨_,hLs,?_⟩;simp only [push_cast,↓zK,↓zJ,↓reduceIte,zA,zB,zC,zD,zE,zF,zG,zH,zI,reduceCtorEq])|apply And.intro|(intro hg;(try simp only [push_cast]at hg)))
    all_goals try exact gA
    all_goals first|(refine hK _ ?_;clear hK K)|(simp only [push_cast];done)
    refine zL fun K hK=> ?_
    refine zM zO zN [] rfl ?_
    all_goals refine zo 3 fun K9 hK9=> ?_
    all_goals simp only [push_cast,↓zK,↓zJ,↓reduceIte,zA,zB,zC,zD,zE,zF,zG,zH,zI,reduceCtorEq]
    all_goals repeat'(first|(apply zP<;>(intro hg;(try simp only [push_cast]at hg)))|(refine⟨_,hF1 () (by omega),?_⟩;simp only [push_cast,↓zK,↓zJ,↓reduceIte,zA,zB,zC,zD,zE,zF,zG,zH,zI,reduceCtorEq])|apply And.intro|(intro hg;(try simp only [push_cast]at hg)))
    all_goals try exact gA
    all_goals first|(refine hK9 _ ?_;clear hK9 K9)|(simp only [push_cast];done)
    all_goals simp only [push_cast,↓zK,↓zJ,↓reduceIte,zA,zB,zC,zD,zE,zF,zG,zH,zI,reduceCtorEq]
    all_goals repeat'(first|(apply zP<;>(intro hg;(try simp only [push_cast]at hg)))|(refine⟨_,hF1 () (by omega),?_⟩;simp only [push_cast,↓zK,↓zJ,↓reduceIte,zA,zB,zC,zD,zE,zF,zG,zH,zI,reduceCtorEq])|apply And.intro|(intro hg;(try simp only [push_cast]at hg)))
    all_goals try exact gA
    all_goals first|(refine hK _ ?_;clear hK K)|(simp only [push_cast];done)
    refine zL fun K hK=> ?_
    refine zM zO zN [] rfl ?_
    simp only [push_cast,↓zK,↓zJ,↓reduceIte,zA,zB,zC,zD,zE,zF,zG,zH,zI,reduceCtorEq]
    repeat' apply And.intro
    all_goals try exact gB
    all_goals first|(refine hK _ ?_;clear hK K)|(simp only [push_cast];done)
    refine zL fun K hK=> ?_
    refine zM zO zN [] rfl ?_
    simp only [push_cast,↓zK,↓zJ,↓reduceIte,zA,zB,zC,zD,zE,zF,zG,zH,zI,reduceCtorEq]
    repeat' apply And.intro
    all_goals try exact gB
    all_goals first|(refine hK _ ?_;clear hK K)|(simp only [push_cast];done)
    refine zL fun K5 hK5=> ?_
    refine zL fun K hK=> ?_
    refine zM zO zN [] rfl ?_
    simp only [push_cast,↓zK,↓zJ,↓reduceIte,zA,zB,zC,zD,zE,zF,zG,zH,zI,reduceCtorEq]
    repeat' apply And.intro
    all_goals try exact gB
    all_goals first|(refine hK _ ?_;clear hK K)|(simp only [push_cast];done)
    refine zW ?_
    refine zi [13,14,45,68,69,70,71,72,73,74,75,76,77,78,79,80,81,82,83,84,85,86,87,88,89,90,91,92,93,94,95,96] [192] (fun(k:Nat)=> [(14, .int .i64 k),(13, .bool (vJ lost k)),(12, .sl 192 [] 0 inn.length 4)]) (fun k=> []) (fun k=> [(192,⟨.ex,4,dB (mkB inn.length (yP rest low who) k),none⟩)]) (fun k=>k≤inn.length) (fun k=>inn.length - k) 0 ?_ (Nat.zero_le _) ?_
    ·
     rw [Xa,show vJ lost 0=false from rfl]
     refine zY rfl ?_ ?_ ?_<;>simp only [zf,ze,push_cast,↓zK,↓zJ,↓reduceIte,zA,zB,zC,zD,zE,zF,zG,zH,zI,reduceCtorEq]
    ·rintro k hk KL1 hL1
     have hml:=wU (f:=yP rest low who) hk
     have hrl1:=hrl ()
     have hLo1:=hLo ()
     simp only [push_cast,↓zK,↓zJ,↓reduceIte,zA,zB,zC,zD,zE,zF,zG,zH,zI,reduceCtorEq]
     refine zL fun K6 hK6=> ?_
     refine zL fun K hK=> ?_
     refine zM zO zN [] rfl ?_
     simp only [push_cast,↓zK,↓zJ,↓reduceIte,zA,zB,zC,zD,zE,zF,zG,zH,zI,reduceCtorEq]
     repeat' apply And.intro
     all_goals try exact gB
     all_goals first|(refine hK _ ?_;clear hK K)|(simp only [push_cast];done)
     refine zU rfl (fun hc=> ?_) (fun hc=> ?_)<;>(try simp only [push_cast]at hc)
     ·
      refine zV ?_
      (try simp only [zR,zS,reduceIte,zF]);refine hK6 _ ?_
      refine zL fun K7 hK7=> ?_
      refine zW ?_
      refine zL fun K hK=> ?_
      refine zj false zO zN ?_ rfl ?_
      ·kernel_rfl
      all_goals simp only [push_cast,↓zK,↓zJ,↓reduceIte,zA,zB,zC,zD,zE,zF,zG,zH,zI,reduceCtorEq]
      all_goals repeat'(first|(apply zP<;>(intro hg;(try simp only [push_cast]at hg)))|apply And.intro|(intro hg;(try simp only [push_cast]at hg)))
      all_goals try exact gA
      all_goals first|(refine hK _ ?_;clear hK K)|(simp only [push_cast];done)
      all_goals(
        refine zj false zO zN ?_ rfl ?_
        ·kernel_rfl
        all_goals simp only [push_cast,↓zK,↓zJ,↓reduceIte,zA,zB,zC,zD,zE,zF,zG,zH,zI,reduceCtorEq]
        all_goals repeat'(first|(apply zP<;>(intro hg;(try simp only [push_cast]at hg)))|apply And.intro|(intro hg;(try simp only [push_cast]at hg)))
        all_goals first|exact gA|(rw [List.length_set];omega)|skip
        all_goals(
          (try simp only [zR,zS,reduceIte,zF]);refine hK7 _ ?_
          first|rw [zFr (k:=k) (n:=inn.length) (rest:=rest) (by omega) (by with_reducible assumption)]|rw [zHr (k:=k) (n:=inn.length) (rest:=rest) (by omega) (by with_reducible assumption)]
          have hml2:=wU (f:=yP rest low who) (show k+1≤inn.length by omega)
          have hmk:=zFu (f:=yP rest low who) (show k<inn.length by omega)
          rw [hL]at hmk
          refine zM zO zN [] rfl ?_
          all_goals simp only [push_cast,↓zK,↓zJ,↓reduceIte,zA,zB,zC,zD,zE,zF,zG,zH,zI,reduceCtorEq]
          all_goals repeat'(first|(apply zP<;>(intro hg;(try simp only [push_cast]at hg)))|apply And.intro|(intro hg;(try simp only [push_cast]at hg)))
          all_goals first|exact gA|(rw [List.length_set];omega)|skip
          refine hL1 _ ⟨k+1,(show k+1≤inn.length by omega),(show inn.length - (k+1)<inn.length - k by omega),?_⟩
          first|rw [show vJ lost (k+1)=true from by unfold vJ;rw [show vJ lost k=true from by with_reducible assumption];rfl]|rw [show vJ lost (k+1)=gb (mkB inn.length (yP rest low who) (k+1)) k from by rw [hmk];show(vJ lost k||gb lost k)=_;rw [show vJ lost k=false from by with_reducible assumption];rfl]
          refine zY rfl ?_ ?_ ?_<;>simp only [zf,ze,push_cast,↓zK,↓zJ,↓reduceIte,zA,zB,zC,zD,zE,zF,zG,zH,zI,reduceCtorEq]))
     ·
      refine zk ?_
      have hkk:k=inn.length:=by omega
      subst hkk
      rw [Qd]
      rw [hL]
      (try simp only [zR,zS,reduceIte,zF]);refine hK5 _ ?_
      refine zL fun K8 hK8=> ?_
      refine zL fun K hK=> ?_
      refine zM zO zN [] rfl ?_
      simp only [push_cast,↓zK,↓zJ,↓reduceIte,zA,zB,zC,zD,zE,zF,zG,zH,zI,reduceCtorEq]
      repeat' apply And.intro
      all_goals try exact gB
      all_goals first|(refine hK _ ?_;clear hK K)|(simp only [push_cast];done)
      refine zU rfl (fun hc=> ?_) (fun hc=> ?_)<;>(try simp only [push_cast]at hc)
      ·
       refine zL fun K9 hK9=> ?_
       have hany:vJ lost inn.length=false:=by first|exact hc|simpa using hc
       have hr9:=(hres ()).2.1 (by omega) hany
       subst hr9
       refine zL fun K hK=> ?_
       refine zM zO zN [] rfl ?_
       simp only [push_cast,↓zK,↓zJ,↓reduceIte,zA,zB,zC,zD,zE,zF,zG,zH,zI,reduceCtorEq]
       repeat' apply And.intro
       all_goals try exact gB
       all_goals first|(refine hK _ ?_;clear hK K)|(simp only [push_cast];done)
       refine zW ?_
       refine zi [15,45,80,91,99,100,101,102,103,104,105,106,107,108,109,110,111,112,113,114,115] [96] (fun(k:Nat)=> [(15, .int .i64 k),(6, .sl 96 [] 0 inn.length 4)]) (fun k=> []) (fun k=> [(96,⟨.ex,4,dB (mkB inn.length (we inn who) k),none⟩)]) (fun k=>k≤inn.length) (fun k=>inn.length - k) 0 ?_ (Nat.zero_le _) ?_
       ·
        rw [Xa]
        refine zY rfl ?_ ?_ ?_<;>simp only [zf,ze,push_cast,↓zK,↓zJ,↓reduceIte,zA,zB,zC,zD,zE,zF,zG,zH,zI,reduceCtorEq]
       ·rintro k hk KL2 hL2
        have hml:=wU (f:=we inn who) hk
        simp only [push_cast,↓zK,↓zJ,↓reduceIte,zA,zB,zC,zD,zE,zF,zG,zH,zI,reduceCtorEq]
        refine zL fun K10 hK10=> ?_
        refine zL fun K hK=> ?_
        refine zM zO zN [] rfl ?_
        simp only [push_cast,↓zK,↓zJ,↓reduceIte,zA,zB,zC,zD,zE,zF,zG,zH,zI,reduceCtorEq]
        repeat' apply And.intro
        all_goals try exact gB
        all_goals first|(refine hK _ ?_;clear hK K)|(simp only [push_cast];done)
        refine zU rfl (fun hc=> ?_) (fun hc=> ?_)<;>(try simp only [push_cast]at hc)
        ·
         refine zV ?_
         (try simp only [zR,zS,reduceIte,zF]);refine hK10 _ ?_
         refine zL fun K11 hK11=> ?_
         refine zW ?_
         refine zj false zO zN ?_ rfl ?_
         ·kernel_rfl
         all_goals simp only [push_cast,↓zK,↓zJ,↓reduceIte,zA,zB,zC,zD,zE,zF,zG,zH,zI,reduceCtorEq]
         all_goals repeat'(first|(apply zP<;>(intro hg;(try simp only [push_cast]at hg)))|apply And.intro|(intro hg;(try simp only [push_cast]at hg)))
         all_goals try exact gA
         all_goals(
           (try simp only [zR,zS,reduceIte,zF]);refine hK11 _ ?_
           refine zM zO zN [] rfl ?_
           simp only [push_cast,↓zK,↓zJ,↓reduceIte,zA,zB,zC,zD,zE,zF,zG,zH,zI,reduceCtorEq]
           repeat' apply And.intro
           all_goals try exact gB
           refine hL2 _ ⟨k+1,(show k+1≤inn.length by omega),(show inn.length - (k+1)<inn.length - k by omega),?_⟩
           first|rw [zGa (k:=k) (n:=inn.length) (inn:=inn) (by omega) (by with_reducible assumption)]|rw [zIU (k:=k) (n:=inn.length) (inn:=inn) (by omega) (by with_reducible assumption)]
           refine zY rfl ?_ ?_ ?_<;>simp only [zf,ze,push_cast,↓zK,↓zJ,↓reduceIte,zA,zB,zC,zD,zE,zF,zG,zH,zI,reduceCtorEq])
        ·
         refine zk ?_
         have hkk:k=inn.length:=by omega
         subst hkk
         rw [Qd]
         (try simp only [zR,zS,reduceIte,zF]);refine hK9 _ ?_
         refine zL fun K hK=> ?_
         refine zM zO zN [] rfl ?_
         simp only [push_cast,↓zK,↓zJ,↓reduceIte,zA,zB,zC,zD,zE,zF,zG,zH,zI,reduceCtorEq]
         repeat' apply And.intro
         all_goals try exact gB
         all_goals first|(refine hK _ ?_;clear hK K)|(simp only [push_cast];done)
         refine zX ?_
         (try simp only [zR,zS])
         refine⟨Or.inl rfl,?_⟩
         simp only [zd,push_cast,↓zK,↓zJ,↓reduceIte,zA,zB,zC,zD,zE,zF,zG,zH,zI,reduceCtorEq]
         all_goals first|rfl|exact⟨rfl,by simp [yX]⟩|(simp [yX];done)
      ·
       refine zV ?_
       (try simp only [zR,zS,reduceIte,zF]);refine hK8 _ ?_
       have hany:vJ lost inn.length=true:=by first|exact hc|simpa using hc
       have hr9:=(hres ()).2.2 (by omega) hany
       subst hr9
       refine zL fun K hK=> ?_
       refine zM zO zN [] rfl ?_
       all_goals refine zo 6 fun K9 hK9=> ?_
       all_goals simp only [push_cast,↓zK,↓zJ,↓reduceIte,zA,zB,zC,zD,zE,zF,zG,zH,zI,reduceCtorEq]
       all_goals repeat'(first|(apply zP<;>(intro hg;(try simp only [push_cast]at hg)))|(refine⟨_,hAu,?_⟩;simp only [push_cast,↓zK,↓zJ,↓reduceIte,zA,zB,zC,zD,zE,zF,zG,zH,zI,reduceCtorEq])|apply And.intro|(intro hg;(try simp only [push_cast]at hg)))
       all_goals try exact gA
       all_goals first|(refine hK9 _ ?_;clear hK9 K9)|(simp only [push_cast];done)
       all_goals simp only [push_cast,↓zK,↓zJ,↓reduceIte,zA,zB,zC,zD,zE,zF,zG,zH,zI,reduceCtorEq]
       all_goals repeat'(first|(apply zP<;>(intro hg;(try simp only [push_cast]at hg)))|(refine⟨_,hAu,?_⟩;simp only [push_cast,↓zK,↓zJ,↓reduceIte,zA,zB,zC,zD,zE,zF,zG,zH,zI,reduceCtorEq])|apply And.intro|(intro hg;(try simp only [push_cast]at hg)))
       all_goals try exact gA
       all_goals first|(refine hK _ ?_;clear hK K)|(simp only [push_cast];done)
       refine zL fun K hK=> ?_
       refine xN false zO zN qb ?_ rfl ?_
       ·kernel_rfl
       intro E hE
       all_goals refine vz 4 (by decide) fun K9 hK9=> ?_
       all_goals simp only [push_cast,↓zK,↓zJ,↓reduceIte,zA,zB,zC,zD,zE,zF,zG,zH,zI,reduceCtorEq]
       all_goals repeat'(first|(apply zP<;>(intro hg;(try simp only [push_cast]at hg)))|(refine⟨_,hLu,?_⟩;simp only [push_cast,↓zK,↓zJ,↓reduceIte,zA,zB,zC,zD,zE,zF,zG,zH,zI,reduceCtorEq])|apply And.intro|(intro hg;(try simp only [push_cast]at hg)))
       all_goals try exact gA
       all_goals first|(refine hK9 _ _ ?_;clear hK9 K9)|(simp only [push_cast];done)
       all_goals refine vz 1 (by decide) fun K9 hK9=> ?_
       all_goals simp only [push_cast,↓zK,↓zJ,↓reduceIte,zA,zB,zC,zD,zE,zF,zG,zH,zI,reduceCtorEq]
       all_goals repeat'(first|(apply zP<;>(intro hg;(try simp only [push_cast]at hg)))|(refine⟨_,hF2 () (by omega) hany,?_⟩;simp only [push_cast,↓zK,↓zJ,↓reduceIte,zA,zB,zC,zD,zE,zF,zG,zH,zI,reduceCtorEq])|apply And.intro|(intro hg;(try simp only [push_cast]at hg)))
       all_goals try exact gA
       all_goals first|(refine hK9 _ _ ?_;clear hK9 K9)|(simp only [push_cast];done)
       all_goals simp only [push_cast,↓zK,↓zJ,↓reduceIte,zA,zB,zC,zD,zE,zF,zG,zH,zI,reduceCtorEq]
       all_goals repeat'(first|(apply zP<;>(intro hg;(try simp only [push_cast]at hg)))|(refine⟨_,hLu,?_⟩;simp only [push_cast,↓zK,↓zJ,↓reduceIte,zA,zB,zC,zD,zE,zF,zG,zH,zI,reduceCtorEq])|(refine⟨_,hF2 () (by omega) hany,?_⟩;simp only [push_cast,↓zK,↓zJ,↓reduceIte,zA,zB,zC,zD,zE,zF,zG,zH,zI,reduceCtorEq])|apply And.intro|(intro hg;(try simp only [push_cast]at hg)))
       all_goals first|exact gA|(refine hE _ _ ?_ ?_;kernel_rfl)|skip
       all_goals clear hE E
       all_goals first|(refine hK _ ?_;clear hK K)|(simp only [push_cast];done)
       refine zL fun K12 hK12=> ?_
       refine zL fun K hK=> ?_
       refine zM zO zN [] rfl ?_
       simp only [push_cast,↓zK,↓zJ,↓reduceIte,zA,zB,zC,zD,zE,zF,zG,zH,zI,reduceCtorEq]
       repeat' apply And.intro
       all_goals try exact gB
       all_goals first|(refine hK _ ?_;clear hK K)|(simp only [push_cast];done)
       refine zW ?_
       refine zi [18,45,80,91,111,128,129,130,131,132,133,134,135,136,137,138,139,140,141,142,143,144,145,146,147,148,149,150] [96] (fun(k:Nat)=> [(18, .int .i64 k),(6, .sl 96 [] 0 inn.length 4)]) (fun k=> []) (fun k=> [(96,⟨.ex,4,dB (mkB inn.length (ve again away who) k),none⟩)]) (fun k=>k≤inn.length) (fun k=>inn.length - k) 0 ?_ (Nat.zero_le _) ?_
       ·
        rw [Xa]
        refine zY rfl ?_ ?_ ?_<;>simp only [zf,ze,push_cast,↓zK,↓zJ,↓reduceIte,zA,zB,zC,zD,zE,zF,zG,zH,zI,reduceCtorEq]
       ·rintro k hk KL3 hL3
        have hml:=wU (f:=ve again away who) hk
        have hLa1:=hLa ()
        have hwl1:=hwl ()
        simp only [push_cast,↓zK,↓zJ,↓reduceIte,zA,zB,zC,zD,zE,zF,zG,zH,zI,reduceCtorEq]
        refine zL fun K13 hK13=> ?_
        refine zL fun K hK=> ?_
        refine zM zO zN [] rfl ?_
        simp only [push_cast,↓zK,↓zJ,↓reduceIte,zA,zB,zC,zD,zE,zF,zG,zH,zI,reduceCtorEq]
        repeat' apply And.intro
        all_goals try exact gB
        all_goals first|(refine hK _ ?_;clear hK K)|(simp only [push_cast];done)
        refine zU rfl (fun hc=> ?_) (fun hc=> ?_)<;>(try simp only [push_cast]at hc)
        ·
         refine zV ?_
         (try simp only [zR,zS,reduceIte,zF]);refine hK13 _ ?_
         refine zL fun K14 hK14=> ?_
         refine zW ?_
         refine zj false zO zN ?_ rfl ?_
         ·kernel_rfl
         all_goals simp only [push_cast,↓zK,↓zJ,↓reduceIte,zA,zB,zC,zD,zE,zF,zG,zH,zI,reduceCtorEq]
         all_goals repeat'(first|(apply zP<;>(intro hg;(try simp only [push_cast]at hg)))|apply And.intro|(intro hg;(try simp only [push_cast]at hg)))
         all_goals try exact gA
         all_goals(
           (try simp only [zR,zS,reduceIte,zF]);refine hK14 _ ?_
           refine zM zO zN [] rfl ?_
           simp only [push_cast,↓zK,↓zJ,↓reduceIte,zA,zB,zC,zD,zE,zF,zG,zH,zI,reduceCtorEq]
           repeat' apply And.intro
           all_goals try exact gB
           refine hL3 _ ⟨k+1,(show k+1≤inn.length by omega),(show inn.length - (k+1)<inn.length - k by omega),?_⟩
           first|rw [zKD (k:=k) (n:=inn.length) (again:=again) (away:=away) (by omega) (by with_reducible assumption)]|rw [zKE (k:=k) (n:=inn.length) (again:=again) (away:=away) (by omega) (by with_reducible assumption) (by with_reducible assumption)]|rw [zKF (k:=k) (n:=inn.length) (again:=again) (away:=away) (by omega) (by with_reducible assumption) (by with_reducible assumption)]
           refine zY rfl ?_ ?_ ?_<;>simp only [zf,ze,push_cast,↓zK,↓zJ,↓reduceIte,zA,zB,zC,zD,zE,zF,zG,zH,zI,reduceCtorEq])
        ·
         refine zk ?_
         have hkk:k=inn.length:=by omega
         subst hkk
         rw [Qd]
         (try simp only [zR,zS,reduceIte,zF]);refine hK12 _ ?_
         refine zL fun K hK=> ?_
         refine zM zO zN [] rfl ?_
         simp only [push_cast,↓zK,↓zJ,↓reduceIte,zA,zB,zC,zD,zE,zF,zG,zH,zI,reduceCtorEq]
         repeat' apply And.intro
         all_goals try exact gB
         all_goals first|(refine hK _ ?_;clear hK K)|(simp only [push_cast];done)
         refine zX ?_
         (try simp only [zR,zS])
         refine⟨Or.inl rfl,?_⟩
         simp only [zd,push_cast,↓zK,↓zJ,↓reduceIte,zA,zB,zC,zD,zE,zF,zG,zH,zI,reduceCtorEq]
         all_goals first|rfl|exact⟨rfl,by simp [yX]⟩|(simp [yX];done)
theorem KI (x:L7): ∀(f:Nat) (inn:List Bool),x.Ok inn.length→ye inn inn.length<f→Fn Try.prog tyT 102 [.agg (dL7 x), .c (.lst 4 (dB inn))] [.c (.lst 4 (dB (yU x inn.length f inn)))]
 |0,inn,_,h=>absurd h (Nat.not_lt_zero _)
 |f+1,inn,hx,hc=>by
  obtain⟨n,hn⟩: ∃n,inn.length=n:=⟨_,rfl⟩
  obtain⟨top,hT⟩: ∃t,yK x inn inn.length=t:=⟨_,rfl⟩
  obtain⟨who,hW⟩: ∃t,Int.tmod top 2=t:=⟨_,rfl⟩
  obtain⟨goal,hG⟩: ∃t,yX inn.length (yw x inn top)=t:=⟨_,rfl⟩
  obtain⟨att,hAt⟩: ∃t,yW x inn.length inn who goal=t:=⟨_,rfl⟩
  obtain⟨rest,hR⟩: ∃t,yI inn att=t:=⟨_,rfl⟩
  obtain⟨low,hLo⟩: ∃t,yU x inn.length f rest=t:=⟨_,rfl⟩
  obtain⟨lost,hL⟩: ∃t,yX inn.length (yP rest low who)=t:=⟨_,rfl⟩
  obtain⟨away,hA⟩: ∃t,yW x inn.length inn (1 - who) lost=t:=⟨_,rfl⟩
  obtain⟨rest2,hR2⟩: ∃t,yI inn away=t:=⟨_,rfl⟩
  obtain⟨again,hAg⟩: ∃t,yU x inn.length f rest2=t:=⟨_,rfl⟩
  have hs:=je x inn.length f inn hT hW hG (by rw [hAt];exact hR) hLo hL hA
  rw [hR2,hAg]at hs
  have hrl:rest.length=inn.length:=by rw [←hR,xS]
  have hr2l:rest2.length=inn.length:=by rw [←hR2,xS]
  have hex:=Wi hx (inn:=inn) inn.length (Nat.le_refl _)
  rw [hT]at hex
  have hlt:0≤top→ye rest inn.length<ye inn inn.length:=fun ht=>by
   obtain⟨w,hw,hw3,hw4⟩:=hex.resolve_left (by omega)
   rw [←hR,←hAt]
   refine Yu rfl hw hw3 ?_
   rw [←hG,yS hw]
   unfold yw
   rw [hw3,hw4]
   simp
  refine zDB x inn hx top who hT (fun _ ht=>⟨hW,by rw [←hW,Xi ht];omega,by rw [←hW,Xi ht];omega⟩) goal att rest low lost away rest2 again _ hG hAt hR (fun _=>by rw [←hLo];exact KX _ _ _ _) hL hA hR2 (fun _=>by rw [←hAg];exact KX _ _ _ _) (fun _ ht=> ?_) (fun _ ht ha=> ?_) (fun _=>⟨fun ht=> ?_,fun ht ha=> ?_,fun ht ha=> ?_⟩)
  ·have :=KI x f rest (by rw [hrl];exact hx) (by rw [hrl];have :=hlt ht;omega)
   rw [hrl,hLo]at this
   exact this
  ·have hlt2:ye rest2 inn.length<ye inn inn.length:=by
    obtain⟨a,ha1,ha2⟩:=vS.1 ha
    rw [←hR2,←hA]
    refine Yu rfl ha1 ?_ ha2
    rw [←hL,yS ha1]at ha2
    unfold yP at ha2
    rw [Bool.and_eq_true,←hR,qB ha1,Bool.and_eq_true]at ha2
    exact ha2.1.1
   have :=KI x f rest2 (by rw [hr2l];exact hx) (by rw [hr2l];omega)
   rw [hr2l,hAg]at this
   exact this
  ·rw [hs,if_pos ht]
  ·rw [hs,if_neg (by omega),if_neg (by rw [ha];decide)]
  ·rw [hs,if_neg (by omega),if_pos ha]
def pkI (n v:Nat):List Int:=List.replicate v (-1)++List.replicate (n - v) 0
theorem zCM {n v:Nat}(h:v≤n):(pkI n v).length=n:=by unfold pkI;simp;omega
theorem pkI_0 (n:Nat):pkI n 0=List.replicate n 0:=by simp [pkI]
theorem pkI_n (n:Nat):pkI n n=noP n:=by simp [pkI,noP]
theorem zH4 {n v:Nat}(h:v<n):(pkI n v).set v (-1)=pkI n (v+1):=by
 unfold pkI
 rw [List.set_append_right _ _ (by simp),List.length_replicate,Nat.sub_self,show n - v=(n - (v+1))+1 from by omega,List.replicate_succ,List.set_cons_zero,List.replicate_succ',List.append_assoc]
 rfl
theorem zGJ {P:List (List Int)}{u m:Nat}{r:List Int}(hu:u<P.length)(hm:r.length≤m):List.take u ((dII P).set u D.hole)++ [D.lst 2 (dI (List.take m r))]++List.drop (u+1) ((dII P).set u D.hole)=dII (P.set u r):=by
 have e:dII (P.set u r)=(dII P).set u (D.lst 2 (dI r)):=by unfold dII;rw [List.map_set]
 have hl:u<(dII P).length:=by rw [QY];exact hu
 rw [e,List.take_of_length_le hm,List.take_set,List.set_eq_of_length_le (by simp;omega),List.drop_set_of_lt (by omega),List.set_eq_take_append_cons_drop,if_pos hl]
 simp
set_option maxRecDepth 20000 in
set_option maxHeartbeats 4000000 in
theorem zHn (g:Pa)(hok:qk g=true):FnT Try.prog tyT 103 [.agg (dPa g)] [0,2,1] [DII (xj g.a g.a.owner.length g.a.owner.length 0),DI (noP g.a.owner.length)]:=by
 obtain⟨hao,hpl,hpr⟩:=xg hok
 have hal:=yv hao
 have hrow:=fun v hv=>(xR hao (v:=v) hv).2.2
 have hset:=fun v j hv hj=>Zr (xR hao (v:=v) hv).2.2.2.2 (j:=j) hj
 obtain⟨n,hn⟩: ∃n,g.a.owner.length=n:=⟨_,rfl⟩
 rw [hn]at hal hpl hrow hset
 rw [hn]
 unfold dPa
 refine zIb (fn:=Try.f103) (rs:= [.cell 2 128]) zO zN Try.func103 (by kernel_rfl) rfl rfl (by rw [Try.ntmps103];exact Nat.le_of_ble_eq_true rfl) rfl (by simp only [szA,List.mem_cons,List.not_mem_nil,or_false,forall_eq_or_imp,forall_eq,VT.cells,szL];try decide) rfl ?_
 rw [Try.ntmps103]
 simp only [push_cast,↓zK,↓zJ,↓reduceIte,zA,zB,zC,zD,zE,zF,zG,zH,zI,reduceCtorEq]
 (try rw [hn])
 (try rw [hpl])
 (try rw [hal.2.2])
 refine zL fun K hK=> ?_
 refine zM zO zN [] rfl ?_
 all_goals simp only [push_cast,↓zK,↓zJ,↓reduceIte,zA,zB,zC,zD,zE,zF,zG,zH,zI,reduceCtorEq]
 all_goals repeat'(first|(apply zP<;>(intro hg;(try simp only [push_cast]at hg)))|apply And.intro|(intro hg;(try simp only [push_cast]at hg)))
 all_goals first|exact gA|(exact zQ (by omega))|skip
 all_goals first|(refine hK _ ?_;clear hK K)|(simp only [push_cast];done)
 refine zL fun K hK=> ?_
 refine zM zO zN [] rfl ?_
 all_goals simp only [push_cast,↓zK,↓zJ,↓reduceIte,zA,zB,zC,zD,zE,zF,zG,zH,zI,reduceCtorEq]
 all_goals repeat'(first|(apply zP<;>(intro hg;(try simp only [push_cast]at hg)))|apply And.intro|(intro hg;(try simp only [push_cast]at hg)))
 all_goals first|exact gA|(exact zQ (by omega))|skip
 all_goals first|(refine hK _ ?_;clear hK K)|(simp only [push_cast];done)
 refine zL fun K hK=> ?_
 refine xN true zO zN qb ?_ rfl ?_
 ·kernel_rfl
 intro E hE
 all_goals simp only [push_cast,↓zK,↓zJ,↓reduceIte,zA,zB,zC,zD,zE,zF,zG,zH,zI,reduceCtorEq]
 all_goals repeat'(first|(apply zP<;>(intro hg;(try simp only [push_cast]at hg)))|apply And.intro|(intro hg;(try simp only [push_cast]at hg)))
 all_goals first|exact gA|(refine hE _ _ ?_ ?_;kernel_rfl)|(exact zQ (by omega))|skip
 all_goals clear hE E
 all_goals first|(refine hK _ ?_;clear hK K)|(simp only [push_cast];done)
 refine zL fun K1 hK1=> ?_
 refine Vx [64,65,66] [.sl 2, .sl 2, .sl 22, .sl 22, .sl 2] 4 ?_
 simp only [push_cast,↓zK,↓zJ,↓reduceIte,zA,zB,zC,zD,zE,zF,zG,zH,zI,reduceCtorEq]
 refine zL fun K hK=> ?_
 refine zM zO zN [] rfl ?_
 all_goals simp only [push_cast,↓zK,↓zJ,↓reduceIte,zA,zB,zC,zD,zE,zF,zG,zH,zI,reduceCtorEq]
 all_goals repeat'(first|(apply zP<;>(intro hg;(try simp only [push_cast]at hg)))|apply And.intro|(intro hg;(try simp only [push_cast]at hg)))
 all_goals first|exact gA|(exact zQ (by omega))|skip
 all_goals first|(refine hK _ ?_;clear hK K)|(simp only [push_cast];done)
 refine zW ?_
 refine zi [4,5,6,7,24,25,26,27,28,29,30,31,32,33,34,35,36,37,38,39,40,41,42,43,44,45,46,47,48,49,50,51,52,53,54,55,56,57,58,59,60,61,62,63,64] [67,68] (fun(v:Nat)=> [(5, .int .i64 v),(4, .bp 4 0)]) (fun v=> [(4,[.sl 0 [] 0 n 2, .sl 2 [] 0 n 2, .sl 1 [] 0 n 22, .sl 67 [] 0 n 22, .sl 68 [] 0 n 2])]) (fun v=> [(67,⟨.ex,22,dII (xj g.a n v 0),none⟩),(68,⟨.ex,2,dI (pkI n v),none⟩)]) (fun v=>v≤n) (fun v=>n - v) 0 ?_ (by omega) ?_
 ·
  rw [uT,pkI_0]
  refine zY rfl ?_ ?_ ?_<;>simp only [zf,ze,push_cast,↓zK,↓zJ,↓reduceIte,zA,zB,zC,zD,zE,zF,zG,zH,zI,reduceCtorEq]
  all_goals(simp [dII,dI];done)
 ·rintro v hv KL0 hL0
  have hpv:=vE g.a n v 0
  have hpk:=zCM hv
  simp only [push_cast,↓zK,↓zJ,↓reduceIte,zA,zB,zC,zD,zE,zF,zG,zH,zI,reduceCtorEq]
  refine zL fun K2 hK2=> ?_
  refine zL fun K hK=> ?_
  refine zM zO zN [] rfl ?_
  all_goals simp only [push_cast,↓zK,↓zJ,↓reduceIte,zA,zB,zC,zD,zE,zF,zG,zH,zI,reduceCtorEq]
  all_goals repeat'(first|(apply zP<;>(intro hg;(try simp only [push_cast]at hg)))|apply And.intro|(intro hg;(try simp only [push_cast]at hg)))
  all_goals first|exact gA|(exact zQ (by omega))|skip
  all_goals first|(refine hK _ ?_;clear hK K)|(simp only [push_cast];done)
  refine zU rfl (fun hc=> ?_) (fun hc=> ?_)<;>(try simp only [push_cast]at hc)
  ·
   refine zV ?_
   (try simp only [zR,zS,reduceIte,zF]);refine hK2 _ ?_
   refine zL fun K3 hK3=> ?_
   refine zW ?_
   refine zL fun K hK=> ?_
   refine zM zO zN [] rfl ?_
   all_goals simp only [push_cast,↓zK,↓zJ,↓reduceIte,zA,zB,zC,zD,zE,zF,zG,zH,zI,reduceCtorEq]
   all_goals repeat'(first|(apply zP<;>(intro hg;(try simp only [push_cast]at hg)))|apply And.intro|(intro hg;(try simp only [push_cast]at hg)))
   all_goals first|exact gA|(exact zQ (by omega))|skip
   all_goals first|(refine hK _ ?_;clear hK K)|(simp only [push_cast];done)
   refine zL fun K hK=> ?_
   refine zM zO zN [] rfl ?_
   all_goals simp only [push_cast,↓zK,↓zJ,↓reduceIte,zA,zB,zC,zD,zE,zF,zG,zH,zI,reduceCtorEq]
   all_goals repeat'(first|(apply zP<;>(intro hg;(try simp only [push_cast]at hg)))|apply And.intro|(intro hg;(try simp only [push_cast]at hg)))
   all_goals first|exact gA|(exact zQ (by omega))|skip
   all_goals first|(refine hK _ ?_;clear hK K)|(simp only [push_cast];done)
   refine zW ?_
   refine zi [4,6,7,33,34,35,36,37,38,39,40,41,42,43,44,45,46,47,48,49,50,51,52,53,54,55,56,57,58,59,60,61,62,63,64] [67,68] (fun(i:Nat)=> [(6, .int .i64 i),(4, .bp 4 0)]) (fun i=> [(4,[.sl 0 [] 0 n 2, .sl 2 [] 0 n 2, .sl 1 [] 0 n 22, .sl 67 [] 0 n 22, .sl 68 [] 0 n 2])]) (fun i=> [(67,⟨.ex,22,dII (xj g.a n v i),none⟩),(68,⟨.ex,2,dI (pkI n (v+1)),none⟩)]) (fun i=>i≤(gl g.a.next v).length) (fun i=>(gl g.a.next v).length - i) 0 ?_ (by omega) ?_
   ·
    rw [zH4 (by omega)]
    refine zY rfl ?_ ?_ ?_<;>simp only [zf,ze,push_cast,↓zK,↓zJ,↓reduceIte,zA,zB,zC,zD,zE,zF,zG,zH,zI,reduceCtorEq]
   ·rintro i hi KL1 hL1
    have hpv:=vE g.a n v i
    have hpk:=zCM (n:=n) (v:=v+1) (by omega)
    simp only [push_cast,↓zK,↓zJ,↓reduceIte,zA,zB,zC,zD,zE,zF,zG,zH,zI,reduceCtorEq]
    refine zL fun K4 hK4=> ?_
    refine zL fun K hK=> ?_
    refine zM zO zN [] rfl ?_
    all_goals simp only [push_cast,↓zK,↓zJ,↓reduceIte,zA,zB,zC,zD,zE,zF,zG,zH,zI,reduceCtorEq]
    all_goals repeat'(first|(apply zP<;>(intro hg;(try simp only [push_cast]at hg)))|apply And.intro|(intro hg;(try simp only [push_cast]at hg)))
    all_goals first|exact gA|(exact zQ (by omega))|skip
    all_goals first|(refine hK _ ?_;clear hK K)|(simp only [push_cast];done)
    refine zU rfl (fun hc=> ?_) (fun hc=> ?_)<;>(try simp only [push_cast]at hc)
    ·
     refine zV ?_
     (try simp only [zR,zS,reduceIte,zF]);refine hK4 _ ?_
     refine zL fun K5 hK5=> ?_
     refine zW ?_
     refine zL fun K hK=> ?_
     refine zM zO zN [] rfl ?_
     all_goals simp only [push_cast,↓zK,↓zJ,↓reduceIte,zA,zB,zC,zD,zE,zF,zG,zH,zI,reduceCtorEq]
     all_goals repeat'(first|(apply zP<;>(intro hg;(try simp only [push_cast]at hg)))|apply And.intro|(intro hg;(try simp only [push_cast]at hg)))
     all_goals first|exact gA|(exact zQ (by omega))|skip
     all_goals first|(refine hK _ ?_;clear hK K)|(simp only [push_cast];done)
     have hrv:=(hrow v (by omega)).2.1
     have hst:=hset v i (by omega) (by omega)
     have hps:=uS hao (n:=n) (v:=v) (i:=i) (by omega) (by omega) (by omega)
     have hpe:(gl (xj g.a n v i) (gi (gl g.a.next v) i).toNat).length≤v+1:=by rw [JO (by omega)];exact zAn _ _ _ _
     refine xN true zO zN qb ?_ rfl ?_
     ·kernel_rfl
     intro E hE
     all_goals simp only [push_cast,↓zK,↓zJ,↓reduceIte,zA,zB,zC,zD,zE,zF,zG,zH,zI,reduceCtorEq]
     all_goals repeat'(first|(apply zP<;>(intro hg;(try simp only [push_cast]at hg)))|apply And.intro|(intro hg;(try simp only [push_cast]at hg)))
     all_goals first|exact gA|(refine hE _ _ ?_ ?_;kernel_rfl)|(rw [List.length_set,QY];omega)|(exact zQ (by omega))|skip
     all_goals clear hE E
     (try simp only [zR,zS,reduceIte,zF]);refine hK5 _ ?_
     refine zM zO zN [] rfl ?_
     all_goals simp only [push_cast,↓zK,↓zJ,↓reduceIte,zA,zB,zC,zD,zE,zF,zG,zH,zI,reduceCtorEq]
     all_goals repeat'(first|(apply zP<;>(intro hg;(try simp only [push_cast]at hg)))|apply And.intro|(intro hg;(try simp only [push_cast]at hg)))
     all_goals first|exact gA|(exact zQ (by omega))|skip
     refine hL1 _ ⟨i+1,by omega,by omega,?_⟩
     refine zY rfl ?_ ?_ ?_<;>simp only [zf,ze,push_cast,↓zK,↓zJ,↓reduceIte,zA,zB,zC,zD,zE,zF,zG,zH,zI,reduceCtorEq]
     all_goals(rw [zGJ (by omega) (by rw [List.length_append];exact Nat.le_refl _),hps])
    ·
     refine zk ?_
     have hii:i=(gl g.a.next v).length:=by omega
     subst hii
     rw [uR]
     (try simp only [zR,zS,reduceIte,zF]);refine hK3 _ ?_
     refine zM zO zN [] rfl ?_
     all_goals simp only [push_cast,↓zK,↓zJ,↓reduceIte,zA,zB,zC,zD,zE,zF,zG,zH,zI,reduceCtorEq]
     all_goals repeat'(first|(apply zP<;>(intro hg;(try simp only [push_cast]at hg)))|apply And.intro|(intro hg;(try simp only [push_cast]at hg)))
     all_goals first|exact gA|(exact zQ (by omega))|skip
     refine hL0 _ ⟨v+1,by omega,by omega,?_⟩
     refine zY rfl ?_ ?_ ?_<;>simp only [zf,ze,push_cast,↓zK,↓zJ,↓reduceIte,zA,zB,zC,zD,zE,zF,zG,zH,zI,reduceCtorEq]
  ·
   refine zk ?_
   have hvv:v=n:=by omega
   subst hvv
   (try simp only [zR,zS,reduceIte,zF]);refine hK1 _ ?_
   refine zL fun K hK=> ?_
   refine zM zO zN [32,33,34] rfl ?_
   simp only [push_cast,↓zK,↓zJ,↓reduceIte,zA,zB,zC,zD,zE,zF,zG,zH,zI,reduceCtorEq]
   repeat' apply And.intro
   all_goals try exact gB
   all_goals first|(refine hK _ ?_;clear hK K)|(simp only [push_cast];done)
   refine zX ?_
   (try simp only [zR,zS])
   refine⟨Or.inl rfl,?_⟩
   simp only [RetT,yE,yj,Vd,qY,ZM,push_cast,↓zK,↓zJ,↓reduceIte,zA,zB,zC,zD,zE,zF,zG,zH,zI,reduceCtorEq]
   rw [pkI_n]
   exact⟨⟨by omega,by omega,by omega⟩,by omega,rfl,by rw [kJ]⟩
set_option maxRecDepth 20000 in
set_option maxHeartbeats 4000000 in
theorem uI (b:Bool):Fn Try.prog tyT 105 [.c (.bool b)] [.c (.int .i64 (if b then 1 else 0))]:=by
 refine zw (fn:=Try.f105) (ts:= [2]) Try.func105 (by kernel_rfl) rfl rfl (by rw [Try.ntmps105];exact Nat.le_of_ble_eq_true rfl) rfl (by simp only [szA,List.mem_cons,List.not_mem_nil,or_false,forall_eq_or_imp,forall_eq,VT.cells,szL];try decide) ?_
 rw [Try.ntmps105]
 simp only [push_cast,↓zK,↓zJ,↓reduceIte,zA,zB,zC,zD,zE,zF,zG,zH,zI,reduceCtorEq]
 refine zL fun K hK=> ?_
 refine zM zO zN [] rfl ?_
 simp only [push_cast,↓zK,↓zJ,↓reduceIte,zA,zB,zC,zD,zE,zF,zG,zH,zI,reduceCtorEq]
 repeat' apply And.intro
 all_goals try exact gB
 all_goals first|(refine hK _ ?_;clear hK K)|(simp only [push_cast];done)
 refine zL fun K1 hK1=> ?_
 refine zL fun K hK=> ?_
 refine zM zO zN [] rfl ?_
 simp only [push_cast,↓zK,↓zJ,↓reduceIte,zA,zB,zC,zD,zE,zF,zG,zH,zI,reduceCtorEq]
 repeat' apply And.intro
 all_goals try exact gB
 all_goals first|(refine hK _ ?_;clear hK K)|(simp only [push_cast];done)
 refine zU rfl (fun hc=> ?_) (fun hc=> ?_)<;>(try simp only [push_cast]at hc)
 ·
  refine zL fun K hK=> ?_
  refine zM zO zN [] rfl ?_
  simp only [push_cast,↓zK,↓zJ,↓reduceIte,zA,zB,zC,zD,zE,zF,zG,zH,zI,reduceCtorEq]
  repeat' apply And.intro
  all_goals try exact gB
  all_goals first|(refine hK _ ?_;clear hK K)|(simp only [push_cast];done)
  refine zX ?_
  (try simp only [zR,zS])
  refine⟨Or.inl rfl,?_⟩
  simp only [zd,push_cast,↓zK,↓zJ,↓reduceIte,zA,zB,zC,zD,zE,zF,zG,zH,zI,reduceCtorEq]
  rw [show b=true from by with_reducible assumption];rfl
 ·
  refine zV ?_
  (try simp only [zR,zS,reduceIte,zF]);refine hK1 _ ?_
  refine zL fun K hK=> ?_
  refine zM zO zN [] rfl ?_
  simp only [push_cast,↓zK,↓zJ,↓reduceIte,zA,zB,zC,zD,zE,zF,zG,zH,zI,reduceCtorEq]
  repeat' apply And.intro
  all_goals try exact gB
  all_goals first|(refine hK _ ?_;clear hK K)|(simp only [push_cast];done)
  refine zX ?_
  (try simp only [zR,zS])
  refine⟨Or.inl rfl,?_⟩
  simp only [zd,push_cast,↓zK,↓zJ,↓reduceIte,zA,zB,zC,zD,zE,zF,zG,zH,zI,reduceCtorEq]
  rw [show b=false from by with_reducible assumption];rfl
theorem zDS {s:List Bool}{k:Nat}(h:k<s.length):(s.take (k+1)).map Zw=(s.take k).map Zw++ [Zw (gb s k)]:=by
 rw [List.take_add_one,List.map_append]
 unfold gb
 rw [List.getD_eq_getElem?_getD,List.getElem?_eq_getElem h]
 rfl
set_option maxRecDepth 20000 in
set_option maxHeartbeats 4000000 in
theorem zFj (g:Pa)(hok:qk g=true):Fn Try.prog tyT 53 [.agg (dPa g)] [.c (DI (QF g))]:=by
 obtain⟨hao,hpl,hpr⟩:=xg hok
 have hal:=yv hao
 have hxo:=zEL hok (kJ g.a.owner.length)
 have hOf:=zHn g hok
 have hAl:=zFg g.a.owner.length hal.2.1
 have hWn:=KI (l7G g (noP g.a.owner.length)) (g.a.owner.length+1) (qc g.a.owner.length) (by rw [Qt];exact hxo) (by rw [Qt];exact Nat.lt_succ_of_le (VB _ _))
 rw [Qt]at hWn
 have hbl:=KY g
 have hw9:yU (l7G g (noP g.a.owner.length)) g.a.owner.length (g.a.owner.length+1) (qc g.a.owner.length)=Wl g:=rfl
 rw [hw9,show qc g.a.owner.length=qc g.prio.length from by rw [hpl]]at hWn
 rw [←hpl]at hAl
 unfold QF
 generalize Wl g=win at hWn hbl⊢
 unfold dL7 l7G qc at hWn
 dsimp only at hWn
 unfold dPa at hOf⊢
 refine zw (fn:=Try.f53) (ts:= [2]) Try.func53 (by kernel_rfl) rfl rfl (by rw [Try.ntmps53];exact Nat.le_of_ble_eq_true rfl) rfl (by simp only [szA,List.mem_cons,List.not_mem_nil,or_false,forall_eq_or_imp,forall_eq,VT.cells,szL];try decide) ?_
 rw [Try.ntmps53]
 simp only [push_cast,↓zK,↓zJ,↓reduceIte,zA,zB,zC,zD,zE,zF,zG,zH,zI,reduceCtorEq]
 refine zL fun K hK=> ?_
 refine zM zO zN [] rfl ?_
 simp only [push_cast,↓zK,↓zJ,↓reduceIte,zA,zB,zC,zD,zE,zF,zG,zH,zI,reduceCtorEq]
 repeat' apply And.intro
 all_goals try exact gB
 all_goals first|(refine hK _ ?_;clear hK K)|(simp only [push_cast];done)
 refine zL fun K hK=> ?_
 refine Uk false (uq Try.prog tyT) [7] (fun _ _ _ h=>zDl h) zO zN qb ?_ rfl ?_
 ·kernel_rfl
 intro E hE
 all_goals refine KL 2 (by decide) fun K9 hK9=> ?_
 all_goals simp only [push_cast,↓zK,↓zJ,↓reduceIte,zA,zB,zC,zD,zE,zF,zG,zH,zI,reduceCtorEq]
 all_goals repeat'(first|(apply zP<;>(intro hg;(try simp only [push_cast]at hg)))|(refine⟨_,_,hOf,?_⟩;(try simp only [push_cast,↓zK,↓zJ,↓reduceIte,zA,zB,zC,zD,zE,zF,zG,zH,zI,reduceCtorEq]))|apply And.intro|(intro hg;(try simp only [push_cast]at hg)))
 all_goals try exact gA
 all_goals first|(refine hK9 _ _ ?_;clear hK9 K9)|(simp only [push_cast];done)
 all_goals refine KL 4 (by decide) fun K9 hK9=> ?_
 all_goals simp only [push_cast,↓zK,↓zJ,↓reduceIte,zA,zB,zC,zD,zE,zF,zG,zH,zI,reduceCtorEq]
 all_goals repeat'(first|(apply zP<;>(intro hg;(try simp only [push_cast]at hg)))|(refine⟨_,hAl,?_⟩;simp only [push_cast,↓zK,↓zJ,↓reduceIte,zA,zB,zC,zD,zE,zF,zG,zH,zI,reduceCtorEq])|apply And.intro|(intro hg;(try simp only [push_cast]at hg)))
 all_goals try exact gA
 all_goals first|(refine hK9 _ _ ?_;clear hK9 K9)|(simp only [push_cast];done)
 all_goals refine KL 1 (by decide) fun K9 hK9=> ?_
 all_goals simp only [push_cast,↓zK,↓zJ,↓reduceIte,zA,zB,zC,zD,zE,zF,zG,zH,zI,reduceCtorEq]
 all_goals repeat'(first|(apply zP<;>(intro hg;(try simp only [push_cast]at hg)))|(refine⟨_,hWn,?_⟩;simp only [push_cast,↓zK,↓zJ,↓reduceIte,zA,zB,zC,zD,zE,zF,zG,zH,zI,reduceCtorEq])|apply And.intro|(intro hg;(try simp only [push_cast]at hg)))
 all_goals try exact gA
 all_goals first|(refine hK9 _ _ ?_;clear hK9 K9)|(simp only [push_cast];done)
 all_goals simp only [push_cast,↓zK,↓zJ,↓reduceIte,zA,zB,zC,zD,zE,zF,zG,zH,zI,reduceCtorEq]
 all_goals repeat'(first|(apply zP<;>(intro hg;(try simp only [push_cast]at hg)))|(refine⟨_,_,hOf,?_⟩;(try simp only [push_cast,↓zK,↓zJ,↓reduceIte,zA,zB,zC,zD,zE,zF,zG,zH,zI,reduceCtorEq]))|(refine⟨_,hAl,?_⟩;simp only [push_cast,↓zK,↓zJ,↓reduceIte,zA,zB,zC,zD,zE,zF,zG,zH,zI,reduceCtorEq])|(refine⟨_,hWn,?_⟩;simp only [push_cast,↓zK,↓zJ,↓reduceIte,zA,zB,zC,zD,zE,zF,zG,zH,zI,reduceCtorEq])|apply And.intro|(intro hg;(try simp only [push_cast]at hg)))
 all_goals first|exact gA|(refine hE _ _ ?_ ?_;kernel_rfl)|skip
 all_goals clear hE E
 all_goals first|(refine hK _ ?_;clear hK K)|(simp only [push_cast];done)
 refine zL fun K hK=> ?_
 refine zM zO zN [] rfl ?_
 simp only [push_cast,↓zK,↓zJ,↓reduceIte,zA,zB,zC,zD,zE,zF,zG,zH,zI,reduceCtorEq]
 repeat' apply And.intro
 all_goals try exact gB
 all_goals first|(refine hK _ ?_;clear hK K)|(simp only [push_cast];done)
 refine zL fun K1 hK1=> ?_
 refine zL fun K hK=> ?_
 refine zM zO zN [] rfl ?_
 simp only [push_cast,↓zK,↓zJ,↓reduceIte,zA,zB,zC,zD,zE,zF,zG,zH,zI,reduceCtorEq]
 repeat' apply And.intro
 all_goals try exact gB
 all_goals first|(refine hK _ ?_;clear hK K)|(simp only [push_cast];done)
 refine zW ?_
 refine zi [4,5,14,15,16,17,18,19,20,21,22,23,24,25,26,27,28] [64] (fun(k:Nat)=> [(5, .int .i64 k),(4, .sl 64 [] 0 k 2)]) (fun k=> []) (fun k=> [(64,⟨.ex,2,dI ((win.take k).map Zw),none⟩)]) (fun k=>k≤win.length) (fun k=>win.length - k) 0 ?_ (by omega) ?_
 ·
  rw [show dI ((win.take 0).map Zw)= []from rfl]
  refine zY rfl ?_ ?_ ?_<;>simp only [zf,ze,push_cast,↓zK,↓zJ,↓reduceIte,zA,zB,zC,zD,zE,zF,zG,zH,zI,reduceCtorEq]
 ·rintro k hk KL0 hL0
  have hfl:((win.take k).map Zw).length=k:=by rw [List.length_map,List.length_take];omega
  have hfn:Zw (gb win k)=1 - (if gb win k=true then 1 else 0):=by cases gb win k<;>rfl
  simp only [push_cast,↓zK,↓zJ,↓reduceIte,zA,zB,zC,zD,zE,zF,zG,zH,zI,reduceCtorEq]
  refine zL fun K2 hK2=> ?_
  refine zL fun K hK=> ?_
  refine zM zO zN [] rfl ?_
  simp only [push_cast,↓zK,↓zJ,↓reduceIte,zA,zB,zC,zD,zE,zF,zG,zH,zI,reduceCtorEq]
  repeat' apply And.intro
  all_goals try exact gB
  all_goals first|(refine hK _ ?_;clear hK K)|(simp only [push_cast];done)
  refine zU rfl (fun hc=> ?_) (fun hc=> ?_)<;>(try simp only [push_cast]at hc)
  ·
   refine zV ?_
   (try simp only [zR,zS,reduceIte,zF]);refine hK2 _ ?_
   refine zL fun K3 hK3=> ?_
   refine zW ?_
   refine zM zO zN [] rfl ?_
   all_goals refine zo 6 fun K9 hK9=> ?_
   all_goals simp only [push_cast,↓zK,↓zJ,↓reduceIte,zA,zB,zC,zD,zE,zF,zG,zH,zI,reduceCtorEq]
   all_goals repeat'(first|(apply zP<;>(intro hg;(try simp only [push_cast]at hg)))|(refine⟨_,uI _,?_⟩;simp only [push_cast,↓zK,↓zJ,↓reduceIte,zA,zB,zC,zD,zE,zF,zG,zH,zI,reduceCtorEq])|apply And.intro|(intro hg;(try simp only [push_cast]at hg)))
   all_goals try exact gA
   all_goals first|(refine hK9 _ ?_;clear hK9 K9)|(simp only [push_cast];done)
   all_goals simp only [push_cast,↓zK,↓zJ,↓reduceIte,zA,zB,zC,zD,zE,zF,zG,zH,zI,reduceCtorEq]
   all_goals repeat'(first|(apply zP<;>(intro hg;(try simp only [push_cast]at hg)))|(refine⟨_,uI _,?_⟩;simp only [push_cast,↓zK,↓zJ,↓reduceIte,zA,zB,zC,zD,zE,zF,zG,zH,zI,reduceCtorEq])|apply And.intro|(intro hg;(try simp only [push_cast]at hg)))
   all_goals try exact gA
   (try simp only [zR,zS,reduceIte,zF]);refine hK3 _ ?_
   refine zM zO zN [] rfl ?_
   simp only [push_cast,↓zK,↓zJ,↓reduceIte,zA,zB,zC,zD,zE,zF,zG,zH,zI,reduceCtorEq]
   repeat' apply And.intro
   all_goals try exact gB
   refine hL0 _ ⟨k+1,by omega,by omega,?_⟩
   (try rw [List.take_of_length_le (l:=(win.take k).map Zw) (by omega)])
   rw [zDS (by omega),hfn]
   refine zY rfl ?_ ?_ ?_<;>simp only [zf,ze,push_cast,↓zK,↓zJ,↓reduceIte,zA,zB,zC,zD,zE,zF,zG,zH,zI,reduceCtorEq]
   all_goals first|rfl|(simp;done)
  ·
   refine zk ?_
   have hkk:k=win.length:=by omega
   subst hkk
   rw [List.take_length]
   (try simp only [zR,zS,reduceIte,zF]);refine hK1 _ ?_
   refine zL fun K hK=> ?_
   refine zM zO zN [] rfl ?_
   simp only [push_cast,↓zK,↓zJ,↓reduceIte,zA,zB,zC,zD,zE,zF,zG,zH,zI,reduceCtorEq]
   repeat' apply And.intro
   all_goals try exact gB
   all_goals first|(refine hK _ ?_;clear hK K)|(simp only [push_cast];done)
   refine zX ?_
   (try simp only [zR,zS])
   refine⟨Or.inl rfl,?_⟩
   simp only [zd,push_cast,↓zK,↓zJ,↓reduceIte,zA,zB,zC,zD,zE,zF,zG,zH,zI,reduceCtorEq]
   all_goals first|rfl|exact⟨rfl,by simp⟩|(simp;done)
theorem zFs :min 1 64=1:=rfl
theorem pow_1 :(2:Int)^1=2:=rfl
attribute [push_cast] zFs pow_1
theorem zA4 {xs:List Int}{k:Nat}(h:k<xs.length):xs.take (k+1)=xs.take k++ [gi xs k]:=by rw [List.take_add_one,vW h];rfl
theorem zEA {xs ys:List Int}(hl:xs.length=ys.length)(h: ∀k,k<xs.length→gi xs k=gi ys k):xs=ys:=by
 refine List.ext_getElem? fun k=> ?_
 rcases Nat.lt_or_ge k xs.length with hk|hk
 ·rw [vW hk,vW (xs:=ys) (by omega),h k hk]
 ·rw [List.getElem?_eq_none hk,List.getElem?_eq_none (by omega)]
theorem zGL {b:List Int}{n:Int}(hs:yx b n=true): ∀i j,i<j→j<b.length→gi b i<gi b j:=by
 intro i j hij
 induction j with
 |zero=>omega
 |succ j ih=>
  intro hj
  have h1:=vI hs hj
  unfold qH at h1
  have h1:=of_decide_eq_true h1
  simp at h1
  rcases Nat.lt_or_ge i j with h2|h2
  ·have :=ih h2 (by omega);omega
  ·have :i=j:=by omega
   subst this;omega
def QA (ss:List (List Int))(s:List Int):Bool:=ss.any fun x=>decide (x=s)
set_option maxRecDepth 20000 in
set_option maxHeartbeats 4000000 in
theorem zE4 (s t:List Int)(h1:s.length≤1048576)(h2:t.length≤1048576):Fn Try.prog tyT 173 [.c (DI s), .c (DI t)] [.c (.bool (decide (s=t)))]:=by
 refine zw (fn:=Try.f173) (ts:= [4]) Try.func173 (by kernel_rfl) rfl rfl (by rw [Try.ntmps173];exact Nat.le_of_ble_eq_true rfl) rfl (by simp only [szA,List.mem_cons,List.not_mem_nil,or_false,forall_eq_or_imp,forall_eq,VT.cells,szL];try decide) ?_
 rw [Try.ntmps173]
 simp only [push_cast,↓zK,↓zJ,↓reduceIte,zA,zB,zC,zD,zE,zF,zG,zH,zI,reduceCtorEq]
 refine zL fun K hK=> ?_
 refine zM zO zN [] rfl ?_
 simp only [push_cast,↓zK,↓zJ,↓reduceIte,zA,zB,zC,zD,zE,zF,zG,zH,zI,reduceCtorEq]
 repeat' apply And.intro
 all_goals try exact gB
 all_goals first|(refine hK _ ?_;clear hK K)|(simp only [push_cast];done)
 refine zL fun K1 hK1=> ?_
 refine zL fun K hK=> ?_
 refine zM zO zN [] rfl ?_
 simp only [push_cast,↓zK,↓zJ,↓reduceIte,zA,zB,zC,zD,zE,zF,zG,zH,zI,reduceCtorEq]
 repeat' apply And.intro
 all_goals try exact gB
 all_goals first|(refine hK _ ?_;clear hK K)|(simp only [push_cast];done)
 refine zU rfl (fun hc=> ?_) (fun hc=> ?_)<;>(try simp only [push_cast]at hc)
 ·
  refine zL fun K hK=> ?_
  refine zM zO zN [] rfl ?_
  simp only [push_cast,↓zK,↓zJ,↓reduceIte,zA,zB,zC,zD,zE,zF,zG,zH,zI,reduceCtorEq]
  repeat' apply And.intro
  all_goals try exact gB
  all_goals first|(refine hK _ ?_;clear hK K)|(simp only [push_cast];done)
  refine zX ?_
  (try simp only [zR,zS])
  refine⟨Or.inl rfl,?_⟩
  simp only [zd,push_cast,↓zK,↓zJ,↓reduceIte,zA,zB,zC,zD,zE,zF,zG,zH,zI,reduceCtorEq]
  exact(decide_eq_false (fun e=>by subst e;omega)).symm
 ·
  refine zV ?_
  (try simp only [zR,zS,reduceIte,zF]);refine hK1 _ ?_
  refine zL fun K2 hK2=> ?_
  refine zL fun K hK=> ?_
  refine zM zO zN [] rfl ?_
  simp only [push_cast,↓zK,↓zJ,↓reduceIte,zA,zB,zC,zD,zE,zF,zG,zH,zI,reduceCtorEq]
  repeat' apply And.intro
  all_goals try exact gB
  all_goals first|(refine hK _ ?_;clear hK K)|(simp only [push_cast];done)
  refine zW ?_
  refine zi [4,5,13,14,15,16,17,18,19,20,21,22,23,24,25] [] (fun(k:Nat)=> [(13, .int .i64 k)]) (fun k=> []) (fun k=> []) (fun k=>k≤s.length∧∀j,j<k→gi s j=gi t j) (fun k=>s.length - k) 0 ?_ ⟨by omega,fun j hj=>by omega⟩ ?_
  ·
   refine zY rfl ?_ ?_ ?_<;>simp only [zf,ze,push_cast,↓zK,↓zJ,↓reduceIte,zA,zB,zC,zD,zE,zF,zG,zH,zI,reduceCtorEq]
  ·rintro k ⟨hk,hall⟩ KL0 hL0
   simp only [push_cast,↓zK,↓zJ,↓reduceIte,zA,zB,zC,zD,zE,zF,zG,zH,zI,reduceCtorEq]
   refine zL fun K hK=> ?_
   refine zM zO zN [] rfl ?_
   simp only [push_cast,↓zK,↓zJ,↓reduceIte,zA,zB,zC,zD,zE,zF,zG,zH,zI,reduceCtorEq]
   repeat' apply And.intro
   all_goals try exact gB
   all_goals first|(refine hK _ ?_;clear hK K)|(simp only [push_cast];done)
   refine zL fun K3 hK3=> ?_
   refine zU rfl (fun hc=> ?_) (fun hc=> ?_)<;>(try simp only [push_cast]at hc)
   ·
    refine zV ?_
    (try simp only [zR,zS,reduceIte,zF]);refine hK3 _ ?_
    refine zL fun K4 hK4=> ?_
    refine zW ?_
    refine zL fun K hK=> ?_
    refine zM zO zN [] rfl ?_
    simp only [push_cast,↓zK,↓zJ,↓reduceIte,zA,zB,zC,zD,zE,zF,zG,zH,zI,reduceCtorEq]
    repeat' apply And.intro
    all_goals try exact gB
    all_goals first|(refine hK _ ?_;clear hK K)|(simp only [push_cast];done)
    refine zL fun K hK=> ?_
    refine qV false zO zN qb ?_ rfl ?_
    ·kernel_rfl
    intro C hC
    simp only [push_cast,↓zK,↓zJ,↓reduceIte,zA,zB,zC,zD,zE,zF,zG,zH,zI,reduceCtorEq]
    repeat' apply And.intro
    all_goals first|omega|with_reducible assumption|(refine hC _ ?_;kernel_rfl)|(simp only [List.length_set,List.length_append,List.length_replicate,List.length_cons,List.length_nil];omega)|skip
    all_goals first|(refine hK _ ?_;clear hC C hK K)|(simp only [push_cast];done)
    refine zU rfl (fun hc=> ?_) (fun hc=> ?_)<;>(try simp only [push_cast]at hc)
    ·
     refine zL fun K hK=> ?_
     refine zM zO zN [] rfl ?_
     simp only [push_cast,↓zK,↓zJ,↓reduceIte,zA,zB,zC,zD,zE,zF,zG,zH,zI,reduceCtorEq]
     repeat' apply And.intro
     all_goals try exact gB
     all_goals first|(refine hK _ ?_;clear hK K)|(simp only [push_cast];done)
     refine zX ?_
     (try simp only [zR,zS])
     refine⟨Or.inl rfl,?_⟩
     simp only [zd,push_cast,↓zK,↓zJ,↓reduceIte,zA,zB,zC,zD,zE,zF,zG,zH,zI,reduceCtorEq]
     exact(decide_eq_false (fun e=>by subst e;omega)).symm
    ·
     refine zV ?_
     (try simp only [zR,zS,reduceIte,zF]);refine hK4 _ ?_
     refine zM zO zN [] rfl ?_
     simp only [push_cast,↓zK,↓zJ,↓reduceIte,zA,zB,zC,zD,zE,zF,zG,zH,zI,reduceCtorEq]
     repeat' apply And.intro
     all_goals try exact gB
     refine hL0 _ ⟨k+1,⟨by omega,fun j hj=>(by
       by_cases hjk:j=k
       ·subst hjk;omega
       ·exact hall j (by omega))⟩,by omega,?_⟩
     refine zY rfl ?_ ?_ ?_<;>simp only [zf,ze,push_cast,↓zK,↓zJ,↓reduceIte,zA,zB,zC,zD,zE,zF,zG,zH,zI,reduceCtorEq]
   ·
    refine zk ?_
    (try simp only [zR,zS,reduceIte,zF]);refine hK2 _ ?_
    refine zL fun K hK=> ?_
    refine zM zO zN [] rfl ?_
    simp only [push_cast,↓zK,↓zJ,↓reduceIte,zA,zB,zC,zD,zE,zF,zG,zH,zI,reduceCtorEq]
    repeat' apply And.intro
    all_goals try exact gB
    all_goals first|(refine hK _ ?_;clear hK K)|(simp only [push_cast];done)
    refine zX ?_
    (try simp only [zR,zS])
    refine⟨Or.inl rfl,?_⟩
    simp only [zd,push_cast,↓zK,↓zJ,↓reduceIte,zA,zB,zC,zD,zE,zF,zG,zH,zI,reduceCtorEq]
    exact(decide_eq_true (zEA (by omega) fun j hj=>hall j (by omega))).symm
set_option maxRecDepth 20000 in
set_option maxHeartbeats 4000000 in
theorem QW (s t:List Int)(h1:s.length≤1048576)(h2:t.length≤1048576):Fn Try.prog tyT 141 [.c (DI s), .c (DI t)] [.c (.bool (decide (s=t)))]:=by
 refine zw (fn:=Try.f141) (ts:= [4]) Try.func141 (by kernel_rfl) rfl rfl (by rw [Try.ntmps141];exact Nat.le_of_ble_eq_true rfl) rfl (by simp only [szA,List.mem_cons,List.not_mem_nil,or_false,forall_eq_or_imp,forall_eq,VT.cells,szL];try decide) ?_
 rw [Try.ntmps141]
 simp only [push_cast,↓zK,↓zJ,↓reduceIte,zA,zB,zC,zD,zE,zF,zG,zH,zI,reduceCtorEq]
 refine zL fun K hK=> ?_
 refine zM zO zN [] rfl ?_
 simp only [push_cast,↓zK,↓zJ,↓reduceIte,zA,zB,zC,zD,zE,zF,zG,zH,zI,reduceCtorEq]
 repeat' apply And.intro
 all_goals try exact gB
 all_goals first|(refine hK _ ?_;clear hK K)|(simp only [push_cast];done)
 refine zL fun K1 hK1=> ?_
 refine zL fun K hK=> ?_
 refine zM zO zN [] rfl ?_
 simp only [push_cast,↓zK,↓zJ,↓reduceIte,zA,zB,zC,zD,zE,zF,zG,zH,zI,reduceCtorEq]
 repeat' apply And.intro
 all_goals try exact gB
 all_goals first|(refine hK _ ?_;clear hK K)|(simp only [push_cast];done)
 refine zU rfl (fun hc=> ?_) (fun hc=> ?_)<;>(try simp only [push_cast]at hc)
 ·
  refine zL fun K hK=> ?_
  refine zM zO zN [] rfl ?_
  simp only [push_cast,↓zK,↓zJ,↓reduceIte,zA,zB,zC,zD,zE,zF,zG,zH,zI,reduceCtorEq]
  repeat' apply And.intro
  all_goals try exact gB
  all_goals first|(refine hK _ ?_;clear hK K)|(simp only [push_cast];done)
  refine zX ?_
  (try simp only [zR,zS])
  refine⟨Or.inl rfl,?_⟩
  simp only [zd,push_cast,↓zK,↓zJ,↓reduceIte,zA,zB,zC,zD,zE,zF,zG,zH,zI,reduceCtorEq]
  exact(decide_eq_false (fun e=>by subst e;omega)).symm
 ·
  refine zV ?_
  (try simp only [zR,zS,reduceIte,zF]);refine hK1 _ ?_
  refine zL fun K2 hK2=> ?_
  refine zL fun K hK=> ?_
  refine zM zO zN [] rfl ?_
  simp only [push_cast,↓zK,↓zJ,↓reduceIte,zA,zB,zC,zD,zE,zF,zG,zH,zI,reduceCtorEq]
  repeat' apply And.intro
  all_goals try exact gB
  all_goals first|(refine hK _ ?_;clear hK K)|(simp only [push_cast];done)
  refine zW ?_
  refine zi [4,5,11,12,13,14,15,16,17,18,19,20,21,22,23,24,25] [] (fun(k:Nat)=> [(5, .int .i64 k)]) (fun k=> []) (fun k=> []) (fun k=>k≤s.length∧∀j,j<k→gi s j=gi t j) (fun k=>s.length - k) 0 ?_ ⟨by omega,fun j hj=>by omega⟩ ?_
  ·
   refine zY rfl ?_ ?_ ?_<;>simp only [zf,ze,push_cast,↓zK,↓zJ,↓reduceIte,zA,zB,zC,zD,zE,zF,zG,zH,zI,reduceCtorEq]
  ·rintro k ⟨hk,hall⟩ KL0 hL0
   simp only [push_cast,↓zK,↓zJ,↓reduceIte,zA,zB,zC,zD,zE,zF,zG,zH,zI,reduceCtorEq]
   refine zL fun K3 hK3=> ?_
   refine zL fun K hK=> ?_
   refine zM zO zN [] rfl ?_
   simp only [push_cast,↓zK,↓zJ,↓reduceIte,zA,zB,zC,zD,zE,zF,zG,zH,zI,reduceCtorEq]
   repeat' apply And.intro
   all_goals try exact gB
   all_goals first|(refine hK _ ?_;clear hK K)|(simp only [push_cast];done)
   refine zU rfl (fun hc=> ?_) (fun hc=> ?_)<;>(try simp only [push_cast]at hc)
   ·
    refine zV ?_
    (try simp only [zR,zS,reduceIte,zF]);refine hK3 _ ?_
    refine zL fun K4 hK4=> ?_
    refine zW ?_
    refine zL fun K hK=> ?_
    refine qV false zO zN qb ?_ rfl ?_
    ·kernel_rfl
    intro C hC
    simp only [push_cast,↓zK,↓zJ,↓reduceIte,zA,zB,zC,zD,zE,zF,zG,zH,zI,reduceCtorEq]
    repeat' apply And.intro
    all_goals first|omega|with_reducible assumption|(refine hC _ ?_;kernel_rfl)|(simp only [List.length_set,List.length_append,List.length_replicate,List.length_cons,List.length_nil];omega)|skip
    all_goals first|(refine hK _ ?_;clear hC C hK K)|(simp only [push_cast];done)
    refine zU rfl (fun hc=> ?_) (fun hc=> ?_)<;>(try simp only [push_cast]at hc)
    ·
     refine zL fun K hK=> ?_
     refine zM zO zN [] rfl ?_
     simp only [push_cast,↓zK,↓zJ,↓reduceIte,zA,zB,zC,zD,zE,zF,zG,zH,zI,reduceCtorEq]
     repeat' apply And.intro
     all_goals try exact gB
     all_goals first|(refine hK _ ?_;clear hK K)|(simp only [push_cast];done)
     refine zX ?_
     (try simp only [zR,zS])
     refine⟨Or.inl rfl,?_⟩
     simp only [zd,push_cast,↓zK,↓zJ,↓reduceIte,zA,zB,zC,zD,zE,zF,zG,zH,zI,reduceCtorEq]
     exact(decide_eq_false (fun e=>by subst e;omega)).symm
    ·
     refine zV ?_
     (try simp only [zR,zS,reduceIte,zF]);refine hK4 _ ?_
     refine zM zO zN [] rfl ?_
     simp only [push_cast,↓zK,↓zJ,↓reduceIte,zA,zB,zC,zD,zE,zF,zG,zH,zI,reduceCtorEq]
     repeat' apply And.intro
     all_goals try exact gB
     refine hL0 _ ⟨k+1,⟨by omega,fun j hj=>(by
       by_cases hjk:j=k
       ·subst hjk;omega
       ·exact hall j (by omega))⟩,by omega,?_⟩
     refine zY rfl ?_ ?_ ?_<;>simp only [zf,ze,push_cast,↓zK,↓zJ,↓reduceIte,zA,zB,zC,zD,zE,zF,zG,zH,zI,reduceCtorEq]
   ·
    refine zk ?_
    (try simp only [zR,zS,reduceIte,zF]);refine hK2 _ ?_
    refine zL fun K hK=> ?_
    refine zM zO zN [] rfl ?_
    simp only [push_cast,↓zK,↓zJ,↓reduceIte,zA,zB,zC,zD,zE,zF,zG,zH,zI,reduceCtorEq]
    repeat' apply And.intro
    all_goals try exact gB
    all_goals first|(refine hK _ ?_;clear hK K)|(simp only [push_cast];done)
    refine zX ?_
    (try simp only [zR,zS])
    refine⟨Or.inl rfl,?_⟩
    simp only [zd,push_cast,↓zK,↓zJ,↓reduceIte,zA,zB,zC,zD,zE,zF,zG,zH,zI,reduceCtorEq]
    exact(decide_eq_true (zEA (by omega) fun j hj=>hall j (by omega))).symm
def lessI (a b:List Int):List Int:=a.filter fun x=> !yD b x
def famAt (f:Fm)(n:Int)(i:Nat):Bool:=yx (gl f.sets i) n&&(decide ((lessI (gl f.sets i) f.names).length=0)&& !QA (f.sets.take i) (gl f.sets i))
def famI (f:Fm)(n:Int):Bool:=yx f.names n&&(decide (f.names.length≤4∧f.sets.length≤16)&&YO f.sets.length (famAt f n))
theorem zEq {b:List Int}{n:Int}(hs:yx b n=true):b.Pairwise (· < ·):=by
 rw [List.pairwise_iff_getElem]
 intro i j hi hj hij
 have :=zGL hs i j hij hj
 have e: ∀k (hk:k<b.length),b[k]=gi b k:=fun k hk=>by have :=vW hk;rw [List.getElem?_eq_getElem hk]at this;exact Option.some.inj this
 rw [e i hi,e j hj]
 exact this
def Zb (a b:List Int):List Int:=a.filter fun x=>yD b x
theorem zC4 {f:Fm}{n:Int}(h:famI f n=true):yx f.names n=true∧f.names.length≤4∧f.sets.length≤16:=by
 unfold famI at h
 rw [Bool.and_eq_true,Bool.and_eq_true,decide_eq_true_eq]at h
 exact⟨h.1,h.2.1⟩
end Go.Proofs.Ythepmdkpbjfdcaa
