/- The recursive solver of the reference: one step of its walk -/
import Derived.Test.YtdbecmmeifdafaaB8zbr
import Derived.Test.YtdbecmmeifdafaaGWzbr
namespace Go.Proofs.Ytdbecmmeifdafaa
open Nat renaming reduceMod → zA, reduceMul → zB, reduceDiv → zC, reduceAdd → zD, reduceSub → zE, reduceEqDiff → zF, reduceBEq → zG, reduceLT → zH, reduceLeDiff → zI
open Go.RowKit
set_option linter.unusedVariables false
set_option linter.unusedSimpArgs false
set_option maxRecDepth 20000 in
set_option maxHeartbeats 8000000 in
theorem zDw (x:L7)(inn:List Bool)(hx:x.Ok inn.length)(top who:Int)(hT:yg x inn inn.length=top)(hW: ∀_:Unit,0≤top→Int.tmod top 2=who∧0≤who∧who≤1)(goal att rest low lost away rest2 again res:List Bool)(hG:yu inn.length (qG x inn top)=goal)(hA:xt x inn.length inn who goal=att)(hR:xT inn att=rest)(hLo: ∀_:Unit,low.length=inn.length)(hL:yu inn.length (yx rest low who)=lost)(hA2:xt x inn.length inn (1 - who) lost=away)(hR2:xT inn away=rest2)(hLa: ∀_:Unit,again.length=inn.length)(hF1: ∀_:Unit,0≤top→Fn Try.prog tyT 147 [.agg (dL7 x), .c (.lst 4 (dB rest))] [.c (.lst 4 (dB low))])(hF2: ∀_:Unit,0≤top→vJ lost inn.length=true→Fn Try.prog tyT 147 [.agg (dL7 x), .c (.lst 4 (dB rest2))] [.c (.lst 4 (dB again))])(hres: ∀_:Unit,(top<0→res=List.replicate inn.length false)∧(0≤top→vJ lost inn.length=false→res=yu inn.length (wb inn who))∧(0≤top→vJ lost inn.length=true→res=yu inn.length (vg again away who))):Fn Try.prog tyT 147 [.agg (dL7 x), .c (.lst 4 (dB inn))] [.c (.lst 4 (dB res))]:=by
 have hn1:=hx.hn
 have hn3:=hx.hp
 have hgl:goal.length=inn.length:=by rw [←hG];exact VS _ _
 have hal:att.length=inn.length:=by rw [←hA];exact Vh _ _ _ _ _
 have hrl:rest.length=inn.length:=by rw [←hR];simp [xT]
 have hll:lost.length=inn.length:=by rw [←hL];exact VS _ _
 have hwl:away.length=inn.length:=by rw [←hA2];exact Vh _ _ _ _ _
 have hsl:rest2.length=inn.length:=by rw [←hR2];simp [xT]
 have hTp:=zFn x inn.length hx inn rfl
 rw [hT]at hTp
 have hAt:=Wb x inn hx who goal hgl
 rw [hA,←List.take_of_length_le (l:=goal) (i:=inn.length) (by omega)]at hAt
 have hLs:=kl inn att hn1 hal
 rw [hR]at hLs
 have hAu:=Wb x inn hx (1 - who) lost hll
 rw [hA2,←List.take_of_length_le (l:=lost) (i:=inn.length) (by omega)]at hAu
 have hLu:=kl inn away hn1 hwl
 rw [hR2]at hLu
 unfold dL7 at hTp hAt hAu hF1 hF2⊢
 have htr:=zCq hx inn inn.length (by omega)
 rw [hT]at htr
 clear hT
 replace hrl: ∀_:Unit,rest.length=inn.length:=fun _=>hrl
 replace hwl: ∀_:Unit,away.length=inn.length:=fun _=>hwl
 clear hgl hal hll hsl
 refine zt (fn:=Try.f147) (ts:= [4]) Try.func147 (by kernel_rfl) rfl rfl (by rw [Try.ntmps147];exact Nat.le_of_ble_eq_true rfl) rfl (by simp only [szA,List.mem_cons,List.not_mem_nil,or_false,forall_eq_or_imp,forall_eq,VT.cells,szL];try decide) ?_
 rw [Try.ntmps147]
 simp only [push_cast,↓zK,↓zJ,↓reduceIte,zA,zB,zC,zD,zE,zF,zG,zH,zI,reduceCtorEq]
 refine zL fun K hK=> ?_
 refine zM zP zN [] rfl ?_
 simp only [push_cast,↓zK,↓zJ,↓reduceIte,zA,zB,zC,zD,zE,zF,zG,zH,zI,reduceCtorEq]
 repeat' apply And.intro
 all_goals try exact gB
 all_goals first|(refine hK _ ?_;clear hK K)|(simp only [push_cast];done)
 refine zL fun K hK=> ?_
 refine zM zP zN [] rfl ?_
 all_goals refine zm 3 fun K9 hK9=> ?_
 all_goals simp only [push_cast,↓zK,↓zJ,↓reduceIte,zA,zB,zC,zD,zE,zF,zG,zH,zI,reduceCtorEq]
 all_goals repeat'(first|(apply zO<;>(intro hg;(try simp only [push_cast]at hg)))|(refine⟨_,hTp,?_⟩;simp only [push_cast,↓zK,↓zJ,↓reduceIte,zA,zB,zC,zD,zE,zF,zG,zH,zI,reduceCtorEq])|apply And.intro|(intro hg;(try simp only [push_cast]at hg)))
 all_goals try exact gA
 all_goals first|(refine hK9 _ ?_;clear hK9 K9)|(simp only [push_cast];done)
 all_goals simp only [push_cast,↓zK,↓zJ,↓reduceIte,zA,zB,zC,zD,zE,zF,zG,zH,zI,reduceCtorEq]
 all_goals repeat'(first|(apply zO<;>(intro hg;(try simp only [push_cast]at hg)))|(refine⟨_,hTp,?_⟩;simp only [push_cast,↓zK,↓zJ,↓reduceIte,zA,zB,zC,zD,zE,zF,zG,zH,zI,reduceCtorEq])|apply And.intro|(intro hg;(try simp only [push_cast]at hg)))
 all_goals try exact gA
 all_goals first|(refine hK _ ?_;clear hK K)|(simp only [push_cast];done)
 refine zL fun K hK=> ?_
 refine zM zP zN [] rfl ?_
 simp only [push_cast,↓zK,↓zJ,↓reduceIte,zA,zB,zC,zD,zE,zF,zG,zH,zI,reduceCtorEq]
 repeat' apply And.intro
 all_goals try exact gB
 all_goals first|(refine hK _ ?_;clear hK K)|(simp only [push_cast];done)
 refine zL fun K1 hK1=> ?_
 refine zL fun K hK=> ?_
 refine zM zP zN [] rfl ?_
 simp only [push_cast,↓zK,↓zJ,↓reduceIte,zA,zB,zC,zD,zE,zF,zG,zH,zI,reduceCtorEq]
 repeat' apply And.intro
 all_goals try exact gB
 all_goals first|(refine hK _ ?_;clear hK K)|(simp only [push_cast];done)
 refine zU rfl (fun hc=> ?_) (fun hc=> ?_)<;>(try simp only [push_cast]at hc)
 ·
  have hr9:=(hres ()).1 (by omega)
  subst hr9
  refine zL fun K hK=> ?_
  refine zM zP zN [] rfl ?_
  simp only [push_cast,↓zK,↓zJ,↓reduceIte,zA,zB,zC,zD,zE,zF,zG,zH,zI,reduceCtorEq]
  repeat' apply And.intro
  all_goals try exact gB
  all_goals first|(refine hK _ ?_;clear hK K)|(simp only [push_cast];done)
  refine zX ?_
  (try simp only [zR,zS])
  refine⟨Or.inl rfl,?_⟩
  simp only [zg,push_cast,↓zK,↓zJ,↓reduceIte,zA,zB,zC,zD,zE,zF,zG,zH,zI,reduceCtorEq]
  all_goals first|rfl|exact⟨rfl,by simp⟩|(simp;done)
 ·
  refine zV ?_
  (try simp only [zR,zS,reduceIte,zF]);refine hK1 _ ?_
  refine zL fun K hK=> ?_
  refine zM zP zN [] rfl ?_
  simp only [push_cast,↓zK,↓zJ,↓reduceIte,zA,zB,zC,zD,zE,zF,zG,zH,zI,reduceCtorEq]
  repeat' apply And.intro
  all_goals try exact gB
  all_goals first|(refine hK _ ?_;clear hK K)|(simp only [push_cast];done)
  rw [(hW () (by omega)).1]
  have hwr:=(hW () (by omega)).2
  refine zL fun K hK=> ?_
  refine zM zP zN [] rfl ?_
  simp only [push_cast,↓zK,↓zJ,↓reduceIte,zA,zB,zC,zD,zE,zF,zG,zH,zI,reduceCtorEq]
  repeat' apply And.intro
  all_goals try exact gB
  all_goals first|(refine hK _ ?_;clear hK K)|(simp only [push_cast];done)
  refine zL fun K2 hK2=> ?_
  refine zL fun K hK=> ?_
  refine zM zP zN [] rfl ?_
  simp only [push_cast,↓zK,↓zJ,↓reduceIte,zA,zB,zC,zD,zE,zF,zG,zH,zI,reduceCtorEq]
  repeat' apply And.intro
  all_goals try exact gB
  all_goals first|(refine hK _ ?_;clear hK K)|(simp only [push_cast];done)
  refine zT ?_
  refine zd [9,33,34,35,36,37,38,39,40,41,42,43,44,45,46,47,48,49,50,51,52,53,54] [128] (fun(k:Nat)=> [(9, .int .i64 k),(8, .sl 128 [] 0 inn.length 4)]) (fun k=> []) (fun k=> [(128,⟨.ex,4,dB (mkB inn.length (qG x inn top) k),none⟩)]) (fun k=>k≤inn.length) (fun k=>inn.length - k) 0 ?_ (Nat.zero_le _) ?_
  ·
   rw [Vg]
   refine zW rfl ?_ ?_ ?_<;>simp only [zc,zb,push_cast,↓zK,↓zJ,↓reduceIte,zA,zB,zC,zD,zE,zF,zG,zH,zI,reduceCtorEq]
  ·rintro k hk KL0 hL0
   have hml:=ZF (f:=qG x inn top) hk
   simp only [push_cast,↓zK,↓zJ,↓reduceIte,zA,zB,zC,zD,zE,zF,zG,zH,zI,reduceCtorEq]
   refine zL fun K3 hK3=> ?_
   refine zL fun K hK=> ?_
   refine zM zP zN [] rfl ?_
   simp only [push_cast,↓zK,↓zJ,↓reduceIte,zA,zB,zC,zD,zE,zF,zG,zH,zI,reduceCtorEq]
   repeat' apply And.intro
   all_goals try exact gB
   all_goals first|(refine hK _ ?_;clear hK K)|(simp only [push_cast];done)
   refine zU rfl (fun hc=> ?_) (fun hc=> ?_)<;>(try simp only [push_cast]at hc)
   ·
    refine zV ?_
    (try simp only [zR,zS,reduceIte,zF]);refine hK3 _ ?_
    refine zL fun K4 hK4=> ?_
    refine zT ?_
    refine zf false zP zN ?_ rfl ?_
    ·kernel_rfl
    all_goals simp only [push_cast,↓zK,↓zJ,↓reduceIte,zA,zB,zC,zD,zE,zF,zG,zH,zI,reduceCtorEq]
    all_goals repeat'(first|(apply zO<;>(intro hg;(try simp only [push_cast]at hg)))|apply And.intro|(intro hg;(try simp only [push_cast]at hg)))
    all_goals try exact gA
    all_goals(
      (try simp only [zR,zS,reduceIte,zF]);refine hK4 _ ?_
      refine zM zP zN [] rfl ?_
      simp only [push_cast,↓zK,↓zJ,↓reduceIte,zA,zB,zC,zD,zE,zF,zG,zH,zI,reduceCtorEq]
      repeat' apply And.intro
      all_goals try exact gB
      refine hL0 _ ⟨k+1,(show k+1≤inn.length by omega),(show inn.length - (k+1)<inn.length - k by omega),?_⟩
      first|rw [zGe (k:=k) (n:=inn.length) (inn:=inn) (by omega) (by with_reducible assumption)]|rw [zH3 (k:=k) (n:=inn.length) (inn:=inn) (by omega) (by with_reducible assumption)]
      refine zW rfl ?_ ?_ ?_<;>simp only [zc,zb,push_cast,↓zK,↓zJ,↓reduceIte,zA,zB,zC,zD,zE,zF,zG,zH,zI,reduceCtorEq])
   ·
    refine ze ?_
    have hkk:k=inn.length:=by omega
    subst hkk
    rw [QX]
    rw [hG]
    (try simp only [zR,zS,reduceIte,zF]);refine hK2 _ ?_
    refine zL fun K hK=> ?_
    refine zM zP zN [] rfl ?_
    all_goals refine zm 6 fun K9 hK9=> ?_
    all_goals simp only [push_cast,↓zK,↓zJ,↓reduceIte,zA,zB,zC,zD,zE,zF,zG,zH,zI,reduceCtorEq]
    all_goals repeat'(first|(apply zO<;>(intro hg;(try simp only [push_cast]at hg)))|(refine⟨_,hAt,?_⟩;simp only [push_cast,↓zK,↓zJ,↓reduceIte,zA,zB,zC,zD,zE,zF,zG,zH,zI,reduceCtorEq])|apply And.intro|(intro hg;(try simp only [push_cast]at hg)))
    all_goals try exact gA
    all_goals first|(refine hK9 _ ?_;clear hK9 K9)|(simp only [push_cast];done)
    all_goals refine zm 1 fun K9 hK9=> ?_
    all_goals simp only [push_cast,↓zK,↓zJ,↓reduceIte,zA,zB,zC,zD,zE,zF,zG,zH,zI,reduceCtorEq]
    all_goals repeat'(first|(apply zO<;>(intro hg;(try simp only [push_cast]at hg)))|(refine⟨_,hLs,?_⟩;simp only [push_cast,↓zK,↓zJ,↓reduceIte,zA,zB,zC,zD,zE,zF,zG,zH,zI,reduceCtorEq])|apply And.intro|(intro hg;(try simp only [push_cast]at hg)))
    all_goals try exact gA
    all_goals first|(refine hK9 _ ?_;clear hK9 K9)|(simp only [push_cast];done)
    all_goals simp only [push_cast,↓zK,↓zJ,↓reduceIte,zA,zB,zC,zD,zE,zF,zG,zH,zI,reduceCtorEq]
    all_goals repeat'(first|(apply zO<;>(intro hg;(try simp only [push_cast]at hg)))|(refine⟨_,hAt,?_⟩;simp only [push_cast,↓zK,↓zJ,↓reduceIte,zA,zB,zC,zD,zE,zF,zG,zH,zI,reduceCtorEq])|(refine⟨_,hLs,?_⟩;simp only [push_cast,↓zK,↓zJ,↓reduceIte,zA,zB,zC,zD,zE,zF,zG,zH,zI,reduceCtorEq])|apply And.intro|(intro hg;(try simp only [push_cast]at hg)))
    all_goals try exact gA
    all_goals first|(refine hK _ ?_;clear hK K)|(simp only [push_cast];done)
    refine zL fun K hK=> ?_
    refine zM zP zN [] rfl ?_
    all_goals refine zm 3 fun K9 hK9=> ?_
    all_goals simp only [push_cast,↓zK,↓zJ,↓reduceIte,zA,zB,zC,zD,zE,zF,zG,zH,zI,reduceCtorEq]
    all_goals repeat'(first|(apply zO<;>(intro hg;(try simp only [push_cast]at hg)))|(refine⟨_,hF1 () (by omega),?_⟩;simp only [push_cast,↓zK,↓zJ,↓reduceIte,zA,zB,zC,zD,zE,zF,zG,zH,zI,reduceCtorEq])|apply And.intro|(intro hg;(try simp only [push_cast]at hg)))
    all_goals try exact gA
    all_goals first|(refine hK9 _ ?_;clear hK9 K9)|(simp only [push_cast];done)
    all_goals simp only [push_cast,↓zK,↓zJ,↓reduceIte,zA,zB,zC,zD,zE,zF,zG,zH,zI,reduceCtorEq]
    all_goals repeat'(first|(apply zO<;>(intro hg;(try simp only [push_cast]at hg)))|(refine⟨_,hF1 () (by omega),?_⟩;simp only [push_cast,↓zK,↓zJ,↓reduceIte,zA,zB,zC,zD,zE,zF,zG,zH,zI,reduceCtorEq])|apply And.intro|(intro hg;(try simp only [push_cast]at hg)))
    all_goals try exact gA
    all_goals first|(refine hK _ ?_;clear hK K)|(simp only [push_cast];done)
    refine zL fun K hK=> ?_
    refine zM zP zN [] rfl ?_
    simp only [push_cast,↓zK,↓zJ,↓reduceIte,zA,zB,zC,zD,zE,zF,zG,zH,zI,reduceCtorEq]
    repeat' apply And.intro
    all_goals try exact gB
    all_goals first|(refine hK _ ?_;clear hK K)|(simp only [push_cast];done)
    refine zL fun K hK=> ?_
    refine zM zP zN [] rfl ?_
    simp only [push_cast,↓zK,↓zJ,↓reduceIte,zA,zB,zC,zD,zE,zF,zG,zH,zI,reduceCtorEq]
    repeat' apply And.intro
    all_goals try exact gB
    all_goals first|(refine hK _ ?_;clear hK K)|(simp only [push_cast];done)
    refine zL fun K5 hK5=> ?_
    refine zL fun K hK=> ?_
    refine zM zP zN [] rfl ?_
    simp only [push_cast,↓zK,↓zJ,↓reduceIte,zA,zB,zC,zD,zE,zF,zG,zH,zI,reduceCtorEq]
    repeat' apply And.intro
    all_goals try exact gB
    all_goals first|(refine hK _ ?_;clear hK K)|(simp only [push_cast];done)
    refine zT ?_
    refine zd [13,14,45,68,69,70,71,72,73,74,75,76,77,78,79,80,81,82,83,84,85,86,87,88,89,90,91,92,93,94,95,96] [192] (fun(k:Nat)=> [(14, .int .i64 k),(13, .bool (vJ lost k)),(12, .sl 192 [] 0 inn.length 4)]) (fun k=> []) (fun k=> [(192,⟨.ex,4,dB (mkB inn.length (yx rest low who) k),none⟩)]) (fun k=>k≤inn.length) (fun k=>inn.length - k) 0 ?_ (Nat.zero_le _) ?_
    ·
     rw [Vg,show vJ lost 0=false from rfl]
     refine zW rfl ?_ ?_ ?_<;>simp only [zc,zb,push_cast,↓zK,↓zJ,↓reduceIte,zA,zB,zC,zD,zE,zF,zG,zH,zI,reduceCtorEq]
    ·rintro k hk KL1 hL1
     have hml:=ZF (f:=yx rest low who) hk
     have hrl1:=hrl ()
     have hLo1:=hLo ()
     simp only [push_cast,↓zK,↓zJ,↓reduceIte,zA,zB,zC,zD,zE,zF,zG,zH,zI,reduceCtorEq]
     refine zL fun K6 hK6=> ?_
     refine zL fun K hK=> ?_
     refine zM zP zN [] rfl ?_
     simp only [push_cast,↓zK,↓zJ,↓reduceIte,zA,zB,zC,zD,zE,zF,zG,zH,zI,reduceCtorEq]
     repeat' apply And.intro
     all_goals try exact gB
     all_goals first|(refine hK _ ?_;clear hK K)|(simp only [push_cast];done)
     refine zU rfl (fun hc=> ?_) (fun hc=> ?_)<;>(try simp only [push_cast]at hc)
     ·
      refine zV ?_
      (try simp only [zR,zS,reduceIte,zF]);refine hK6 _ ?_
      refine zL fun K7 hK7=> ?_
      refine zT ?_
      refine zL fun K hK=> ?_
      refine zf false zP zN ?_ rfl ?_
      ·kernel_rfl
      all_goals simp only [push_cast,↓zK,↓zJ,↓reduceIte,zA,zB,zC,zD,zE,zF,zG,zH,zI,reduceCtorEq]
      all_goals repeat'(first|(apply zO<;>(intro hg;(try simp only [push_cast]at hg)))|apply And.intro|(intro hg;(try simp only [push_cast]at hg)))
      all_goals try exact gA
      all_goals first|(refine hK _ ?_;clear hK K)|(simp only [push_cast];done)
      all_goals(
        refine zf false zP zN ?_ rfl ?_
        ·kernel_rfl
        all_goals simp only [push_cast,↓zK,↓zJ,↓reduceIte,zA,zB,zC,zD,zE,zF,zG,zH,zI,reduceCtorEq]
        all_goals repeat'(first|(apply zO<;>(intro hg;(try simp only [push_cast]at hg)))|apply And.intro|(intro hg;(try simp only [push_cast]at hg)))
        all_goals first|exact gA|(rw [List.length_set];omega)|skip
        all_goals(
          (try simp only [zR,zS,reduceIte,zF]);refine hK7 _ ?_
          first|rw [zF2 (k:=k) (n:=inn.length) (rest:=rest) (by omega) (by with_reducible assumption)]|rw [zIG (k:=k) (n:=inn.length) (rest:=rest) (by omega) (by with_reducible assumption)]
          have hml2:=ZF (f:=yx rest low who) (show k+1≤inn.length by omega)
          have hmk:=zFv (f:=yx rest low who) (show k<inn.length by omega)
          rw [hL]at hmk
          refine zM zP zN [] rfl ?_
          all_goals simp only [push_cast,↓zK,↓zJ,↓reduceIte,zA,zB,zC,zD,zE,zF,zG,zH,zI,reduceCtorEq]
          all_goals repeat'(first|(apply zO<;>(intro hg;(try simp only [push_cast]at hg)))|apply And.intro|(intro hg;(try simp only [push_cast]at hg)))
          all_goals first|exact gA|(rw [List.length_set];omega)|skip
          refine hL1 _ ⟨k+1,(show k+1≤inn.length by omega),(show inn.length - (k+1)<inn.length - k by omega),?_⟩
          first|rw [show vJ lost (k+1)=true from by unfold vJ;rw [show vJ lost k=true from by with_reducible assumption];rfl]|rw [show vJ lost (k+1)=gb (mkB inn.length (yx rest low who) (k+1)) k from by rw [hmk];show(vJ lost k||gb lost k)=_;rw [show vJ lost k=false from by with_reducible assumption];rfl]
          refine zW rfl ?_ ?_ ?_<;>simp only [zc,zb,push_cast,↓zK,↓zJ,↓reduceIte,zA,zB,zC,zD,zE,zF,zG,zH,zI,reduceCtorEq]))
     ·
      refine ze ?_
      have hkk:k=inn.length:=by omega
      subst hkk
      rw [QX]
      rw [hL]
      (try simp only [zR,zS,reduceIte,zF]);refine hK5 _ ?_
      refine zL fun K8 hK8=> ?_
      refine zL fun K hK=> ?_
      refine zM zP zN [] rfl ?_
      simp only [push_cast,↓zK,↓zJ,↓reduceIte,zA,zB,zC,zD,zE,zF,zG,zH,zI,reduceCtorEq]
      repeat' apply And.intro
      all_goals try exact gB
      all_goals first|(refine hK _ ?_;clear hK K)|(simp only [push_cast];done)
      refine zU rfl (fun hc=> ?_) (fun hc=> ?_)<;>(try simp only [push_cast]at hc)
      ·
       refine zL fun K9 hK9=> ?_
       have hany:vJ lost inn.length=false:=by first|exact hc|simpa using hc
       have hr9:=(hres ()).2.1 (by omega) hany
       subst hr9
       refine zL fun K hK=> ?_
       refine zM zP zN [] rfl ?_
       simp only [push_cast,↓zK,↓zJ,↓reduceIte,zA,zB,zC,zD,zE,zF,zG,zH,zI,reduceCtorEq]
       repeat' apply And.intro
       all_goals try exact gB
       all_goals first|(refine hK _ ?_;clear hK K)|(simp only [push_cast];done)
       refine zT ?_
       refine zd [15,45,80,91,99,100,101,102,103,104,105,106,107,108,109,110,111,112,113,114,115] [96] (fun(k:Nat)=> [(15, .int .i64 k),(6, .sl 96 [] 0 inn.length 4)]) (fun k=> []) (fun k=> [(96,⟨.ex,4,dB (mkB inn.length (wb inn who) k),none⟩)]) (fun k=>k≤inn.length) (fun k=>inn.length - k) 0 ?_ (Nat.zero_le _) ?_
       ·
        rw [Vg]
        refine zW rfl ?_ ?_ ?_<;>simp only [zc,zb,push_cast,↓zK,↓zJ,↓reduceIte,zA,zB,zC,zD,zE,zF,zG,zH,zI,reduceCtorEq]
       ·rintro k hk KL2 hL2
        have hml:=ZF (f:=wb inn who) hk
        simp only [push_cast,↓zK,↓zJ,↓reduceIte,zA,zB,zC,zD,zE,zF,zG,zH,zI,reduceCtorEq]
        refine zL fun K10 hK10=> ?_
        refine zL fun K hK=> ?_
        refine zM zP zN [] rfl ?_
        simp only [push_cast,↓zK,↓zJ,↓reduceIte,zA,zB,zC,zD,zE,zF,zG,zH,zI,reduceCtorEq]
        repeat' apply And.intro
        all_goals try exact gB
        all_goals first|(refine hK _ ?_;clear hK K)|(simp only [push_cast];done)
        refine zU rfl (fun hc=> ?_) (fun hc=> ?_)<;>(try simp only [push_cast]at hc)
        ·
         refine zV ?_
         (try simp only [zR,zS,reduceIte,zF]);refine hK10 _ ?_
         refine zL fun K11 hK11=> ?_
         refine zT ?_
         refine zf false zP zN ?_ rfl ?_
         ·kernel_rfl
         all_goals simp only [push_cast,↓zK,↓zJ,↓reduceIte,zA,zB,zC,zD,zE,zF,zG,zH,zI,reduceCtorEq]
         all_goals repeat'(first|(apply zO<;>(intro hg;(try simp only [push_cast]at hg)))|apply And.intro|(intro hg;(try simp only [push_cast]at hg)))
         all_goals try exact gA
         all_goals(
           (try simp only [zR,zS,reduceIte,zF]);refine hK11 _ ?_
           refine zM zP zN [] rfl ?_
           simp only [push_cast,↓zK,↓zJ,↓reduceIte,zA,zB,zC,zD,zE,zF,zG,zH,zI,reduceCtorEq]
           repeat' apply And.intro
           all_goals try exact gB
           refine hL2 _ ⟨k+1,(show k+1≤inn.length by omega),(show inn.length - (k+1)<inn.length - k by omega),?_⟩
           first|rw [zF7 (k:=k) (n:=inn.length) (inn:=inn) (by omega) (by with_reducible assumption)]|rw [zHw (k:=k) (n:=inn.length) (inn:=inn) (by omega) (by with_reducible assumption)]
           refine zW rfl ?_ ?_ ?_<;>simp only [zc,zb,push_cast,↓zK,↓zJ,↓reduceIte,zA,zB,zC,zD,zE,zF,zG,zH,zI,reduceCtorEq])
        ·
         refine ze ?_
         have hkk:k=inn.length:=by omega
         subst hkk
         rw [QX]
         (try simp only [zR,zS,reduceIte,zF]);refine hK9 _ ?_
         refine zL fun K hK=> ?_
         refine zM zP zN [] rfl ?_
         simp only [push_cast,↓zK,↓zJ,↓reduceIte,zA,zB,zC,zD,zE,zF,zG,zH,zI,reduceCtorEq]
         repeat' apply And.intro
         all_goals try exact gB
         all_goals first|(refine hK _ ?_;clear hK K)|(simp only [push_cast];done)
         refine zX ?_
         (try simp only [zR,zS])
         refine⟨Or.inl rfl,?_⟩
         simp only [zg,push_cast,↓zK,↓zJ,↓reduceIte,zA,zB,zC,zD,zE,zF,zG,zH,zI,reduceCtorEq]
         all_goals first|rfl|exact⟨rfl,by simp [yu]⟩|(simp [yu];done)
      ·
       refine zV ?_
       (try simp only [zR,zS,reduceIte,zF]);refine hK8 _ ?_
       have hany:vJ lost inn.length=true:=by first|exact hc|simpa using hc
       have hr9:=(hres ()).2.2 (by omega) hany
       subst hr9
       refine zL fun K hK=> ?_
       refine zM zP zN [] rfl ?_
       all_goals refine zm 6 fun K9 hK9=> ?_
       all_goals simp only [push_cast,↓zK,↓zJ,↓reduceIte,zA,zB,zC,zD,zE,zF,zG,zH,zI,reduceCtorEq]
       all_goals repeat'(first|(apply zO<;>(intro hg;(try simp only [push_cast]at hg)))|(refine⟨_,hAu,?_⟩;simp only [push_cast,↓zK,↓zJ,↓reduceIte,zA,zB,zC,zD,zE,zF,zG,zH,zI,reduceCtorEq])|apply And.intro|(intro hg;(try simp only [push_cast]at hg)))
       all_goals try exact gA
       all_goals first|(refine hK9 _ ?_;clear hK9 K9)|(simp only [push_cast];done)
       all_goals simp only [push_cast,↓zK,↓zJ,↓reduceIte,zA,zB,zC,zD,zE,zF,zG,zH,zI,reduceCtorEq]
       all_goals repeat'(first|(apply zO<;>(intro hg;(try simp only [push_cast]at hg)))|(refine⟨_,hAu,?_⟩;simp only [push_cast,↓zK,↓zJ,↓reduceIte,zA,zB,zC,zD,zE,zF,zG,zH,zI,reduceCtorEq])|apply And.intro|(intro hg;(try simp only [push_cast]at hg)))
       all_goals try exact gA
       all_goals first|(refine hK _ ?_;clear hK K)|(simp only [push_cast];done)
       refine zL fun K hK=> ?_
       refine zv false zP zN yj ?_ rfl ?_
       ·kernel_rfl
       intro E hE
       all_goals refine yT 4 (by decide) fun K9 hK9=> ?_
       all_goals simp only [push_cast,↓zK,↓zJ,↓reduceIte,zA,zB,zC,zD,zE,zF,zG,zH,zI,reduceCtorEq]
       all_goals repeat'(first|(apply zO<;>(intro hg;(try simp only [push_cast]at hg)))|(refine⟨_,hLu,?_⟩;simp only [push_cast,↓zK,↓zJ,↓reduceIte,zA,zB,zC,zD,zE,zF,zG,zH,zI,reduceCtorEq])|apply And.intro|(intro hg;(try simp only [push_cast]at hg)))
       all_goals try exact gA
       all_goals first|(refine hK9 _ _ ?_;clear hK9 K9)|(simp only [push_cast];done)
       all_goals refine yT 1 (by decide) fun K9 hK9=> ?_
       all_goals simp only [push_cast,↓zK,↓zJ,↓reduceIte,zA,zB,zC,zD,zE,zF,zG,zH,zI,reduceCtorEq]
       all_goals repeat'(first|(apply zO<;>(intro hg;(try simp only [push_cast]at hg)))|(refine⟨_,hF2 () (by omega) hany,?_⟩;simp only [push_cast,↓zK,↓zJ,↓reduceIte,zA,zB,zC,zD,zE,zF,zG,zH,zI,reduceCtorEq])|apply And.intro|(intro hg;(try simp only [push_cast]at hg)))
       all_goals try exact gA
       all_goals first|(refine hK9 _ _ ?_;clear hK9 K9)|(simp only [push_cast];done)
       all_goals simp only [push_cast,↓zK,↓zJ,↓reduceIte,zA,zB,zC,zD,zE,zF,zG,zH,zI,reduceCtorEq]
       all_goals repeat'(first|(apply zO<;>(intro hg;(try simp only [push_cast]at hg)))|(refine⟨_,hLu,?_⟩;simp only [push_cast,↓zK,↓zJ,↓reduceIte,zA,zB,zC,zD,zE,zF,zG,zH,zI,reduceCtorEq])|(refine⟨_,hF2 () (by omega) hany,?_⟩;simp only [push_cast,↓zK,↓zJ,↓reduceIte,zA,zB,zC,zD,zE,zF,zG,zH,zI,reduceCtorEq])|apply And.intro|(intro hg;(try simp only [push_cast]at hg)))
       all_goals first|exact gA|(refine hE _ _ ?_ ?_;kernel_rfl)|skip
       all_goals clear hE E
       all_goals first|(refine hK _ ?_;clear hK K)|(simp only [push_cast];done)
       refine zL fun K12 hK12=> ?_
       refine zL fun K hK=> ?_
       refine zM zP zN [] rfl ?_
       simp only [push_cast,↓zK,↓zJ,↓reduceIte,zA,zB,zC,zD,zE,zF,zG,zH,zI,reduceCtorEq]
       repeat' apply And.intro
       all_goals try exact gB
       all_goals first|(refine hK _ ?_;clear hK K)|(simp only [push_cast];done)
       refine zT ?_
       refine zd [18,45,80,91,111,128,129,130,131,132,133,134,135,136,137,138,139,140,141,142,143,144,145,146,147,148,149,150] [96] (fun(k:Nat)=> [(18, .int .i64 k),(6, .sl 96 [] 0 inn.length 4)]) (fun k=> []) (fun k=> [(96,⟨.ex,4,dB (mkB inn.length (vg again away who) k),none⟩)]) (fun k=>k≤inn.length) (fun k=>inn.length - k) 0 ?_ (Nat.zero_le _) ?_
       ·
        rw [Vg]
        refine zW rfl ?_ ?_ ?_<;>simp only [zc,zb,push_cast,↓zK,↓zJ,↓reduceIte,zA,zB,zC,zD,zE,zF,zG,zH,zI,reduceCtorEq]
       ·rintro k hk KL3 hL3
        have hml:=ZF (f:=vg again away who) hk
        have hLa1:=hLa ()
        have hwl1:=hwl ()
        simp only [push_cast,↓zK,↓zJ,↓reduceIte,zA,zB,zC,zD,zE,zF,zG,zH,zI,reduceCtorEq]
        refine zL fun K13 hK13=> ?_
        refine zL fun K hK=> ?_
        refine zM zP zN [] rfl ?_
        simp only [push_cast,↓zK,↓zJ,↓reduceIte,zA,zB,zC,zD,zE,zF,zG,zH,zI,reduceCtorEq]
        repeat' apply And.intro
        all_goals try exact gB
        all_goals first|(refine hK _ ?_;clear hK K)|(simp only [push_cast];done)
        refine zU rfl (fun hc=> ?_) (fun hc=> ?_)<;>(try simp only [push_cast]at hc)
        ·
         refine zV ?_
         (try simp only [zR,zS,reduceIte,zF]);refine hK13 _ ?_
         refine zL fun K14 hK14=> ?_
         refine zT ?_
         refine zf false zP zN ?_ rfl ?_
         ·kernel_rfl
         all_goals simp only [push_cast,↓zK,↓zJ,↓reduceIte,zA,zB,zC,zD,zE,zF,zG,zH,zI,reduceCtorEq]
         all_goals repeat'(first|(apply zO<;>(intro hg;(try simp only [push_cast]at hg)))|apply And.intro|(intro hg;(try simp only [push_cast]at hg)))
         all_goals try exact gA
         all_goals(
           (try simp only [zR,zS,reduceIte,zF]);refine hK14 _ ?_
           refine zM zP zN [] rfl ?_
           simp only [push_cast,↓zK,↓zJ,↓reduceIte,zA,zB,zC,zD,zE,zF,zG,zH,zI,reduceCtorEq]
           repeat' apply And.intro
           all_goals try exact gB
           refine hL3 _ ⟨k+1,(show k+1≤inn.length by omega),(show inn.length - (k+1)<inn.length - k by omega),?_⟩
           first|rw [zJF (k:=k) (n:=inn.length) (again:=again) (away:=away) (by omega) (by with_reducible assumption)]|rw [zJs (k:=k) (n:=inn.length) (again:=again) (away:=away) (by omega) (by with_reducible assumption) (by with_reducible assumption)]|rw [zIy (k:=k) (n:=inn.length) (again:=again) (away:=away) (by omega) (by with_reducible assumption) (by with_reducible assumption)]
           refine zW rfl ?_ ?_ ?_<;>simp only [zc,zb,push_cast,↓zK,↓zJ,↓reduceIte,zA,zB,zC,zD,zE,zF,zG,zH,zI,reduceCtorEq])
        ·
         refine ze ?_
         have hkk:k=inn.length:=by omega
         subst hkk
         rw [QX]
         (try simp only [zR,zS,reduceIte,zF]);refine hK12 _ ?_
         refine zL fun K hK=> ?_
         refine zM zP zN [] rfl ?_
         simp only [push_cast,↓zK,↓zJ,↓reduceIte,zA,zB,zC,zD,zE,zF,zG,zH,zI,reduceCtorEq]
         repeat' apply And.intro
         all_goals try exact gB
         all_goals first|(refine hK _ ?_;clear hK K)|(simp only [push_cast];done)
         refine zX ?_
         (try simp only [zR,zS])
         refine⟨Or.inl rfl,?_⟩
         simp only [zg,push_cast,↓zK,↓zJ,↓reduceIte,zA,zB,zC,zD,zE,zF,zG,zH,zI,reduceCtorEq]
         all_goals first|rfl|exact⟨rfl,by simp [yu]⟩|(simp [yu];done)
theorem Qm (x:L7): ∀(f:Nat) (inn:List Bool),x.Ok inn.length→xC inn inn.length<f→Fn Try.prog tyT 147 [.agg (dL7 x), .c (.lst 4 (dB inn))] [.c (.lst 4 (dB (qK x inn.length f inn)))]
 |0,inn,_,h=>absurd h (Nat.not_lt_zero _)
 |f+1,inn,hx,hc=>by
  obtain⟨n,hn⟩: ∃n,inn.length=n:=⟨_,rfl⟩
  obtain⟨top,hT⟩: ∃t,yg x inn inn.length=t:=⟨_,rfl⟩
  obtain⟨who,hW⟩: ∃t,Int.tmod top 2=t:=⟨_,rfl⟩
  obtain⟨goal,hG⟩: ∃t,yu inn.length (qG x inn top)=t:=⟨_,rfl⟩
  obtain⟨att,hAt⟩: ∃t,xt x inn.length inn who goal=t:=⟨_,rfl⟩
  obtain⟨rest,hR⟩: ∃t,xT inn att=t:=⟨_,rfl⟩
  obtain⟨low,hLo⟩: ∃t,qK x inn.length f rest=t:=⟨_,rfl⟩
  obtain⟨lost,hL⟩: ∃t,yu inn.length (yx rest low who)=t:=⟨_,rfl⟩
  obtain⟨away,hA⟩: ∃t,xt x inn.length inn (1 - who) lost=t:=⟨_,rfl⟩
  obtain⟨rest2,hR2⟩: ∃t,xT inn away=t:=⟨_,rfl⟩
  obtain⟨again,hAg⟩: ∃t,qK x inn.length f rest2=t:=⟨_,rfl⟩
  have hs:=Ki x inn.length f inn hT hW hG (by rw [hAt];exact hR) hLo hL hA
  rw [hR2,hAg]at hs
  have hrl:rest.length=inn.length:=by rw [←hR,YU]
  have hr2l:rest2.length=inn.length:=by rw [←hR2,YU]
  have hex:=zAo hx (inn:=inn) inn.length (Nat.le_refl _)
  rw [hT]at hex
  have hlt:0≤top→xC rest inn.length<xC inn inn.length:=fun ht=>by
   obtain⟨w,hw,hw3,hw4⟩:=hex.resolve_left (by omega)
   rw [←hR,←hAt]
   refine Wv rfl hw hw3 ?_
   rw [←hG,xu hw]
   unfold qG
   rw [hw3,hw4]
   simp
  refine zDw x inn hx top who hT (fun _ ht=>⟨hW,by rw [←hW,Ua ht];omega,by rw [←hW,Ua ht];omega⟩) goal att rest low lost away rest2 again _ hG hAt hR (fun _=>by rw [←hLo];exact VY _ _ _ _) hL hA hR2 (fun _=>by rw [←hAg];exact VY _ _ _ _) (fun _ ht=> ?_) (fun _ ht ha=> ?_) (fun _=>⟨fun ht=> ?_,fun ht ha=> ?_,fun ht ha=> ?_⟩)
  ·have :=Qm x f rest (by rw [hrl];exact hx) (by rw [hrl];have :=hlt ht;omega)
   rw [hrl,hLo]at this
   exact this
  ·have hlt2:xC rest2 inn.length<xC inn inn.length:=by
    obtain⟨a,ha1,ha2⟩:=Zw.1 ha
    rw [←hR2,←hA]
    refine Wv rfl ha1 ?_ ha2
    rw [←hL,xu ha1]at ha2
    unfold yx at ha2
    rw [Bool.and_eq_true,←hR,YB ha1,Bool.and_eq_true]at ha2
    exact ha2.1.1
   have :=Qm x f rest2 (by rw [hr2l];exact hx) (by rw [hr2l];omega)
   rw [hr2l,hAg]at this
   exact this
  ·rw [hs,if_pos ht]
  ·rw [hs,if_neg (by omega),if_neg (by rw [ha];decide)]
  ·rw [hs,if_neg (by omega),if_pos ha]
end Go.Proofs.Ytdbecmmeifdafaa
