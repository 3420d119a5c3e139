/- The recursive solver of the reference: one step of its walk -/
import Derived.Test.YthepmdkpbjfdcaaGreatB13zff
import Derived.Test.YthepmdkpbjfdcaaGreatB5zff
import Derived.Test.YthepmdkpbjfdcaaGreatB14zff
import Derived.Test.YthepmdkpbjfdcaaGreatB16zff
import Derived.Test.YthepmdkpbjfdcaaGreatB18zff
namespace Go.Proofs.YthepmdkpbjfdcaaGreat
open Nat renaming reduceMod → zA, reduceMul → zB, reduceDiv → zC, reduceAdd → zD, reduceSub → zE, reduceEqDiff → zF, reduceBEq → zG, reduceLT → zH, reduceLeDiff → zI
open Go.RowKit
set_option linter.unusedVariables false
set_option linter.unusedSimpArgs false
set_option maxRecDepth 20000 in
set_option maxHeartbeats 8000000 in
theorem zGr (x:L7)(inn:List Bool)(hx:x.Ok inn.length)(top who:Int)(hT:yV x inn inn.length=top)(hW: ∀_:Unit,0≤top→Int.tmod top 2=who∧0≤who∧who≤1)(goal att rest low lost away rest2 again res:List Bool)(hG:ym inn.length (xU x inn top)=goal)(hA:yk x inn.length inn who goal=att)(hR:yT inn att=rest)(hLo: ∀_:Unit,low.length=inn.length)(hL:ym inn.length (yY rest low who)=lost)(hA2:yk x inn.length inn (1 - who) lost=away)(hR2:yT inn away=rest2)(hLa: ∀_:Unit,again.length=inn.length)(hF1: ∀_:Unit,0≤top→Fn Tryz.prog tyT 106 [.agg (dL7 x), .c (.lst 4 (dB rest))] [.c (.lst 4 (dB low))])(hF2: ∀_:Unit,0≤top→wG lost inn.length=true→Fn Tryz.prog tyT 106 [.agg (dL7 x), .c (.lst 4 (dB rest2))] [.c (.lst 4 (dB again))])(hres: ∀_:Unit,(top<0→res=List.replicate inn.length false)∧(0≤top→wG lost inn.length=false→res=ym inn.length (Zc inn who))∧(0≤top→wG lost inn.length=true→res=ym inn.length (wX again away who))):Fn Tryz.prog tyT 106 [.agg (dL7 x), .c (.lst 4 (dB inn))] [.c (.lst 4 (dB res))]:=by
 have hn1:=hx.hn
 have hn3:=hx.hp
 have hgl:goal.length=inn.length:=by rw [←hG];exact vY _ _
 have hal:att.length=inn.length:=by rw [←hA];exact wo _ _ _ _ _
 have hrl:rest.length=inn.length:=by rw [←hR];simp [yT]
 have hll:lost.length=inn.length:=by rw [←hL];exact vY _ _
 have hwl:away.length=inn.length:=by rw [←hA2];exact wo _ _ _ _ _
 have hsl:rest2.length=inn.length:=by rw [←hR2];simp [yT]
 have hTp:=zJm x inn.length hx inn rfl
 rw [hT]at hTp
 have hAt:=KT x inn hx who goal hgl
 rw [hA,←List.take_of_length_le (l:=goal) (i:=inn.length) (by omega)]at hAt
 have hLs:=zBa inn att hn1 hal
 rw [hR]at hLs
 have hAu:=KT x inn hx (1 - who) lost hll
 rw [hA2,←List.take_of_length_le (l:=lost) (i:=inn.length) (by omega)]at hAu
 have hLu:=zBa inn away hn1 hwl
 rw [hR2]at hLu
 unfold dL7 at hTp hAt hAu hF1 hF2⊢
 have htr:=jk hx inn inn.length (by omega)
 rw [hT]at htr
 clear hT
 replace hrl: ∀_:Unit,rest.length=inn.length:=fun _=>hrl
 replace hwl: ∀_:Unit,away.length=inn.length:=fun _=>hwl
 clear hgl hal hll hsl
 refine θH (ts:= [4]) Tryz.func106 Tryz.ntmps106 ?_
 push_cast [↓zK,↓zJ]
 refine θA ?_
 refine θL fun K hK=> ?_
 refine θD 3 ?_
 refine θE hK ?_
 refine θA ?_
 refine zL fun K1 hK1=> ?_
 refine θA ?_
 refine θU (fun hc=> ?_) fun hc=> ?_
 ·
  have hr9:=(hres ()).1 (by omega)
  subst hr9
  refine θA ?_
  refine zY ⟨Or.inl rfl,?_⟩
  push_cast [zd,↓zK,↓zJ]
  all_goals first|rfl|exact⟨rfl,by simp⟩|(simp;done)
 ·
  refine zW (hK1 _ ?_)
  refine θA ?_
  rw [(hW () (by omega)).1]
  have hwr:=(hW () (by omega)).2
  refine θA ?_
  refine zL fun K2 hK2=> ?_
  refine θA ?_
  refine zV ?_
  refine zh [9,33,34,35,36,37,38,39,40,41,42,43,44,45,46,47,48,49,50,51,52,53,54] [128] (fun(k:Nat)=> [(9, .int .i64 k),(8, .sl 128 [] 0 inn.length 4)]) (fun k=> []) (fun k=> [(128,⟨.ex,4,dB (mkB inn.length (xU x inn top) k),none⟩)]) (fun k=>k≤inn.length) (fun k=>inn.length - k) 0 ?_ (Nat.zero_le _) ?_
  ·
   rw [VN]
   exact θX
  ·rintro k hk KL0 hL0
   have hml:=ZR (f:=xU x inn top) hk
   push_cast [↓zK,↓zJ]
   refine zL fun K3 hK3=> ?_
   refine θA ?_
   refine θU (fun hc=> ?_) fun hc=> ?_
   ·
    refine zW (hK3 _ ?_)
    refine zL fun K4 hK4=> ?_
    refine zV ?_
    refine zc false zQ zN ?_ rfl ?_
    ·kernel_rfl
    all_goals push_cast [↓zK,↓zJ]
    all_goals repeat'(first|(apply zO<;>(intro hg;(try push_cast at hg)))|apply And.intro|(intro hg;(try push_cast at hg)))
    all_goals try exact gA
    all_goals(
      refine hK4 _ ?_
      refine θB ?_
      refine hL0 _ ⟨k+1,(show k+1≤inn.length by omega),(show inn.length - (k+1)<inn.length - k by omega),?_⟩
      first|rw [zDQ (k:=k) (n:=inn.length) (inn:=inn) (by omega) (by with_reducible assumption)]|rw [zFf (k:=k) (n:=inn.length) (inn:=inn) (by omega) (by with_reducible assumption)]
      refine zX rfl ?_ ?_ ?_<;>push_cast [zf,ze,↓zK,↓zJ])
   ·
    refine zi ?_
    have hkk:k=inn.length:=by omega
    subst hkk
    rw [WR]
    rw [hG]
    refine hK2 _ ?_
    refine θL fun K hK=> ?_
    refine θD 6 ?_
    refine θD 1 ?_
    refine θE hK ?_
    refine θL fun K hK=> ?_
    all_goals refine zj 3 fun K9 hK9=> ?_
    all_goals push_cast [↓zK,↓zJ]
    all_goals repeat'(first|(apply zO<;>(intro hg;(try simp only [push_cast]at hg)))|(refine⟨_,hF1 () (by omega),?_⟩;push_cast [↓zK,↓zJ])|apply And.intro|(intro hg;(try simp only [push_cast]at hg)))
    all_goals try exact gA
    all_goals(refine hK9 _ ?_;clear hK9 K9)
    all_goals push_cast [↓zK,↓zJ]
    all_goals repeat'(first|(apply zO<;>(intro hg;(try simp only [push_cast]at hg)))|(refine⟨_,hF1 () (by omega),?_⟩;push_cast [↓zK,↓zJ])|apply And.intro|(intro hg;(try simp only [push_cast]at hg)))
    all_goals try exact gA
    all_goals(refine hK _ ?_;clear hK K)
    refine θA ?_
    refine θA ?_
    refine zL fun K5 hK5=> ?_
    refine θA ?_
    refine zV ?_
    refine zh [13,14,45,68,69,70,71,72,73,74,75,76,77,78,79,80,81,82,83,84,85,86,87,88,89,90,91,92,93,94,95,96] [192] (fun(k:Nat)=> [(14, .int .i64 k),(13, .bool (wG lost k)),(12, .sl 192 [] 0 inn.length 4)]) (fun k=> []) (fun k=> [(192,⟨.ex,4,dB (mkB inn.length (yY rest low who) k),none⟩)]) (fun k=>k≤inn.length) (fun k=>inn.length - k) 0 ?_ (Nat.zero_le _) ?_
    ·
     rw [VN,show wG lost 0=false from rfl]
     exact θX
    ·rintro k hk KL1 hL1
     have hml:=ZR (f:=yY rest low who) hk
     have hrl1:=hrl ()
     have hLo1:=hLo ()
     push_cast [↓zK,↓zJ]
     refine zL fun K6 hK6=> ?_
     refine θA ?_
     refine θU (fun hc=> ?_) fun hc=> ?_
     ·
      refine zW (hK6 _ ?_)
      refine zL fun K7 hK7=> ?_
      refine zV ?_
      refine zL fun K hK=> ?_
      refine zc false zQ zN ?_ rfl ?_
      ·kernel_rfl
      all_goals push_cast [↓zK,↓zJ]
      all_goals repeat'(first|(apply zO<;>(intro hg;(try simp only [push_cast]at hg)))|apply And.intro|(intro hg;(try simp only [push_cast]at hg)))
      all_goals try exact gA
      all_goals(refine hK _ ?_;clear hK K)
      all_goals(
        refine zc false zQ zN ?_ rfl ?_
        ·kernel_rfl
        all_goals push_cast [↓zK,↓zJ]
        all_goals repeat'(first|(apply zO<;>(intro hg;(try push_cast at hg)))|apply And.intro|(intro hg;(try push_cast at hg)))
        all_goals first|exact gA|(rw [List.length_set];omega)|skip
        all_goals(
          refine hK7 _ ?_
          first|rw [zJv (k:=k) (n:=inn.length) (rest:=rest) (by omega) (by with_reducible assumption)]|rw [zL1 (k:=k) (n:=inn.length) (rest:=rest) (by omega) (by with_reducible assumption)]
          have hml2:=ZR (f:=yY rest low who) (show k+1≤inn.length by omega)
          have hmk:=zJ2 (f:=yY rest low who) (show k<inn.length by omega)
          rw [hL]at hmk
          refine θB ?_
          refine hL1 _ ⟨k+1,(show k+1≤inn.length by omega),(show inn.length - (k+1)<inn.length - k by omega),?_⟩
          first|rw [show wG lost (k+1)=true from by unfold wG;rw [show wG lost k=true from by with_reducible assumption];rfl]|rw [show wG lost (k+1)=gb (mkB inn.length (yY rest low who) (k+1)) k from by rw [hmk];show(wG lost k||gb lost k)=_;rw [show wG lost k=false from by with_reducible assumption];rfl]
          refine zX rfl ?_ ?_ ?_<;>push_cast [zf,ze,↓zK,↓zJ]))
     ·
      refine zi ?_
      have hkk:k=inn.length:=by omega
      subst hkk
      rw [WR]
      rw [hL]
      refine hK5 _ ?_
      refine zL fun K8 hK8=> ?_
      refine θA ?_
      refine θU (fun hc=> ?_) fun hc=> ?_
      ·
       refine zL fun K9 hK9=> ?_
       have hany:wG lost inn.length=false:=by first|exact hc|simpa using hc
       have hr9:=(hres ()).2.1 (by omega) hany
       subst hr9
       refine θA ?_
       refine zV ?_
       refine zh [15,45,80,91,99,100,101,102,103,104,105,106,107,108,109,110,111,112,113,114,115] [96] (fun(k:Nat)=> [(15, .int .i64 k),(6, .sl 96 [] 0 inn.length 4)]) (fun k=> []) (fun k=> [(96,⟨.ex,4,dB (mkB inn.length (Zc inn who) k),none⟩)]) (fun k=>k≤inn.length) (fun k=>inn.length - k) 0 ?_ (Nat.zero_le _) ?_
       ·
        rw [VN]
        exact θX
       ·rintro k hk KL2 hL2
        have hml:=ZR (f:=Zc inn who) hk
        push_cast [↓zK,↓zJ]
        refine zL fun K10 hK10=> ?_
        refine θA ?_
        refine θU (fun hc=> ?_) fun hc=> ?_
        ·
         refine zW (hK10 _ ?_)
         refine zL fun K11 hK11=> ?_
         refine zV ?_
         refine zc false zQ zN ?_ rfl ?_
         ·kernel_rfl
         all_goals push_cast [↓zK,↓zJ]
         all_goals repeat'(first|(apply zO<;>(intro hg;(try push_cast at hg)))|apply And.intro|(intro hg;(try push_cast at hg)))
         all_goals try exact gA
         all_goals(
           refine hK11 _ ?_
           refine θB ?_
           refine hL2 _ ⟨k+1,(show k+1≤inn.length by omega),(show inn.length - (k+1)<inn.length - k by omega),?_⟩
           first|rw [zKe (k:=k) (n:=inn.length) (inn:=inn) (by omega) (by with_reducible assumption)]|rw [zMa (k:=k) (n:=inn.length) (inn:=inn) (by omega) (by with_reducible assumption)]
           refine zX rfl ?_ ?_ ?_<;>push_cast [zf,ze,↓zK,↓zJ])
        ·
         refine zi ?_
         have hkk:k=inn.length:=by omega
         subst hkk
         rw [WR]
         refine hK9 _ ?_
         refine θA ?_
         refine zY ⟨Or.inl rfl,?_⟩
         push_cast [zd,↓zK,↓zJ]
         all_goals first|rfl|exact⟨rfl,by simp [ym]⟩|(simp [ym];done)
      ·
       refine zW (hK8 _ ?_)
       have hany:wG lost inn.length=true:=by first|exact hc|simpa using hc
       have hr9:=(hres ()).2.2 (by omega) hany
       subst hr9
       refine θL fun K hK=> ?_
       refine θD 6 ?_
       refine θE hK ?_
       refine zL fun K hK=> ?_
       refine yN false zQ zN xR ?_ rfl ?_
       ·kernel_rfl
       intro E hE
       all_goals refine yb 4 (by decide) fun K9 hK9=> ?_
       all_goals push_cast [↓zK,↓zJ]
       all_goals repeat'(first|(apply zO<;>(intro hg;(try push_cast at hg)))|(refine⟨_,hLu,?_⟩;push_cast [↓zK,↓zJ])|apply And.intro|(intro hg;(try push_cast at hg)))
       all_goals try exact gA
       all_goals(refine hK9 _ _ ?_;clear hK9 K9)
       all_goals refine yb 1 (by decide) fun K9 hK9=> ?_
       all_goals push_cast [↓zK,↓zJ]
       all_goals repeat'(first|(apply zO<;>(intro hg;(try push_cast at hg)))|(refine⟨_,hF2 () (by omega) hany,?_⟩;push_cast [↓zK,↓zJ])|apply And.intro|(intro hg;(try push_cast at hg)))
       all_goals try exact gA
       all_goals(refine hK9 _ _ ?_;clear hK9 K9)
       all_goals push_cast [↓zK,↓zJ]
       all_goals repeat'(first|(apply zO<;>(intro hg;(try push_cast at hg)))|(refine⟨_,hLu,?_⟩;push_cast [↓zK,↓zJ])|(refine⟨_,hF2 () (by omega) hany,?_⟩;push_cast [↓zK,↓zJ])|apply And.intro|(intro hg;(try push_cast at hg)))
       all_goals first|exact gA|(refine hE _ _ ?_ ?_;kernel_rfl)|skip
       all_goals clear hE E
       all_goals(refine hK _ ?_;clear hK K)
       refine zL fun K12 hK12=> ?_
       refine θA ?_
       refine zV ?_
       refine zh [18,45,80,91,111,128,129,130,131,132,133,134,135,136,137,138,139,140,141,142,143,144,145,146,147,148,149,150] [96] (fun(k:Nat)=> [(18, .int .i64 k),(6, .sl 96 [] 0 inn.length 4)]) (fun k=> []) (fun k=> [(96,⟨.ex,4,dB (mkB inn.length (wX again away who) k),none⟩)]) (fun k=>k≤inn.length) (fun k=>inn.length - k) 0 ?_ (Nat.zero_le _) ?_
       ·
        rw [VN]
        exact θX
       ·rintro k hk KL3 hL3
        have hml:=ZR (f:=wX again away who) hk
        have hLa1:=hLa ()
        have hwl1:=hwl ()
        push_cast [↓zK,↓zJ]
        refine zL fun K13 hK13=> ?_
        refine θA ?_
        refine θU (fun hc=> ?_) fun hc=> ?_
        ·
         refine zW (hK13 _ ?_)
         refine zL fun K14 hK14=> ?_
         refine zV ?_
         refine zc false zQ zN ?_ rfl ?_
         ·kernel_rfl
         all_goals push_cast [↓zK,↓zJ]
         all_goals repeat'(first|(apply zO<;>(intro hg;(try push_cast at hg)))|apply And.intro|(intro hg;(try push_cast at hg)))
         all_goals try exact gA
         all_goals(
           refine hK14 _ ?_
           refine θB ?_
           refine hL3 _ ⟨k+1,(show k+1≤inn.length by omega),(show inn.length - (k+1)<inn.length - k by omega),?_⟩
           first|rw [zOM (k:=k) (n:=inn.length) (again:=again) (away:=away) (by omega) (by with_reducible assumption)]|rw [zON (k:=k) (n:=inn.length) (again:=again) (away:=away) (by omega) (by with_reducible assumption) (by with_reducible assumption)]|rw [zOO (k:=k) (n:=inn.length) (again:=again) (away:=away) (by omega) (by with_reducible assumption) (by with_reducible assumption)]
           refine zX rfl ?_ ?_ ?_<;>push_cast [zf,ze,↓zK,↓zJ])
        ·
         refine zi ?_
         have hkk:k=inn.length:=by omega
         subst hkk
         rw [WR]
         refine hK12 _ ?_
         refine θA ?_
         refine zY ⟨Or.inl rfl,?_⟩
         push_cast [zd,↓zK,↓zJ]
         all_goals first|rfl|exact⟨rfl,by simp [ym]⟩|(simp [ym];done)
theorem kw (x:L7): ∀(f:Nat) (inn:List Bool),x.Ok inn.length→xC inn inn.length<f→Fn Tryz.prog tyT 106 [.agg (dL7 x), .c (.lst 4 (dB inn))] [.c (.lst 4 (dB (yh x inn.length f inn)))]
 |0,inn,_,h=>absurd h (Nat.not_lt_zero _)
 |f+1,inn,hx,hc=>by
  obtain⟨n,hn⟩: ∃n,inn.length=n:=⟨_,rfl⟩
  obtain⟨top,hT⟩: ∃t,yV x inn inn.length=t:=⟨_,rfl⟩
  obtain⟨who,hW⟩: ∃t,Int.tmod top 2=t:=⟨_,rfl⟩
  obtain⟨goal,hG⟩: ∃t,ym inn.length (xU x inn top)=t:=⟨_,rfl⟩
  obtain⟨att,hAt⟩: ∃t,yk x inn.length inn who goal=t:=⟨_,rfl⟩
  obtain⟨rest,hR⟩: ∃t,yT inn att=t:=⟨_,rfl⟩
  obtain⟨low,hLo⟩: ∃t,yh x inn.length f rest=t:=⟨_,rfl⟩
  obtain⟨lost,hL⟩: ∃t,ym inn.length (yY rest low who)=t:=⟨_,rfl⟩
  obtain⟨away,hA⟩: ∃t,yk x inn.length inn (1 - who) lost=t:=⟨_,rfl⟩
  obtain⟨rest2,hR2⟩: ∃t,yT inn away=t:=⟨_,rfl⟩
  obtain⟨again,hAg⟩: ∃t,yh x inn.length f rest2=t:=⟨_,rfl⟩
  have hs:=Uk x inn.length f inn hT hW hG (by rw [hAt];exact hR) hLo hL hA
  rw [hR2,hAg]at hs
  have hrl:rest.length=inn.length:=by rw [←hR,qH]
  have hr2l:rest2.length=inn.length:=by rw [←hR2,qH]
  have hex:=Kw hx (inn:=inn) inn.length (Nat.le_refl _)
  rw [hT]at hex
  have hlt:0≤top→xC rest inn.length<xC inn inn.length:=fun ht=>by
   obtain⟨w,hw,hw3,hw4⟩:=hex.resolve_left (by omega)
   rw [←hR,←hAt]
   refine QW rfl hw hw3 ?_
   rw [←hG,yf hw]
   unfold xU
   rw [hw3,hw4]
   simp
  refine zGr x inn hx top who hT (fun _ ht=>⟨hW,by rw [←hW,VY ht];omega,by rw [←hW,VY ht];omega⟩) goal att rest low lost away rest2 again _ hG hAt hR (fun _=>by rw [←hLo];exact uT _ _ _ _) hL hA hR2 (fun _=>by rw [←hAg];exact uT _ _ _ _) (fun _ ht=> ?_) (fun _ ht ha=> ?_) (fun _=>⟨fun ht=> ?_,fun ht ha=> ?_,fun ht ha=> ?_⟩)
  ·have :=kw x f rest (by rw [hrl];exact hx) (by rw [hrl];have :=hlt ht;omega)
   rw [hrl,hLo]at this
   exact this
  ·have hlt2:xC rest2 inn.length<xC inn inn.length:=by
    obtain⟨a,ha1,ha2⟩:=wO.1 ha
    rw [←hR2,←hA]
    refine QW rfl ha1 ?_ ha2
    rw [←hL,yf ha1]at ha2
    unfold yY at ha2
    rw [Bool.and_eq_true,←hR,qx ha1,Bool.and_eq_true]at ha2
    exact ha2.1.1
   have :=kw x f rest2 (by rw [hr2l];exact hx) (by rw [hr2l];omega)
   rw [hr2l,hAg]at this
   exact this
  ·rw [hs,if_pos ht]
  ·rw [hs,if_neg (by omega),if_neg (by rw [ha];decide)]
  ·rw [hs,if_neg (by omega),if_pos ha]
def pkI (n v:Nat):List Int:=List.replicate v (-1)++List.replicate (n - v) 0
theorem zFt {n v:Nat}(h:v≤n):(pkI n v).length=n:=by unfold pkI;simp;omega
theorem pkI_0 (n:Nat):pkI n 0=List.replicate n 0:=by simp [pkI]
theorem pkI_n (n:Nat):pkI n n=noP n:=by simp [pkI,noP]
theorem zMB {n v:Nat}(h:v<n):(pkI n v).set v (-1)=pkI n (v+1):=by
 unfold pkI
 rw [List.set_append_right _ _ (by simp),List.length_replicate,Nat.sub_self,show n - v=(n - (v+1))+1 from by omega,List.replicate_succ,List.set_cons_zero,List.replicate_succ',List.append_assoc]
 rfl
theorem zKN {P:List (List Int)}{u m:Nat}{r:List Int}(hu:u<P.length)(hm:r.length≤m):List.take u ((dII P).set u D.hole)++ [D.lst 2 (dI (List.take m r))]++List.drop (u+1) ((dII P).set u D.hole)=dII (P.set u r):=by
 have e:dII (P.set u r)=(dII P).set u (D.lst 2 (dI r)):=by unfold dII;rw [List.map_set]
 have hl:u<(dII P).length:=by rw [WM];exact hu
 rw [e,List.take_of_length_le hm,List.take_set,List.set_eq_of_length_le (by simp;omega),List.drop_set_of_lt (by omega),List.set_eq_take_append_cons_drop,if_pos hl]
 simp
set_option maxRecDepth 20000 in
set_option maxHeartbeats 4000000 in
theorem zLw (g:Pa)(hok:qI g=true):FnT Tryz.prog tyT 107 [.agg (dPa g)] [0,2,1] [DII (qW g.a g.a.owner.length g.a.owner.length 0),DI (noP g.a.owner.length)]:=by
 obtain⟨hao,hpl,hpr⟩:=xj hok
 have hal:=yO hao
 have hrow:=fun v hv=>(xD hao (v:=v) hv).2.2
 have hset:=fun v j hv hj=>Zv (xD hao (v:=v) hv).2.2.2.2 (j:=j) hj
 obtain⟨n,hn⟩: ∃n,g.a.owner.length=n:=⟨_,rfl⟩
 rw [hn]at hal hpl hrow hset
 rw [hn]
 unfold dPa
 refine zMi (fn:=Tryz.f107) (rs:= [.cell 2 130]) zQ zN Tryz.func107 (by kernel_rfl) rfl rfl (by rw [Tryz.ntmps107];exact Nat.le_of_ble_eq_true rfl) rfl (by simp only [szA,List.mem_cons,List.not_mem_nil,or_false,forall_eq_or_imp,forall_eq,VT.cells,szL];try decide) rfl ?_
 rw [Tryz.ntmps107]
 push_cast
 (try rw [hn])
 (try rw [hpl])
 (try rw [hal.2.2])
 refine θA ?_
 refine θA ?_
 refine zL fun K hK=> ?_
 refine yN true zQ zN xR ?_ rfl ?_
 ·kernel_rfl
 intro E hE
 all_goals push_cast
 all_goals repeat'(first|(apply zO<;>(intro hg;push_cast at hg))|apply And.intro|(intro hg;push_cast at hg))
 all_goals first|exact gA|(refine hE _ _ ?_ ?_;kernel_rfl)|(exact zP (by omega))|skip
 all_goals clear hE E
 refine hK _ ?_;clear hK K
 refine zL fun K1 hK1=> ?_
 refine KA [64,65,66] [.sl 2, .sl 2, .sl 22, .sl 22, .sl 2] 4 ?_
 push_cast
 refine θA ?_
 refine zV ?_
 refine zh [4,5,6,7,24,25,26,27,28,29,30,31,32,33,34,35,36,37,38,39,40,41,42,43,44,45,46,47,48,49,50,51,52,53,54,55,56,57,58,59,60,61,62,63,64] [67,68] (fun(v:Nat)=> [(5, .int .i64 v),(4, .bp 4 0)]) (fun v=> [(4,[.sl 0 [] 0 n 2, .sl 2 [] 0 n 2, .sl 1 [] 0 n 22, .sl 67 [] 0 n 22, .sl 68 [] 0 n 2])]) (fun v=> [(67,⟨.ex,22,dII (qW g.a n v 0),none⟩),(68,⟨.ex,2,dI (pkI n v),none⟩)]) (fun v=>v≤n) (fun v=>n - v) 0 ?_ (by omega) ?_
 ·
  rw [zBk,pkI_0]
  refine zX rfl ?_ ?_ ?_<;>push_cast [zf,ze]
  all_goals(simp [dII,dI];done)
 ·rintro v hv KL0 hL0
  have hpv:=vz g.a n v 0
  have hpk:=zFt hv
  push_cast
  refine zL fun K2 hK2=> ?_
  refine θA ?_
  refine θU (fun hc=> ?_) fun hc=> ?_
  ·
   refine zW (hK2 _ ?_)
   refine zL fun K3 hK3=> ?_
   refine zV ?_
   refine θA ?_
   refine θA ?_
   refine zV ?_
   refine zh [4,6,7,33,34,35,36,37,38,39,40,41,42,43,44,45,46,47,48,49,50,51,52,53,54,55,56,57,58,59,60,61,62,63,64] [67,68] (fun(i:Nat)=> [(6, .int .i64 i),(4, .bp 4 0)]) (fun i=> [(4,[.sl 0 [] 0 n 2, .sl 2 [] 0 n 2, .sl 1 [] 0 n 22, .sl 67 [] 0 n 22, .sl 68 [] 0 n 2])]) (fun i=> [(67,⟨.ex,22,dII (qW g.a n v i),none⟩),(68,⟨.ex,2,dI (pkI n (v+1)),none⟩)]) (fun i=>i≤(gl g.a.next v).length) (fun i=>(gl g.a.next v).length - i) 0 ?_ (by omega) ?_
   ·
    rw [zMB (by omega)]
    exact θX
   ·rintro i hi KL1 hL1
    have hpv:=vz g.a n v i
    have hpk:=zFt (n:=n) (v:=v+1) (by omega)
    push_cast
    refine zL fun K4 hK4=> ?_
    refine θA ?_
    refine θU (fun hc=> ?_) fun hc=> ?_
    ·
     refine zW (hK4 _ ?_)
     refine zL fun K5 hK5=> ?_
     refine zV ?_
     refine θA ?_
     have hrv:=(hrow v (by omega)).2.1
     have hst:=hset v i (by omega) (by omega)
     have hps:=zBj hao (n:=n) (v:=v) (i:=i) (by omega) (by omega) (by omega)
     have hpe:(gl (qW g.a n v i) (gi (gl g.a.next v) i).toNat).length≤v+1:=by rw [jd (by omega)];exact zD2 _ _ _ _
     refine yN true zQ zN xR ?_ rfl ?_
     ·kernel_rfl
     intro E hE
     all_goals push_cast
     all_goals repeat'(first|(apply zO<;>(intro hg;push_cast at hg))|apply And.intro|(intro hg;push_cast at hg))
     all_goals first|exact gA|(refine hE _ _ ?_ ?_;kernel_rfl)|(rw [List.length_set,WM];omega)|(exact zP (by omega))|skip
     all_goals clear hE E
     refine hK5 _ ?_
     refine θB ?_
     refine hL1 _ ⟨i+1,by omega,by omega,?_⟩
     refine zX rfl ?_ ?_ ?_<;>push_cast [zf,ze]
     all_goals(rw [zKN (by omega) (by rw [List.length_append];exact Nat.le_refl _),hps])
    ·
     refine zi ?_
     have hii:i=(gl g.a.next v).length:=by omega
     subst hii
     rw [zBi]
     refine hK3 _ ?_
     refine θB ?_
     refine hL0 _ ⟨v+1,by omega,by omega,?_⟩
     exact θX
  ·
   refine zi ?_
   have hvv:v=n:=by omega
   subst hvv
   refine hK1 _ ?_
   refine zL fun K hK=> ?_
   refine zM zQ zN [32,33,34] rfl ?_
   push_cast
   repeat' apply And.intro
   all_goals try exact gB
   refine hK _ ?_;clear hK K
   refine zY ⟨Or.inl rfl,?_⟩
   push_cast [RetT,zt,yH,Ja,vZ,YG]
   rw [pkI_n]
   exact⟨⟨by omega,by omega,by omega⟩,by omega,rfl,by rw [jZ]⟩
set_option maxRecDepth 20000 in
set_option maxHeartbeats 4000000 in
theorem zBY (b:Bool):Fn Tryz.prog tyT 109 [.c (.bool b)] [.c (.int .i64 (if b then 1 else 0))]:=by
 refine θH (ts:= [2]) Tryz.func109 Tryz.ntmps109 ?_
 push_cast
 refine θA ?_
 refine zL fun K1 hK1=> ?_
 refine θA ?_
 refine θU (fun hc=> ?_) fun hc=> ?_
 ·
  refine θA ?_
  refine zY ⟨Or.inl rfl,?_⟩
  push_cast [zd]
  rw [show b=true from by with_reducible assumption];rfl
 ·
  refine zW (hK1 _ ?_)
  refine θA ?_
  refine zY ⟨Or.inl rfl,?_⟩
  push_cast [zd]
  rw [show b=false from by with_reducible assumption];rfl
theorem zHF {s:List Bool}{k:Nat}(h:k<s.length):(s.take (k+1)).map YZ=(s.take k).map YZ++ [YZ (gb s k)]:=by
 rw [List.take_add_one,List.map_append]
 unfold gb
 rw [List.getD_eq_getElem?_getD,List.getElem?_eq_getElem h]
 rfl
set_option maxRecDepth 20000 in
set_option maxHeartbeats 4000000 in
theorem zJn (g:Pa)(hok:qI g=true):Fn Tryz.prog tyT 50 [.agg (dPa g)] [.c (DI (wB g))]:=by
 obtain⟨hao,hpl,hpr⟩:=xj hok
 have hal:=yO hao
 have hxo:=zDZ hok (jZ g.a.owner.length)
 have hOf:=zLw g hok
 have hAl:=zJk g.a.owner.length hal.2.1
 have hWn:=kw (l7G g (noP g.a.owner.length)) (g.a.owner.length+1) (qu g.a.owner.length) (by rw [Qd];exact hxo) (by rw [Qd];exact Nat.lt_succ_of_le (Qi _ _))
 rw [Qd]at hWn
 have hbl:=uU g
 have hw9:yh (l7G g (noP g.a.owner.length)) g.a.owner.length (g.a.owner.length+1) (qu g.a.owner.length)=Xp g:=rfl
 rw [hw9,show qu g.a.owner.length=qu g.prio.length from by rw [hpl]]at hWn
 rw [←hpl]at hAl
 unfold wB
 generalize Xp g=win at hWn hbl⊢
 unfold dL7 l7G qu at hWn
 dsimp only at hWn
 unfold dPa at hOf⊢
 refine θH (ts:= [2]) Tryz.func50 Tryz.ntmps50 ?_
 push_cast
 refine θA ?_
 refine zL fun K hK=> ?_
 refine zCs false (zB7 Tryz.prog tyT) [7] (fun _ _ _ h=>zHa h) zQ zN xR ?_ rfl ?_
 ·kernel_rfl
 intro E hE
 all_goals refine ky 2 (by decide) fun K9 hK9=> ?_
 all_goals push_cast
 all_goals repeat'(first|(apply zO<;>(intro hg;push_cast at hg))|(refine⟨_,_,hOf,?_⟩;push_cast)|apply And.intro|(intro hg;push_cast at hg))
 all_goals try exact gA
 refine hK9 _ _ ?_;clear hK9 K9
 all_goals refine ky 4 (by decide) fun K9 hK9=> ?_
 all_goals push_cast
 all_goals repeat'(first|(apply zO<;>(intro hg;push_cast at hg))|(refine⟨_,hAl,?_⟩;push_cast)|apply And.intro|(intro hg;push_cast at hg))
 all_goals try exact gA
 refine hK9 _ _ ?_;clear hK9 K9
 all_goals refine ky 1 (by decide) fun K9 hK9=> ?_
 all_goals push_cast
 all_goals repeat'(first|(apply zO<;>(intro hg;push_cast at hg))|(refine⟨_,hWn,?_⟩;push_cast)|apply And.intro|(intro hg;push_cast at hg))
 all_goals try exact gA
 refine hK9 _ _ ?_;clear hK9 K9
 all_goals push_cast
 all_goals repeat'(first|(apply zO<;>(intro hg;push_cast at hg))|(refine⟨_,_,hOf,?_⟩;push_cast)|(refine⟨_,hAl,?_⟩;push_cast)|(refine⟨_,hWn,?_⟩;push_cast)|apply And.intro|(intro hg;push_cast at hg))
 all_goals first|exact gA|(refine hE _ _ ?_ ?_;kernel_rfl)|skip
 all_goals clear hE E
 refine hK _ ?_;clear hK K
 refine θA ?_
 refine zL fun K1 hK1=> ?_
 refine θA ?_
 refine zV ?_
 refine zh [4,5,14,15,16,17,18,19,20,21,22,23,24,25,26,27,28] [64] (fun(k:Nat)=> [(5, .int .i64 k),(4, .sl 64 [] 0 k 2)]) (fun k=> []) (fun k=> [(64,⟨.ex,2,dI ((win.take k).map YZ),none⟩)]) (fun k=>k≤win.length) (fun k=>win.length - k) 0 ?_ (by omega) ?_
 ·
  rw [show dI ((win.take 0).map YZ)= []from rfl]
  exact θX
 ·rintro k hk KL0 hL0
  have hfl:((win.take k).map YZ).length=k:=by rw [List.length_map,List.length_take];omega
  have hfn:YZ (gb win k)=1 - (if gb win k=true then 1 else 0):=by cases gb win k<;>rfl
  push_cast
  refine zL fun K2 hK2=> ?_
  refine θA ?_
  refine θU (fun hc=> ?_) fun hc=> ?_
  ·
   refine zW (hK2 _ ?_)
   refine zL fun K3 hK3=> ?_
   refine zV ?_
   refine zM zQ zN [] rfl ?_
   all_goals refine zj 6 fun K9 hK9=> ?_
   all_goals push_cast
   all_goals repeat'(first|(apply zO<;>(intro hg;push_cast at hg))|(refine⟨_,zBY _,?_⟩;push_cast)|apply And.intro|(intro hg;push_cast at hg))
   all_goals try exact gA
   refine hK9 _ ?_;clear hK9 K9
   all_goals push_cast
   all_goals repeat'(first|(apply zO<;>(intro hg;push_cast at hg))|(refine⟨_,zBY _,?_⟩;push_cast)|apply And.intro|(intro hg;push_cast at hg))
   all_goals try exact gA
   refine hK3 _ ?_
   refine θB ?_
   refine hL0 _ ⟨k+1,by omega,by omega,?_⟩
   (try rw [List.take_of_length_le (l:=(win.take k).map YZ) (by omega)])
   rw [zHF (by omega),hfn]
   exact θX
   all_goals first|rfl|(simp;done)
  ·
   refine zi ?_
   have hkk:k=win.length:=by omega
   subst hkk
   rw [List.take_length]
   refine hK1 _ ?_
   refine θA ?_
   refine zY ⟨Or.inl rfl,?_⟩
   push_cast [zd]
   all_goals first|rfl|exact⟨rfl,by simp⟩|(simp;done)
end Go.Proofs.YthepmdkpbjfdcaaGreat
