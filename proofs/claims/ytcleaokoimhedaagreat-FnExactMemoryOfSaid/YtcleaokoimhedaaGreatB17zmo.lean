/- The recursive solver of the reference: one step of its walk -/
import Derived.Test.YtcleaokoimhedaaGreatB16zmo
import Derived.Test.YtcleaokoimhedaaGreatB6zmo
import Derived.Test.YtcleaokoimhedaaGreatB11zmo
import Derived.Test.YtcleaokoimhedaaGreatGDzmo
namespace Go.Proofs.YtcleaokoimhedaaGreat
open Nat renaming reduceMod → zA, reduceMul → zB, reduceDiv → zC, reduceAdd → zD, reduceSub → zE, reduceEqDiff → zF, reduceBEq → zG, reduceLT → zH, reduceLeDiff → zI
open Go.RowKit
set_option linter.unusedVariables false
set_option linter.unusedSimpArgs false
set_option maxRecDepth 20000 in
set_option maxHeartbeats 8000000 in
theorem zGQ (x:L7)(inn:List Bool)(hx:x.Ok inn.length)(top who:Int)(hT:yc x inn inn.length=top)(hW: ∀_:Unit,0≤top→Int.tmod top 2=who∧0≤who∧who≤1)(goal att rest low lost away rest2 again res:List Bool)(hG:yg inn.length (xT x inn top)=goal)(hA:yn x inn.length inn who goal=att)(hR:yY inn att=rest)(hLo: ∀_:Unit,low.length=inn.length)(hL:yg inn.length (yN rest low who)=lost)(hA2:yn x inn.length inn (1 - who) lost=away)(hR2:yY inn away=rest2)(hLa: ∀_:Unit,again.length=inn.length)(hF1: ∀_:Unit,0≤top→Fn Tryz.prog tyT 92 [.agg (dL7 x), .c (.lst 4 (dB rest))] [.c (.lst 4 (dB low))])(hF2: ∀_:Unit,0≤top→vr lost inn.length=true→Fn Tryz.prog tyT 92 [.agg (dL7 x), .c (.lst 4 (dB rest2))] [.c (.lst 4 (dB again))])(hres: ∀_:Unit,(top<0→res=List.replicate inn.length false)∧(0≤top→vr lost inn.length=false→res=yg inn.length (Zf inn who))∧(0≤top→vr lost inn.length=true→res=yg inn.length (wU again away who))):Fn Tryz.prog tyT 92 [.agg (dL7 x), .c (.lst 4 (dB inn))] [.c (.lst 4 (dB res))]:=by
 have hn1:=hx.hn
 have hn3:=hx.hp
 have hgl:goal.length=inn.length:=by rw [←hG];exact qz _ _
 have hal:att.length=inn.length:=by rw [←hA];exact wu _ _ _ _ _
 have hrl:rest.length=inn.length:=by rw [←hR];simp [yY]
 have hll:lost.length=inn.length:=by rw [←hL];exact qz _ _
 have hwl:away.length=inn.length:=by rw [←hA2];exact wu _ _ _ _ _
 have hsl:rest2.length=inn.length:=by rw [←hR2];simp [yY]
 have hTp:=zJM x inn.length hx inn rfl
 rw [hT]at hTp
 have hAt:=KW x inn hx who goal hgl
 rw [hA,←List.take_of_length_le (l:=goal) (i:=inn.length) (by omega)]at hAt
 have hLs:=zBK inn att hn1 hal
 rw [hR]at hLs
 have hAu:=KW x inn hx (1 - who) lost hll
 rw [hA2,←List.take_of_length_le (l:=lost) (i:=inn.length) (by omega)]at hAu
 have hLu:=zBK inn away hn1 hwl
 rw [hR2]at hLu
 unfold dL7 at hTp hAt hAu hF1 hF2⊢
 have htr:=jo hx inn inn.length (by omega)
 rw [hT]at htr
 clear hT
 replace hrl: ∀_:Unit,rest.length=inn.length:=fun _=>hrl
 replace hwl: ∀_:Unit,away.length=inn.length:=fun _=>hwl
 clear hgl hal hll hsl
 refine θH (ts:= [4]) Tryz.func92 Tryz.ntmps92 ?_
 push_cast [↓zK,↓zJ]
 refine θA ?_
 refine θL fun K hK=> ?_
 refine θD 3 ?_
 refine θE hK ?_
 refine θA ?_
 refine zL fun K1 hK1=> ?_
 refine θA ?_
 refine θU (fun hc=> ?_) fun hc=> ?_
 ·
  have hr9:=(hres ()).1 (by omega)
  subst hr9
  refine θA ?_
  refine zZ ⟨Or.inl rfl,?_⟩
  push_cast [zd,↓zK,↓zJ]
  all_goals first|rfl|exact⟨rfl,by simp⟩|(simp;done)
 ·
  refine zU (hK1 _ ?_)
  refine θA ?_
  rw [(hW () (by omega)).1]
  have hwr:=(hW () (by omega)).2
  refine θA ?_
  refine zL fun K2 hK2=> ?_
  refine θA ?_
  refine zV ?_
  refine zg [9,33,34,35,36,37,38,39,40,41,42,43,44,45,46,47,48,49,50,51,52,53,54] [128] (fun(k:Nat)=> [(9, .int .i64 k),(8, .sl 128 [] 0 inn.length 4)]) (fun k=> []) (fun k=> [(128,⟨.ex,4,dB (mkB inn.length (xT x inn top) k),none⟩)]) (fun k=>k≤inn.length) (fun k=>inn.length - k) 0 ?_ (Nat.zero_le _) ?_
  ·
   rw [QA]
   exact θX
  ·rintro k hk KL0 hL0
   have hml:=wb (f:=xT x inn top) hk
   push_cast [↓zK,↓zJ]
   refine zL fun K3 hK3=> ?_
   refine θA ?_
   refine θU (fun hc=> ?_) fun hc=> ?_
   ·
    refine zU (hK3 _ ?_)
    refine zL fun K4 hK4=> ?_
    refine zV ?_
    refine zf false zO zN ?_ rfl ?_
    ·kernel_rfl
    all_goals push_cast [↓zK,↓zJ]
    all_goals repeat'(first|(apply zP<;>(intro hg;(try push_cast at hg)))|apply And.intro|(intro hg;(try push_cast at hg)))
    all_goals try exact gA
    all_goals(
      refine hK4 _ ?_
      refine θB ?_
      refine hL0 _ ⟨k+1,(show k+1≤inn.length by omega),(show inn.length - (k+1)<inn.length - k by omega),?_⟩
      first|rw [zC8 (k:=k) (n:=inn.length) (inn:=inn) (by omega) (by with_reducible assumption)]|rw [zFF (k:=k) (n:=inn.length) (inn:=inn) (by omega) (by with_reducible assumption)]
      refine zY rfl ?_ ?_ ?_<;>push_cast [zb,za,↓zK,↓zJ])
   ·
    refine zh ?_
    have hkk:k=inn.length:=by omega
    subst hkk
    rw [QN]
    rw [hG]
    refine hK2 _ ?_
    refine θL fun K hK=> ?_
    refine θD 6 ?_
    refine θD 1 ?_
    refine θE hK ?_
    refine θL fun K hK=> ?_
    all_goals refine zm 3 fun K9 hK9=> ?_
    all_goals push_cast [↓zK,↓zJ]
    all_goals repeat'(first|(apply zP<;>(intro hg;(try simp only [push_cast]at hg)))|(refine⟨_,hF1 () (by omega),?_⟩;push_cast [↓zK,↓zJ])|apply And.intro|(intro hg;(try simp only [push_cast]at hg)))
    all_goals try exact gA
    all_goals(refine hK9 _ ?_;clear hK9 K9)
    all_goals push_cast [↓zK,↓zJ]
    all_goals repeat'(first|(apply zP<;>(intro hg;(try simp only [push_cast]at hg)))|(refine⟨_,hF1 () (by omega),?_⟩;push_cast [↓zK,↓zJ])|apply And.intro|(intro hg;(try simp only [push_cast]at hg)))
    all_goals try exact gA
    all_goals(refine hK _ ?_;clear hK K)
    refine θA ?_
    refine θA ?_
    refine zL fun K5 hK5=> ?_
    refine θA ?_
    refine zV ?_
    refine zg [13,14,45,68,69,70,71,72,73,74,75,76,77,78,79,80,81,82,83,84,85,86,87,88,89,90,91,92,93,94,95,96] [192] (fun(k:Nat)=> [(14, .int .i64 k),(13, .bool (vr lost k)),(12, .sl 192 [] 0 inn.length 4)]) (fun k=> []) (fun k=> [(192,⟨.ex,4,dB (mkB inn.length (yN rest low who) k),none⟩)]) (fun k=>k≤inn.length) (fun k=>inn.length - k) 0 ?_ (Nat.zero_le _) ?_
    ·
     rw [QA,show vr lost 0=false from rfl]
     exact θX
    ·rintro k hk KL1 hL1
     have hml:=wb (f:=yN rest low who) hk
     have hrl1:=hrl ()
     have hLo1:=hLo ()
     push_cast [↓zK,↓zJ]
     refine zL fun K6 hK6=> ?_
     refine θA ?_
     refine θU (fun hc=> ?_) fun hc=> ?_
     ·
      refine zU (hK6 _ ?_)
      refine zL fun K7 hK7=> ?_
      refine zV ?_
      refine zL fun K hK=> ?_
      refine zf false zO zN ?_ rfl ?_
      ·kernel_rfl
      all_goals push_cast [↓zK,↓zJ]
      all_goals repeat'(first|(apply zP<;>(intro hg;(try simp only [push_cast]at hg)))|apply And.intro|(intro hg;(try simp only [push_cast]at hg)))
      all_goals try exact gA
      all_goals(refine hK _ ?_;clear hK K)
      all_goals(
        refine zf false zO zN ?_ rfl ?_
        ·kernel_rfl
        all_goals push_cast [↓zK,↓zJ]
        all_goals repeat'(first|(apply zP<;>(intro hg;(try push_cast at hg)))|apply And.intro|(intro hg;(try push_cast at hg)))
        all_goals first|exact gA|(rw [List.length_set];omega)|skip
        all_goals(
          refine hK7 _ ?_
          first|rw [zJT (k:=k) (n:=inn.length) (rest:=rest) (by omega) (by with_reducible assumption)]|rw [zLi (k:=k) (n:=inn.length) (rest:=rest) (by omega) (by with_reducible assumption)]
          have hml2:=wb (f:=yN rest low who) (show k+1≤inn.length by omega)
          have hmk:=zJZ (f:=yN rest low who) (show k<inn.length by omega)
          rw [hL]at hmk
          refine θB ?_
          refine hL1 _ ⟨k+1,(show k+1≤inn.length by omega),(show inn.length - (k+1)<inn.length - k by omega),?_⟩
          first|rw [show vr lost (k+1)=true from by unfold vr;rw [show vr lost k=true from by with_reducible assumption];rfl]|rw [show vr lost (k+1)=gb (mkB inn.length (yN rest low who) (k+1)) k from by rw [hmk];show(vr lost k||gb lost k)=_;rw [show vr lost k=false from by with_reducible assumption];rfl]
          refine zY rfl ?_ ?_ ?_<;>push_cast [zb,za,↓zK,↓zJ]))
     ·
      refine zh ?_
      have hkk:k=inn.length:=by omega
      subst hkk
      rw [QN]
      rw [hL]
      refine hK5 _ ?_
      refine zL fun K8 hK8=> ?_
      refine θA ?_
      refine θU (fun hc=> ?_) fun hc=> ?_
      ·
       refine zL fun K9 hK9=> ?_
       have hany:vr lost inn.length=false:=by first|exact hc|simpa using hc
       have hr9:=(hres ()).2.1 (by omega) hany
       subst hr9
       refine θA ?_
       refine zV ?_
       refine zg [15,45,80,91,99,100,101,102,103,104,105,106,107,108,109,110,111,112,113,114,115] [96] (fun(k:Nat)=> [(15, .int .i64 k),(6, .sl 96 [] 0 inn.length 4)]) (fun k=> []) (fun k=> [(96,⟨.ex,4,dB (mkB inn.length (Zf inn who) k),none⟩)]) (fun k=>k≤inn.length) (fun k=>inn.length - k) 0 ?_ (Nat.zero_le _) ?_
       ·
        rw [QA]
        exact θX
       ·rintro k hk KL2 hL2
        have hml:=wb (f:=Zf inn who) hk
        push_cast [↓zK,↓zJ]
        refine zL fun K10 hK10=> ?_
        refine θA ?_
        refine θU (fun hc=> ?_) fun hc=> ?_
        ·
         refine zU (hK10 _ ?_)
         refine zL fun K11 hK11=> ?_
         refine zV ?_
         refine zf false zO zN ?_ rfl ?_
         ·kernel_rfl
         all_goals push_cast [↓zK,↓zJ]
         all_goals repeat'(first|(apply zP<;>(intro hg;(try push_cast at hg)))|apply And.intro|(intro hg;(try push_cast at hg)))
         all_goals try exact gA
         all_goals(
           refine hK11 _ ?_
           refine θB ?_
           refine hL2 _ ⟨k+1,(show k+1≤inn.length by omega),(show inn.length - (k+1)<inn.length - k by omega),?_⟩
           first|rw [zKL (k:=k) (n:=inn.length) (inn:=inn) (by omega) (by with_reducible assumption)]|rw [zMT (k:=k) (n:=inn.length) (inn:=inn) (by omega) (by with_reducible assumption)]
           refine zY rfl ?_ ?_ ?_<;>push_cast [zb,za,↓zK,↓zJ])
        ·
         refine zh ?_
         have hkk:k=inn.length:=by omega
         subst hkk
         rw [QN]
         refine hK9 _ ?_
         refine θA ?_
         refine zZ ⟨Or.inl rfl,?_⟩
         push_cast [zd,↓zK,↓zJ]
         all_goals first|rfl|exact⟨rfl,by simp [yg]⟩|(simp [yg];done)
      ·
       refine zU (hK8 _ ?_)
       have hany:vr lost inn.length=true:=by first|exact hc|simpa using hc
       have hr9:=(hres ()).2.2 (by omega) hany
       subst hr9
       refine θL fun K hK=> ?_
       refine θD 6 ?_
       refine θE hK ?_
       refine zL fun K hK=> ?_
       refine zx false zO zN ya ?_ rfl ?_
       ·kernel_rfl
       intro E hE
       all_goals refine yb 4 (by decide) fun K9 hK9=> ?_
       all_goals push_cast [↓zK,↓zJ]
       all_goals repeat'(first|(apply zP<;>(intro hg;(try push_cast at hg)))|(refine⟨_,hLu,?_⟩;push_cast [↓zK,↓zJ])|apply And.intro|(intro hg;(try push_cast at hg)))
       all_goals try exact gA
       all_goals(refine hK9 _ _ ?_;clear hK9 K9)
       all_goals refine yb 1 (by decide) fun K9 hK9=> ?_
       all_goals push_cast [↓zK,↓zJ]
       all_goals repeat'(first|(apply zP<;>(intro hg;(try push_cast at hg)))|(refine⟨_,hF2 () (by omega) hany,?_⟩;push_cast [↓zK,↓zJ])|apply And.intro|(intro hg;(try push_cast at hg)))
       all_goals try exact gA
       all_goals(refine hK9 _ _ ?_;clear hK9 K9)
       all_goals push_cast [↓zK,↓zJ]
       all_goals repeat'(first|(apply zP<;>(intro hg;(try push_cast at hg)))|(refine⟨_,hLu,?_⟩;push_cast [↓zK,↓zJ])|(refine⟨_,hF2 () (by omega) hany,?_⟩;push_cast [↓zK,↓zJ])|apply And.intro|(intro hg;(try push_cast at hg)))
       all_goals first|exact gA|(refine hE _ _ ?_ ?_;kernel_rfl)|skip
       all_goals clear hE E
       all_goals(refine hK _ ?_;clear hK K)
       refine zL fun K12 hK12=> ?_
       refine θA ?_
       refine zV ?_
       refine zg [18,45,80,91,111,128,129,130,131,132,133,134,135,136,137,138,139,140,141,142,143,144,145,146,147,148,149,150] [96] (fun(k:Nat)=> [(18, .int .i64 k),(6, .sl 96 [] 0 inn.length 4)]) (fun k=> []) (fun k=> [(96,⟨.ex,4,dB (mkB inn.length (wU again away who) k),none⟩)]) (fun k=>k≤inn.length) (fun k=>inn.length - k) 0 ?_ (Nat.zero_le _) ?_
       ·
        rw [QA]
        exact θX
       ·rintro k hk KL3 hL3
        have hml:=wb (f:=wU again away who) hk
        have hLa1:=hLa ()
        have hwl1:=hwl ()
        push_cast [↓zK,↓zJ]
        refine zL fun K13 hK13=> ?_
        refine θA ?_
        refine θU (fun hc=> ?_) fun hc=> ?_
        ·
         refine zU (hK13 _ ?_)
         refine zL fun K14 hK14=> ?_
         refine zV ?_
         refine zf false zO zN ?_ rfl ?_
         ·kernel_rfl
         all_goals push_cast [↓zK,↓zJ]
         all_goals repeat'(first|(apply zP<;>(intro hg;(try push_cast at hg)))|apply And.intro|(intro hg;(try push_cast at hg)))
         all_goals try exact gA
         all_goals(
           refine hK14 _ ?_
           refine θB ?_
           refine hL3 _ ⟨k+1,(show k+1≤inn.length by omega),(show inn.length - (k+1)<inn.length - k by omega),?_⟩
           first|rw [zN8 (k:=k) (n:=inn.length) (again:=again) (away:=away) (by omega) (by with_reducible assumption)]|rw [zN9 (k:=k) (n:=inn.length) (again:=again) (away:=away) (by omega) (by with_reducible assumption) (by with_reducible assumption)]|rw [zOA (k:=k) (n:=inn.length) (again:=again) (away:=away) (by omega) (by with_reducible assumption) (by with_reducible assumption)]
           refine zY rfl ?_ ?_ ?_<;>push_cast [zb,za,↓zK,↓zJ])
        ·
         refine zh ?_
         have hkk:k=inn.length:=by omega
         subst hkk
         rw [QN]
         refine hK12 _ ?_
         refine θA ?_
         refine zZ ⟨Or.inl rfl,?_⟩
         push_cast [zd,↓zK,↓zJ]
         all_goals first|rfl|exact⟨rfl,by simp [yg]⟩|(simp [yg];done)
theorem JM (x:L7): ∀(f:Nat) (inn:List Bool),x.Ok inn.length→yz inn inn.length<f→Fn Tryz.prog tyT 92 [.agg (dL7 x), .c (.lst 4 (dB inn))] [.c (.lst 4 (dB (yV x inn.length f inn)))]
 |0,inn,_,h=>absurd h (Nat.not_lt_zero _)
 |f+1,inn,hx,hc=>by
  obtain⟨n,hn⟩: ∃n,inn.length=n:=⟨_,rfl⟩
  obtain⟨top,hT⟩: ∃t,yc x inn inn.length=t:=⟨_,rfl⟩
  obtain⟨who,hW⟩: ∃t,Int.tmod top 2=t:=⟨_,rfl⟩
  obtain⟨goal,hG⟩: ∃t,yg inn.length (xT x inn top)=t:=⟨_,rfl⟩
  obtain⟨att,hAt⟩: ∃t,yn x inn.length inn who goal=t:=⟨_,rfl⟩
  obtain⟨rest,hR⟩: ∃t,yY inn att=t:=⟨_,rfl⟩
  obtain⟨low,hLo⟩: ∃t,yV x inn.length f rest=t:=⟨_,rfl⟩
  obtain⟨lost,hL⟩: ∃t,yg inn.length (yN rest low who)=t:=⟨_,rfl⟩
  obtain⟨away,hA⟩: ∃t,yn x inn.length inn (1 - who) lost=t:=⟨_,rfl⟩
  obtain⟨rest2,hR2⟩: ∃t,yY inn away=t:=⟨_,rfl⟩
  obtain⟨again,hAg⟩: ∃t,yV x inn.length f rest2=t:=⟨_,rfl⟩
  have hs:=Un x inn.length f inn hT hW hG (by rw [hAt];exact hR) hLo hL hA
  rw [hR2,hAg]at hs
  have hrl:rest.length=inn.length:=by rw [←hR,xx]
  have hr2l:rest2.length=inn.length:=by rw [←hR2,xx]
  have hex:=Kw hx (inn:=inn) inn.length (Nat.le_refl _)
  rw [hT]at hex
  have hlt:0≤top→yz rest inn.length<yz inn inn.length:=fun ht=>by
   obtain⟨w,hw,hw3,hw4⟩:=hex.resolve_left (by omega)
   rw [←hR,←hAt]
   refine QT rfl hw hw3 ?_
   rw [←hG,yX hw]
   unfold xT
   rw [hw3,hw4]
   simp
  refine zGQ x inn hx top who hT (fun _ ht=>⟨hW,by rw [←hW,Va ht];omega,by rw [←hW,Va ht];omega⟩) goal att rest low lost away rest2 again _ hG hAt hR (fun _=>by rw [←hLo];exact Jm _ _ _ _) hL hA hR2 (fun _=>by rw [←hAg];exact Jm _ _ _ _) (fun _ ht=> ?_) (fun _ ht ha=> ?_) (fun _=>⟨fun ht=> ?_,fun ht ha=> ?_,fun ht ha=> ?_⟩)
  ·have :=JM x f rest (by rw [hrl];exact hx) (by rw [hrl];have :=hlt ht;omega)
   rw [hrl,hLo]at this
   exact this
  ·have hlt2:yz rest2 inn.length<yz inn inn.length:=by
    obtain⟨a,ha1,ha2⟩:=vS.1 ha
    rw [←hR2,←hA]
    refine QT rfl ha1 ?_ ha2
    rw [←hL,yX ha1]at ha2
    unfold yN at ha2
    rw [Bool.and_eq_true,←hR,qy ha1,Bool.and_eq_true]at ha2
    exact ha2.1.1
   have :=JM x f rest2 (by rw [hr2l];exact hx) (by rw [hr2l];omega)
   rw [hr2l,hAg]at this
   exact this
  ·rw [hs,if_pos ht]
  ·rw [hs,if_neg (by omega),if_neg (by rw [ha];decide)]
  ·rw [hs,if_neg (by omega),if_pos ha]
theorem qf {xs:List Int}{n:Int}(h:xN xs n=true){j:Nat}(hj:j<xs.length):0≤gi xs j∧gi xs j<n:=by
 have :=va h hj
 unfold qr at this
 have :=of_decide_eq_true this
 exact⟨this.1,this.2.1⟩
def prv (a:Ar)(u v:Nat):List Int:=((List.range v).filter fun(w:Nat)=>yI (gl a.next w) (u:Int)).map fun(w:Nat)=>(w:Int)
def Xj (a:Ar)(v i u:Nat):List Int:=prv a u v++if yI ((gl a.next v).take i) (u:Int)then [(v:Int)]else []
def xq (a:Ar)(n v i:Nat):List (List Int):=(List.range n).map (Xj a v i)
theorem vT (a:Ar)(n v i:Nat):(xq a n v i).length=n:=by simp [xq]
theorem jg {a:Ar}{n v i u:Nat}(h:u<n):gl (xq a n v i) u=Xj a v i u:=by
 unfold gl xq
 rw [List.getD_eq_getElem?_getD,List.getElem?_map,List.getElem?_range h]
 rfl
theorem zJx (a:Ar)(u:Nat):prv a u 0= []:=rfl
theorem zBV (a:Ar)(n:Nat):xq a n 0 0=List.replicate n []:=by
 refine List.ext_getElem (by simp [xq]) fun j h1 h2=> ?_
 simp [xq,Xj,zJx,yI,vH]
theorem zFV (a:Ar)(u v:Nat):(prv a u v).length≤v:=by
 unfold prv
 rw [List.length_map]
 exact Nat.le_trans (List.length_filter_le _ _) (by simp)
theorem zDg (a:Ar)(v i u:Nat):(Xj a v i u).length≤v+1:=by
 unfold Xj
 rw [List.length_append]
 have :=zFV a u v
 split<;>simp<;>omega
theorem zBT {a:Ar}{n v:Nat}:xq a n v (gl a.next v).length=xq a n (v+1) 0:=by
 unfold xq
 refine List.map_congr_left fun u _=> ?_
 unfold Xj
 rw [List.take_length,show(gl a.next (v+1)).take 0= []from rfl,show yI [] (u:Int)=false from rfl]
 unfold prv
 rw [List.range_succ,List.filter_append,List.map_append]
 by_cases h:yI (gl a.next v) (u:Int)=true<;>simp [h]
theorem zBU {a:Ar}(hok:yi a=true){n v i:Nat}(hv:v<a.owner.length)(hn:n=a.owner.length)(hi:i<(gl a.next v).length):
  (xq a n v i).set (gi (gl a.next v) i).toNat (gl (xq a n v i) (gi (gl a.next v) i).toNat++ [(v:Int)])=xq a n v (i+1):=by
 have hs:=(yl hok hv).2.2.2.2
 have hb:=qf hs hi
 have hu:(gi (gl a.next v) i).toNat<n:=by omega
 have hrise: ∀k j,j<k→k<(gl a.next v).length→gi (gl a.next v) j<gi (gl a.next v) k:=by
  intro k
  induction k with
  |zero=>intro j h;omega
  |succ k ih=>
   intro j hj hk
   have :=va hs hk
   unfold qr at this
   have :=of_decide_eq_true this
   have h1:gi (gl a.next v) k<gi (gl a.next v) (k+1):=by have :=this.2.2.resolve_left (by omega);simpa using this
   rcases Nat.lt_or_ge j k with h|h
   ·have :=ih j h (by omega);omega
   ·rw [show j=k by omega];exact h1
 refine List.ext_getElem (by simp [xq]) fun j h1 h2=> ?_
 rw [List.getElem_set]
 have hj:j<n:=by rw [vT]at h2;exact h2
 have e1:(xq a n v i)[j]'(by rw [vT];exact hj)=Xj a v i j:=by simp [xq]
 have e2:(xq a n v (i+1))[j]=Xj a v (i+1) j:=by simp [xq]
 rw [e2]
 have hno:yI ((gl a.next v).take i) (gi (gl a.next v) i)=false:=by
  refine Bool.eq_false_iff.2 fun h=> ?_
  obtain⟨k,hk,e⟩:=xt.1 h
  rw [List.length_take]at hk
  rw [ZT (by omega)]at e
  have :=hrise i k (by omega) hi
  omega
 split
 ·rename_i e
  subst e
  rw [jg hu]
  unfold Xj
  rw [YF hi,Int.toNat_of_nonneg hb.1,hno]
  simp
 ·rename_i e
  rw [e1]
  unfold Xj
  rw [YF hi]
  have :decide ((j:Int)=gi (gl a.next v) i)=false:=decide_eq_false (by omega)
  rw [this,Bool.or_false]
theorem zJw (a:Ar)(n u:Nat)(h:n=a.next.length):Xj a n 0 u=prv a u n:=by
 unfold Xj
 rw [show(gl a.next n).take 0= []from rfl,show yI [] (u:Int)=false from rfl]
 simp
theorem zFW {a:Ar}{u v:Nat}{w:Int}:w∈prv a u v↔0≤w∧w<v∧yI (gl a.next w.toNat) (u:Int)=true:=by
 unfold prv
 rw [List.mem_map]
 constructor
 ·rintro⟨k,hk,rfl⟩
  obtain⟨h1,h2⟩:=List.mem_filter.1 hk
  have :=List.mem_range.1 h1
  exact⟨by omega,by omega,by simpa using h2⟩
 ·rintro⟨h1,h2,h3⟩
  exact⟨w.toNat,List.mem_filter.2 ⟨List.mem_range.2 (by omega),h3⟩,by omega⟩
theorem zNn (a:Ar)(u v:Nat):(prv a u v).Pairwise (· < ·):=by
 unfold prv
 rw [List.pairwise_map]
 refine List.Pairwise.imp (fun h=> ?_) (List.Pairwise.filter _ List.pairwise_lt_range)
 omega
def l7G (g:Pa)(pick:List Int):L7:=⟨g.a.owner,g.prio,g.a.next,xq g.a g.a.owner.length g.a.owner.length 0,pick⟩
theorem zJL {g:Pa}(hl:g.a.next.length=g.a.owner.length){pick:List Int}{u:Nat}(hu:u<g.a.owner.length):gl (l7G g pick).prev u=prv g.a u g.a.owner.length:=by
 show gl (xq g.a _ _ 0) u=_
 rw [jg hu,zJw _ _ _ hl.symm]
theorem yJ {g:Pa}(h:yL g=true):yi g.a=true∧g.prio.length=g.a.owner.length∧∀v,v<g.a.owner.length→0≤gi g.prio v∧gi g.prio v≤40:=by
 unfold yL at h
 rw [Bool.and_eq_true,Bool.and_eq_true]at h
 have h2:=of_decide_eq_true h.2.1
 exact⟨h.1,h2,fun v hv=>by have :=va h.2.2 (k:=v) (by omega);exact of_decide_eq_true this⟩
theorem WS {g:Pa}(h:yL g=true){pick:List Int}(hp:pick.length=g.a.owner.length):(l7G g pick).Ok g.a.owner.length:=by
 obtain⟨ha,hpl,hpr⟩:=yJ h
 have hal:=yQ ha
 have hpv:=fun u (hu:u<g.a.owner.length)=>zJL (g:=g) hal.2.2 (pick:=pick) hu
 refine⟨hal.2.1,rfl,hpl,hal.2.2,vT _ _ _ _,hp,fun v hv=> ?_,fun v hv j hj=> ?_,hpr,fun v hv=> ?_,fun v hv i j hij hj=> ?_,fun u hu=> ?_,fun u hu m hm=> ?_,fun v hv j hj=> ?_,fun u hu i j hij hj=> ?_⟩
 ·have :=(yl ha hv).2.2.2.1
  show(gl g.a.next v).length≤256
  omega
 ·exact qf (yl ha hv).2.2.2.2 hj
 ·have :=yl ha hv
  show gi g.a.owner v=0∨gi g.a.owner v=1
  omega
 ·have hs:=(yl ha hv).2.2.2.2
  have key: ∀k j,j<k→k<(gl g.a.next v).length→gi (gl g.a.next v) j<gi (gl g.a.next v) k:=by
   intro k
   induction k with
   |zero=>intro j h;omega
   |succ k ih=>
    intro j hj hk
    have :=va hs hk
    unfold qr at this
    have :=of_decide_eq_true this
    have h1:gi (gl g.a.next v) k<gi (gl g.a.next v) (k+1):=by have :=this.2.2.resolve_left (by omega);simpa using this
    rcases Nat.lt_or_ge j k with h|h
    ·have :=ih j h (by omega);omega
    ·rw [show j=k by omega];exact h1
  have :=key j i hij hj
  show gi (gl g.a.next v) i≠gi (gl g.a.next v) j
  omega
 ·rw [hpv u hu]
  have :=zFV g.a u g.a.owner.length
  omega
 ·rw [hpv u hu]at hm⊢
  obtain⟨h1,h2,h3⟩:=zFW.1 (UA hm)
  refine⟨⟨h1,h2⟩,?_⟩
  obtain⟨i,hi,e⟩:=xt.1 h3
  exact⟨i,hi,e⟩
 ·have hb:=qf (yl ha hv).2.2.2.2 hj
  have hu:(gi (gl g.a.next v) j).toNat<g.a.owner.length:=by omega
  show∃m,m<(gl (l7G g pick).prev (gi (gl g.a.next v) j).toNat).length∧gi (gl (l7G g pick).prev (gi (gl g.a.next v) j).toNat) m=v
  rw [hpv _ hu]
  have hm:(v:Int)∈prv g.a (gi (gl g.a.next v) j).toNat g.a.owner.length:=zFW.2 ⟨by omega,by omega,by
   rw [Int.toNat_natCast,Int.toNat_of_nonneg hb.1]
   exact xt.2 ⟨j,hj,rfl⟩⟩
  obtain⟨m,hm1,hm2⟩:=xt.1 ((xe _ _).2 hm)
  exact⟨m,hm1,hm2⟩
 ·rw [hpv u hu]at hj⊢
  have :=List.pairwise_iff_getElem.1 (zNn g.a u g.a.owner.length) i j (by omega) hj hij
  unfold gi
  rw [List.getD_eq_getElem?_getD,List.getD_eq_getElem?_getD,List.getElem?_eq_getElem (by omega),List.getElem?_eq_getElem hj]
  simp only [Option.getD_some]
  omega
def noP (n:Nat):List Int:=List.replicate n (-1)
theorem xy (n:Nat):(noP n).length=n:=List.length_replicate ..
theorem Yf (n v:Nat)(h:v<n):gi (noP n) v= -1:=UB h
def qv (n:Nat):List Bool:=List.replicate n true
theorem QZ (n:Nat):(qv n).length=n:=List.length_replicate ..
theorem QH {n v:Nat}(h:v<n):gb (qv n) v=true:=by
 unfold gb qv
 rw [List.getD_eq_getElem?_getD,List.getElem?_replicate,if_pos h]
 rfl
noncomputable def Xl (g:Pa):List Bool:=yV (l7G g (noP g.a.owner.length)) g.a.owner.length (g.a.owner.length+1) (qv g.a.owner.length)
def ZP (b:Bool):Int:=if b then 0 else 1
noncomputable def zj (g:Pa):List Int:=(Xl g).map ZP
theorem uO (g:Pa):(Xl g).length=g.a.owner.length:=Jm _ _ _ _
theorem qL (g:Pa):(zj g).length=g.a.owner.length:=by unfold zj;rw [List.length_map,uO]
theorem XC {g:Pa}{v:Nat}(hv:v<g.a.owner.length):gi (zj g) v=ZP (gb (Xl g) v):=by
 unfold gi zj gb
 rw [List.getD_eq_getElem?_getD,List.getElem?_map,List.getD_eq_getElem?_getD,List.getElem?_eq_getElem (by rw [uO];exact hv)]
 rfl
theorem zKs {B:Nat}{xs:List (List Int)}{v:Nat}(h:qV B xs)(hv:v<xs.length):(gl xs v).length≤B:=h.2 _ (by unfold gl;rw [List.getD_eq_getElem?_getD,List.getElem?_eq_getElem hv];exact List.getElem_mem hv)
open Go Go.RowKit
def St.settleBA (al:List Nat)(ks:List CK)(b:Nat)(st:St):St:=
 match lk st.b b with
 |none=>st
 |some cells=>
  match lk (qx al ks st (zc b 0) [] cells).1.b b with
  |none=>st
  |some cells'=>if cells'.length=(qx al ks st (zc b 0) [] cells).2.length then(qx al ks st (zc b 0) [] cells).1.setB b (qx al ks st (zc b 0) [] cells).2 else st
theorem Qg {P:Program}{τ:Ty}(al:List Nat)(ks:List CK)(b:Nat){c:Code}{Q:Exit→St→Prop}{st:St}(h:awp P τ c Q (st.settleBA al ks b)):awp P τ c Q st:=by
 unfold St.settleBA at h
 split at h
 ·exact h
 ·rename_i cells hl
  split at h
  ·exact h
  ·rename_i cells' hl'
   split at h
   ·rename_i hlen
    intro lo w0 a w hr
    obtain⟨ow,hd,bk,hrr⟩:=hr
    obtain⟨cs,ty,g1,g2,g3⟩:=hrr.box b cells hl
    obtain⟨ow1,hd1,r1,r2⟩:=Xv al ks st ow hd (zc b 0) [] cells [] cs hrr (by simp [ze]) g3
    obtain⟨cs0,ty0,k1,k2,k3⟩:=r1.box b cells' hl'
    rw [List.nil_append]at r2
    have e0:cs0=cs:=by
     rw [g1]at k1
     simp only [Option.some.injEq,Obj.cells.injEq]at k1
     have :=k1.1
     simpa using this.symm
    subst e0
    have hrel:=VB r1 hl' k1 (i:=0) (by omega) k3 r2
    rw [jS rfl,jS hlen.symm,setRow_self w _ _ _ _ k1]at hrel
    exact h lo w0 a w ⟨ow1,hd1,bk,hrel⟩
   ·exact h
attribute [push_cast] St.settleBA
end Go.Proofs.YtcleaokoimhedaaGreat
