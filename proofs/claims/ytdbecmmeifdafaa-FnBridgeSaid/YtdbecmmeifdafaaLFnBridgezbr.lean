/- The statement on FnBridge: whatever the dice, the winner of the energy game is the winner of the parity game, the plan wins it, and the sum of a loop is positive exactly if player 0 wins the loop. -/
import Derived.Test.YtdbecmmeifdafaaB6zbr
import Derived.Test.YtdbecmmeifdafaaB7zbr
import Derived.Test.YtdbecmmeifdafaaB13zbr
import Derived.Test.YtdbecmmeifdafaaB15zbr
import Derived.Test.YtdbecmmeifdafaaB18zbr
namespace Go.Proofs.Ytdbecmmeifdafaa
open Nat renaming reduceMod → zA, reduceMul → zB, reduceDiv → zC, reduceAdd → zD, reduceSub → zE, reduceEqDiff → zF, reduceBEq → zG, reduceLT → zH, reduceLeDiff → zI
open Go.RowKit
set_option linter.unusedVariables false
set_option linter.unusedSimpArgs false
namespace lawFnBridge
open Go.ChangeShapes Go.WideShapes Go.ChangeAt Go.Joins
theorem own_law :ownKnob Try.prog.godebug=none:=by kernel_rfl
theorem lay_law :laidOutB Try.prog=true:=by kernel_rfl
set_option maxRecDepth 20000 in
set_option maxHeartbeats 4000000 in
theorem law (code:List Int)(hl:code.length≤9223372036854775807)(hbt: ∀k,k<code.length→0≤gi code k∧gi code k≤255):Fn Try.prog tyT 9 [.c (.lst 5 (dU code))] [.c (.bool true)]:=by
 have hBig:=zJl code hl
 refine zt (fn:=Try.f9) (ts:= [2]) Try.func9 (by kernel_rfl) rfl rfl (by rw [Try.ntmps9];exact Nat.le_of_ble_eq_true rfl) rfl (by simp only [szA,List.mem_cons,List.not_mem_nil,or_false,forall_eq_or_imp,forall_eq,VT.cells,szL];try decide) ?_
 rw [Try.ntmps9]
 simp only [push_cast,↓zK,↓zJ,↓reduceIte,zA,zB,zC,zD,zE,zF,zG,zH,zI,reduceCtorEq]
 refine zL fun K hK=> ?_
 refine zM zP zN [] rfl ?_
 simp only [push_cast,↓zK,↓zJ,↓reduceIte,zA,zB,zC,zD,zE,zF,zG,zH,zI,reduceCtorEq]
 repeat' apply And.intro
 all_goals try exact gB
 all_goals first|(refine hK _ ?_;clear hK K)|(simp only [push_cast];done)
 refine zL fun K1 hK1=> ?_
 refine zL fun K hK=> ?_
 refine zM zP zN [] rfl ?_
 all_goals refine zm 2 fun K9 hK9=> ?_
 all_goals simp only [push_cast,↓zK,↓zJ,↓reduceIte,zA,zB,zC,zD,zE,zF,zG,zH,zI,reduceCtorEq]
 all_goals repeat'(first|(apply zO<;>(intro hg;(try simp only [push_cast]at hg)))|(refine⟨_,hBig,?_⟩;simp only [push_cast,↓zK,↓zJ,↓reduceIte,zA,zB,zC,zD,zE,zF,zG,zH,zI,reduceCtorEq])|apply And.intro|(intro hg;(try simp only [push_cast]at hg)))
 all_goals try exact gA
 all_goals first|(refine hK9 _ ?_;clear hK9 K9)|(simp only [push_cast];done)
 all_goals simp only [push_cast,↓zK,↓zJ,↓reduceIte,zA,zB,zC,zD,zE,zF,zG,zH,zI,reduceCtorEq]
 all_goals repeat'(first|(apply zO<;>(intro hg;(try simp only [push_cast]at hg)))|(refine⟨_,hBig,?_⟩;simp only [push_cast,↓zK,↓zJ,↓reduceIte,zA,zB,zC,zD,zE,zF,zG,zH,zI,reduceCtorEq])|apply And.intro|(intro hg;(try simp only [push_cast]at hg)))
 all_goals try exact gA
 all_goals first|(refine hK _ ?_;clear hK K)|(simp only [push_cast];done)
 refine zU rfl (fun hc=> ?_) (fun hc=> ?_)<;>(try simp only [push_cast]at hc)
 ·
  refine zL fun K hK=> ?_
  refine zM zP zN [] rfl ?_
  simp only [push_cast,↓zK,↓zJ,↓reduceIte,zA,zB,zC,zD,zE,zF,zG,zH,zI,reduceCtorEq]
  repeat' apply And.intro
  all_goals try exact gB
  all_goals first|(refine hK _ ?_;clear hK K)|(simp only [push_cast];done)
  refine zX ?_
  (try simp only [zR,zS])
  refine⟨Or.inl rfl,?_⟩
  simp only [zg,push_cast,↓zK,↓zJ,↓reduceIte,zA,zB,zC,zD,zE,zF,zG,zH,zI,reduceCtorEq]
 ·
  refine zV ?_
  (try simp only [zR,zS,reduceIte,zF]);refine hK1 _ ?_
  have hby:xx code:=⟨by omega,hbt⟩
  have hR:=zGY code hby 33 (by omega)
  have hA:=zC0 code hby 33 0 4 (by omega)
  have hao:=zJV hby 33 0 (most:=4) (by omega)
  have hno:(arA code 33 0 4).owner.length≤4:=by have h1:=(zCG (code:=code) (seed:=33) (j:=0) (most:=4)).1;have h2:=zFQ hby 33 0 (most:=4) (by omega);omega
  generalize arA code 33 0 4=a at hA hao hno
  generalize arJ code 33 0 4=j1 at hA
  have hal:=zw hao
  have hD:=fun j=>YE hby 33 j 4 (by omega)
  have hpL:=zIC code 33 j1 4
  obtain⟨g,hg⟩: ∃g:Pa,g=⟨a,prL code 33 j1 4 a.owner.length⟩:=⟨_,rfl⟩
  have hga:g.a=a:=by rw [hg]
  have hgp:g.prio=prL code 33 j1 4 a.owner.length:=by rw [hg]
  have hpv: ∀v,v<a.owner.length→0≤gi g.prio v∧gi g.prio v<4:=fun v hv=>by rw [hgp,zJX hv];exact YT hby 33 _ (by omega)
  have hok:yD g=true:=by rw [hg];exact pa_ok hao (hpL _) (m:=4) (by omega) (fun v hv=>by rw [hpL]at hv;have :=hpv v hv;rw [hgp]at this;exact this)
  have hbr:zu g=true:=zDs hok (by rw [hga];omega) (fun v hv=>by rw [hga]at hv;have :=hpv v hv;omega)
  have hmb:vz (za g)=true:=by unfold vz;rw [yI hbr,xZ hbr];exact(Bool.true_and _).trans (decide_eq_true (by show(yk g g.a.owner.length).length≤8;rw [vr,hga];omega))
  have hLn:=pa_ln hok
  have hSo:=zFl g hLn hok
  obtain⟨c,hc9⟩:=jM g
  have hcL:=hc9 hbr
  have hBP:=ka g hLn c hc9
  have hBW:=UH g hLn c hc9
  rw [zGA hbr hmb hcL]at hBW
  have hwin:=zD4 hbr hmb hcL
  have hwl:=YF g
  have hLk:=UI (yn g) (by rw [hwl,hga];omega)
  have hplen:=zES (g:=g) (c:=c)
  unfold LnI at hplen
  have hPO:=Yj g.a hLn.a 0 (xj g c) hplen
  rw [hwin.pl]at hPO
  have hWB:=zEQ g hLn _ _ hwin
  have hrl:=zHl (yn g)
  clear hwin
  generalize yn g=won at*
  generalize Kf g=plan at*
  generalize xj g c=own at*
  unfold dPa at hSo hBP hBW hWB
  rw [hga]at hwl hPO
  rw [hga,hgp,←List.take_of_length_le (l:=prL code 33 j1 4 a.owner.length) (i:=a.owner.length) (by rw [hpL];exact Nat.le_refl _)]at hSo hBP hBW hWB
  unfold dAr at hA hPO
  refine zL fun K hK=> ?_
  refine zBR 17 zP zN [] rfl ?_
  simp only [push_cast,↓zK,↓zJ,↓reduceIte,zA,zB,zC,zD,zE,zF,zG,zH,zI,reduceCtorEq]
  all_goals repeat'(first|(apply zO<;>(intro hg;(try simp only [push_cast]at hg)))|(refine⟨_,hR,?_⟩;simp only [push_cast,↓zK,↓zJ,↓reduceIte,zA,zB,zC,zD,zE,zF,zG,zH,zI,reduceCtorEq])|apply And.intro|(intro hg;(try simp only [push_cast]at hg)))
  all_goals try exact gA
  all_goals first|(refine hK _ ?_;clear hK K)|(simp only [push_cast];done)
  refine zL fun K hK=> ?_
  refine zf false zP zN ?_ rfl ?_
  ·kernel_rfl
  all_goals refine zp 2 fun K9 hK9=> ?_
  all_goals simp only [push_cast,↓zK,↓zJ,↓reduceIte,zA,zB,zC,zD,zE,zF,zG,zH,zI,reduceCtorEq]
  all_goals repeat'(first|(apply zO<;>(intro hg;(try simp only [push_cast]at hg)))|(refine⟨_,_,hA,?_⟩;simp only [push_cast,↓zK,↓zJ,↓reduceIte,zA,zB,zC,zD,zE,zF,zG,zH,zI,reduceCtorEq])|apply And.intro|(intro hg;(try simp only [push_cast]at hg)))
  all_goals try exact gA
  all_goals first|(refine hK9 _ ?_;clear hK9 K9)|(simp only [push_cast];done)
  all_goals simp only [push_cast,↓zK,↓zJ,↓reduceIte,zA,zB,zC,zD,zE,zF,zG,zH,zI,reduceCtorEq]
  all_goals repeat'(first|(apply zO<;>(intro hg;(try simp only [push_cast]at hg)))|(refine⟨_,_,hA,?_⟩;simp only [push_cast,↓zK,↓zJ,↓reduceIte,zA,zB,zC,zD,zE,zF,zG,zH,zI,reduceCtorEq])|apply And.intro|(intro hg;(try simp only [push_cast]at hg)))
  all_goals try exact gA
  all_goals first|(refine hK _ ?_;clear hK K)|(simp only [push_cast];done)
  refine wi [.sl 2, .sl 27] 4 ?_
  simp only [push_cast,↓zK,↓zJ,↓reduceIte,zA,zB,zC,zD,zE,zF,zG,zH,zI,reduceCtorEq]
  refine zL fun K hK=> ?_
  refine zM zP zN [80,81] rfl ?_
  simp only [push_cast,↓zK,↓zJ,↓reduceIte,zA,zB,zC,zD,zE,zF,zG,zH,zI,reduceCtorEq]
  repeat' apply And.intro
  all_goals try exact gB
  all_goals first|(refine hK _ ?_;clear hK K)|(simp only [push_cast];done)
  refine zL fun K2 hK2=> ?_
  refine zL fun K hK=> ?_
  refine zM zP zN [] rfl ?_
  simp only [push_cast,↓zK,↓zJ,↓reduceIte,zA,zB,zC,zD,zE,zF,zG,zH,zI,reduceCtorEq]
  repeat' apply And.intro
  all_goals try exact gB
  all_goals first|(refine hK _ ?_;clear hK K)|(simp only [push_cast];done)
  refine zT ?_
  refine zd [4,5,6,17,22,23,24,25,26,27,28,29,30,31,32,33,34,35] [64,65,82] (fun(p:Nat×Nat)=> [(6, .int .i64 p.1),(4, .bp 4 0),(5, .bp 5 0)]) (fun p=> [(4,[.sl 64 [] 0 a.owner.length 2, .sl 65 [] 0 a.next.length 27]),(5,[.sl 64 [] 0 a.owner.length 2, .sl 65 [] 0 a.next.length 27, .sl 82 [] 0 p.1 2]),(17,[.sl 0 [] 0 code.length 5, .int .i64 (nI code p.2), .int .u64 (nH code 33 p.2)])]) (fun p=> [(64,⟨.ex,2,dI a.owner,none⟩),(65,⟨.ex,27,dII a.next,none⟩),(82,⟨.ex,2,dI (prL code 33 j1 4 p.1),none⟩)]) (fun p=>p.1≤a.owner.length∧p.2=j1+p.1) (fun p=>a.owner.length - p.1) (0,j1) ?_ ⟨Nat.zero_le _,rfl⟩ ?_
  ·
   rw [show dI (prL code 33 j1 4 0)= []from rfl]
   refine zW rfl ?_ ?_ ?_<;>simp only [zc,zb,push_cast,↓zK,↓zJ,↓reduceIte,zA,zB,zC,zD,zE,zF,zG,zH,zI,reduceCtorEq]
  ·rintro⟨v,j⟩ ⟨hv,hj⟩ KL0 hL0
   dsimp only at hv hj
   have hplv:=hpL v
   simp only [push_cast,↓zK,↓zJ,↓reduceIte,zA,zB,zC,zD,zE,zF,zG,zH,zI,reduceCtorEq]
   refine zL fun K3 hK3=> ?_
   refine zL fun K hK=> ?_
   refine zM zP zN [] rfl ?_
   simp only [push_cast,↓zK,↓zJ,↓reduceIte,zA,zB,zC,zD,zE,zF,zG,zH,zI,reduceCtorEq]
   repeat' apply And.intro
   all_goals try exact gB
   all_goals first|(refine hK _ ?_;clear hK K)|(simp only [push_cast];done)
   refine zU rfl (fun hc=> ?_) (fun hc=> ?_)<;>(try simp only [push_cast]at hc)
   ·
    refine zV ?_
    (try simp only [zR,zS,reduceIte,zF]);refine hK3 _ ?_
    refine zL fun K4 hK4=> ?_
    refine zT ?_
    refine zv false zP zN yj ?_ rfl ?_
    ·kernel_rfl
    intro E hE
    all_goals refine yT 4 (by decide) fun K9 hK9=> ?_
    all_goals simp only [push_cast,↓zK,↓zJ,↓reduceIte,zA,zB,zC,zD,zE,zF,zG,zH,zI,reduceCtorEq]
    all_goals repeat'(first|(apply zO<;>(intro hg;(try simp only [push_cast]at hg)))|(refine⟨_,_,hD j,?_⟩;simp only [push_cast,↓zK,↓zJ,↓reduceIte,zA,zB,zC,zD,zE,zF,zG,zH,zI,reduceCtorEq])|apply And.intro|(intro hg;(try simp only [push_cast]at hg)))
    all_goals try exact gA
    all_goals first|(refine hK9 _ _ ?_;clear hK9 K9)|(simp only [push_cast];done)
    all_goals simp only [push_cast,↓zK,↓zJ,↓reduceIte,zA,zB,zC,zD,zE,zF,zG,zH,zI,reduceCtorEq]
    all_goals repeat'(first|(apply zO<;>(intro hg;(try simp only [push_cast]at hg)))|(refine⟨_,_,hD j,?_⟩;simp only [push_cast,↓zK,↓zJ,↓reduceIte,zA,zB,zC,zD,zE,zF,zG,zH,zI,reduceCtorEq])|apply And.intro|(intro hg;(try simp only [push_cast]at hg)))
    all_goals first|exact gA|(refine hE _ _ ?_ ?_;kernel_rfl)|skip
    all_goals clear hE E
    (try simp only [zR,zS,reduceIte,zF]);refine hK4 _ ?_
    refine XK [80,81] [.sl 2, .sl 27, .sl 2] 5 ?_
    simp only [push_cast,↓zK,↓zJ,↓reduceIte,zA,zB,zC,zD,zE,zF,zG,zH,zI,reduceCtorEq]
    refine zM zP zN [] rfl ?_
    simp only [push_cast,↓zK,↓zJ,↓reduceIte,zA,zB,zC,zD,zE,zF,zG,zH,zI,reduceCtorEq]
    repeat' apply And.intro
    all_goals try exact gB
    refine hL0 _ ⟨(v+1,j+1),⟨by dsimp only;omega,by dsimp only;omega⟩,by dsimp only;omega,?_⟩
    (try rw [List.take_of_length_le (l:=prL code 33 j1 4 v) (by omega)])
    rw [prL_s,←hj]
    refine zW rfl ?_ ?_ ?_<;>simp only [zc,zb,push_cast,↓zK,↓zJ,↓reduceIte,zA,zB,zC,zD,zE,zF,zG,zH,zI,reduceCtorEq]
   ·
    refine ze ?_
    have hvv:v=a.owner.length:=by omega
    subst hvv
    (try simp only [zR,zS,reduceIte,zF]);refine hK2 _ ?_
    refine zL fun K hK=> ?_
    refine zM zP zN [] rfl ?_
    all_goals refine zm 2 fun K9 hK9=> ?_
    all_goals simp only [push_cast,↓zK,↓zJ,↓reduceIte,zA,zB,zC,zD,zE,zF,zG,zH,zI,reduceCtorEq]
    all_goals repeat'(first|(apply zO<;>(intro hg;(try simp only [push_cast]at hg)))|(refine⟨_,hSo,?_⟩;simp only [push_cast,↓zK,↓zJ,↓reduceIte,zA,zB,zC,zD,zE,zF,zG,zH,zI,reduceCtorEq])|apply And.intro|(intro hg;(try simp only [push_cast]at hg)))
    all_goals try exact gA
    all_goals first|(refine hK9 _ ?_;clear hK9 K9)|(simp only [push_cast];done)
    all_goals simp only [push_cast,↓zK,↓zJ,↓reduceIte,zA,zB,zC,zD,zE,zF,zG,zH,zI,reduceCtorEq]
    all_goals repeat'(first|(apply zO<;>(intro hg;(try simp only [push_cast]at hg)))|(refine⟨_,hSo,?_⟩;simp only [push_cast,↓zK,↓zJ,↓reduceIte,zA,zB,zC,zD,zE,zF,zG,zH,zI,reduceCtorEq])|apply And.intro|(intro hg;(try simp only [push_cast]at hg)))
    all_goals try exact gA
    all_goals first|(refine hK _ ?_;clear hK K)|(simp only [push_cast];done)
    refine zL fun K hK=> ?_
    refine zM zP zN [] rfl ?_
    all_goals refine zm 2 fun K9 hK9=> ?_
    all_goals simp only [push_cast,↓zK,↓zJ,↓reduceIte,zA,zB,zC,zD,zE,zF,zG,zH,zI,reduceCtorEq]
    all_goals repeat'(first|(apply zO<;>(intro hg;(try simp only [push_cast]at hg)))|(refine⟨_,hBP,?_⟩;simp only [push_cast,↓zK,↓zJ,↓reduceIte,zA,zB,zC,zD,zE,zF,zG,zH,zI,reduceCtorEq])|apply And.intro|(intro hg;(try simp only [push_cast]at hg)))
    all_goals try exact gA
    all_goals first|(refine hK9 _ ?_;clear hK9 K9)|(simp only [push_cast];done)
    all_goals simp only [push_cast,↓zK,↓zJ,↓reduceIte,zA,zB,zC,zD,zE,zF,zG,zH,zI,reduceCtorEq]
    all_goals repeat'(first|(apply zO<;>(intro hg;(try simp only [push_cast]at hg)))|(refine⟨_,hBP,?_⟩;simp only [push_cast,↓zK,↓zJ,↓reduceIte,zA,zB,zC,zD,zE,zF,zG,zH,zI,reduceCtorEq])|apply And.intro|(intro hg;(try simp only [push_cast]at hg)))
    all_goals try exact gA
    all_goals first|(refine hK _ ?_;clear hK K)|(simp only [push_cast];done)
    refine zL fun K hK=> ?_
    refine zM zP zN [] rfl ?_
    simp only [push_cast,↓zK,↓zJ,↓reduceIte,zA,zB,zC,zD,zE,zF,zG,zH,zI,reduceCtorEq]
    repeat' apply And.intro
    all_goals try exact gB
    all_goals first|(refine hK _ ?_;clear hK K)|(simp only [push_cast];done)
    refine zL fun K5 hK5=> ?_
    refine zL fun K hK=> ?_
    refine zM zP zN [] rfl ?_
    simp only [push_cast,↓zK,↓zJ,↓reduceIte,zA,zB,zC,zD,zE,zF,zG,zH,zI,reduceCtorEq]
    repeat' apply And.intro
    all_goals try exact gB
    all_goals first|(refine hK _ ?_;clear hK K)|(simp only [push_cast];done)
    refine zT ?_
    refine zd [9,10,42,43,44,45,46,47,48,49,50,51,52,53,54,55,56] [144] (fun(k:Nat)=> [(10, .int .i64 k),(9, .sl 144 [] 0 (rgL won k).length 2)]) (fun k=> []) (fun k=> [(144,⟨.ex,2,dI (rgL won k),none⟩)]) (fun k=>k≤won.length) (fun k=>won.length - k) 0 ?_ (by omega) ?_
    ·
     rw [rgL_0]
     rw [show dI ([]:List Int)= []from rfl]
     refine zW rfl ?_ ?_ ?_<;>simp only [zc,zb,push_cast,↓zK,↓zJ,↓reduceIte,zA,zB,zC,zD,zE,zF,zG,zH,zI,reduceCtorEq]
    ·rintro k hk KL1 hL1
     have hrk:=hrl k
     simp only [push_cast,↓zK,↓zJ,↓reduceIte,zA,zB,zC,zD,zE,zF,zG,zH,zI,reduceCtorEq]
     refine zL fun K6 hK6=> ?_
     refine zL fun K hK=> ?_
     refine zM zP zN [] rfl ?_
     simp only [push_cast,↓zK,↓zJ,↓reduceIte,zA,zB,zC,zD,zE,zF,zG,zH,zI,reduceCtorEq]
     repeat' apply And.intro
     all_goals try exact gB
     all_goals first|(refine hK _ ?_;clear hK K)|(simp only [push_cast];done)
     refine zU rfl (fun hc=> ?_) (fun hc=> ?_)<;>(try simp only [push_cast]at hc)
     ·
      refine zV ?_
      (try simp only [zR,zS,reduceIte,zF]);refine hK6 _ ?_
      refine zL fun K7 hK7=> ?_
      refine zT ?_
      refine zL fun K hK=> ?_
      refine zM zP zN [] rfl ?_
      simp only [push_cast,↓zK,↓zJ,↓reduceIte,zA,zB,zC,zD,zE,zF,zG,zH,zI,reduceCtorEq]
      repeat' apply And.intro
      all_goals try exact gB
      all_goals first|(refine hK _ ?_;clear hK K)|(simp only [push_cast];done)
      refine zU rfl (fun hc=> ?_) (fun hc=> ?_)<;>(try simp only [push_cast]at hc)
      ·
       refine zM zP zN [] rfl ?_
       simp only [push_cast,↓zK,↓zJ,↓reduceIte,zA,zB,zC,zD,zE,zF,zG,zH,zI,reduceCtorEq]
       repeat' apply And.intro
       all_goals try exact gB
       (try simp only [zR,zS,reduceIte,zF]);refine hK7 _ ?_
       refine zM zP zN [] rfl ?_
       simp only [push_cast,↓zK,↓zJ,↓reduceIte,zA,zB,zC,zD,zE,zF,zG,zH,zI,reduceCtorEq]
       repeat' apply And.intro
       all_goals try exact gB
       refine hL1 _ ⟨k+1,by omega,by omega,?_⟩
       rw [zHu (won:=won) (k:=k) (by omega)]
       simp only [List.length_append,List.length_cons,List.length_nil,Nat.zero_add]
       refine zW rfl ?_ ?_ ?_<;>simp only [zc,zb,push_cast,↓zK,↓zJ,↓reduceIte,zA,zB,zC,zD,zE,zF,zG,zH,zI,reduceCtorEq]
      ·
       refine zV ?_
       (try simp only [zR,zS,reduceIte,zF]);refine hK7 _ ?_
       refine zM zP zN [] rfl ?_
       simp only [push_cast,↓zK,↓zJ,↓reduceIte,zA,zB,zC,zD,zE,zF,zG,zH,zI,reduceCtorEq]
       repeat' apply And.intro
       all_goals try exact gB
       refine hL1 _ ⟨k+1,by omega,by omega,?_⟩
       rw [zJQ (won:=won) (k:=k) (by omega)]
       refine zW rfl ?_ ?_ ?_<;>simp only [zc,zb,push_cast,↓zK,↓zJ,↓reduceIte,zA,zB,zC,zD,zE,zF,zG,zH,zI,reduceCtorEq]
     ·
      refine ze ?_
      have hkk:k=a.owner.length:=by omega
      subst hkk
      (try simp only [zR,zS,reduceIte,zF]);refine hK5 _ ?_
      refine zL fun K8 hK8=> ?_
      refine zL fun K hK=> ?_
      refine zf false zP zN ?_ rfl ?_
      ·kernel_rfl
      all_goals refine zp 2 fun K9 hK9=> ?_
      all_goals simp only [push_cast,↓zK,↓zJ,↓reduceIte,zA,zB,zC,zD,zE,zF,zG,zH,zI,reduceCtorEq]
      all_goals repeat'(first|(apply zO<;>(intro hg;(try simp only [push_cast]at hg)))|(refine⟨_,hBW,?_⟩;simp only [push_cast,↓zK,↓zJ,↓reduceIte,zA,zB,zC,zD,zE,zF,zG,zH,zI,reduceCtorEq])|apply And.intro|(intro hg;(try simp only [push_cast]at hg)))
      all_goals try exact gA
      all_goals first|(refine hK9 _ ?_;clear hK9 K9)|(simp only [push_cast];done)
      all_goals refine zp 2 fun K9 hK9=> ?_
      all_goals simp only [push_cast,↓zK,↓zJ,↓reduceIte,zA,zB,zC,zD,zE,zF,zG,zH,zI,reduceCtorEq]
      all_goals repeat'(first|(apply zO<;>(intro hg;(try simp only [push_cast]at hg)))|(refine⟨_,hLk,?_⟩;simp only [push_cast,↓zK,↓zJ,↓reduceIte,zA,zB,zC,zD,zE,zF,zG,zH,zI,reduceCtorEq])|apply And.intro|(intro hg;(try simp only [push_cast]at hg)))
      all_goals try exact gA
      all_goals first|(refine hK9 _ ?_;clear hK9 K9)|(simp only [push_cast];done)
      all_goals refine zp 5 fun K9 hK9=> ?_
      all_goals simp only [push_cast,↓zK,↓zJ,↓reduceIte,zA,zB,zC,zD,zE,zF,zG,zH,zI,reduceCtorEq]
      all_goals repeat'(first|(apply zO<;>(intro hg;(try simp only [push_cast]at hg)))|(refine⟨_,hPO,?_⟩;simp only [push_cast,↓zK,↓zJ,↓reduceIte,zA,zB,zC,zD,zE,zF,zG,zH,zI,reduceCtorEq])|apply And.intro|(intro hg;(try simp only [push_cast]at hg)))
      all_goals try exact gA
      all_goals first|(refine hK9 _ ?_;clear hK9 K9)|(simp only [push_cast];done)
      all_goals refine zp 7 fun K9 hK9=> ?_
      all_goals simp only [push_cast,↓zK,↓zJ,↓reduceIte,zA,zB,zC,zD,zE,zF,zG,zH,zI,reduceCtorEq]
      all_goals repeat'(first|(apply zO<;>(intro hg;(try simp only [push_cast]at hg)))|(refine⟨_,hWB,?_⟩;simp only [push_cast,↓zK,↓zJ,↓reduceIte,zA,zB,zC,zD,zE,zF,zG,zH,zI,reduceCtorEq])|apply And.intro|(intro hg;(try simp only [push_cast]at hg)))
      all_goals try exact gA
      all_goals first|(refine hK9 _ ?_;clear hK9 K9)|(simp only [push_cast];done)
      all_goals simp only [push_cast,↓zK,↓zJ,↓reduceIte,zA,zB,zC,zD,zE,zF,zG,zH,zI,reduceCtorEq]
      all_goals repeat'(first|(apply zO<;>(intro hg;(try simp only [push_cast]at hg)))|(refine⟨_,hBW,?_⟩;simp only [push_cast,↓zK,↓zJ,↓reduceIte,zA,zB,zC,zD,zE,zF,zG,zH,zI,reduceCtorEq])|(refine⟨_,hLk,?_⟩;simp only [push_cast,↓zK,↓zJ,↓reduceIte,zA,zB,zC,zD,zE,zF,zG,zH,zI,reduceCtorEq])|(refine⟨_,hPO,?_⟩;simp only [push_cast,↓zK,↓zJ,↓reduceIte,zA,zB,zC,zD,zE,zF,zG,zH,zI,reduceCtorEq])|(refine⟨_,hWB,?_⟩;simp only [push_cast,↓zK,↓zJ,↓reduceIte,zA,zB,zC,zD,zE,zF,zG,zH,zI,reduceCtorEq])|apply And.intro|(intro hg;(try simp only [push_cast]at hg)))
      all_goals try exact gA
      all_goals first|(refine hK _ ?_;clear hK K)|(simp only [push_cast];done)
      all_goals(
        refine zU rfl (fun hc=> ?_) (fun hc=> ?_)
        skip
        ·exfalso;first|(cases hc;done)|(simp only [push_cast]at hc;done)|(simp only [push_cast]at hc;omega)|omega
        refine zV ?_
        (try simp only [zR,zS,reduceIte,zF]);refine hK8 _ ?_
        have hP1:=ug code hby 33 j a hao 0
        have hfu0:=zCW hby 33 hao 0 j
        have hl0:=QR code 33 a 0 j a.owner.length
        generalize pL code 33 a 0 j a.owner.length=p0 at hP1 hfu0 hl0
        generalize pJ a 0 j a.owner.length=j2 at hP1
        have hP2:=ug code hby 33 j2 a hao 1
        have hfu1:=zCW hby 33 hao 1 j2
        have hl1:=QR code 33 a 1 j2 a.owner.length
        generalize pL code 33 a 1 j2 a.owner.length=p1 at hP2 hfu1 hl1
        generalize pJ a 1 j2 a.owner.length=j3 at hP2
        have hD2:=YE hby 33 j3 a.owner.length (by omega)
        have hv0:=YT hby 33 j3 (n:=a.owner.length) (by omega)
        generalize dv code 33 j3 a.owner.length=v0 at hD2 hv0
        have hPl:=zFj a (zHI hao) hao p0 p1 hfu0 hfu1 v0 hv0
        have hplay:=zCr hao hfu0 hfu1 hv0
        have hlen:=zEP a p0 p1 v0
        generalize Qj a p0 p1 v0=l at hPl hplay hlen
        have hla:xN g.a l=true:=by rw [hga];exact hplay.ok
        have hll:=hplay.len
        have hsg:=zEO hbr hla (by rw [hga];omega)
        have hBL:=kY g hLn l hlen
        have hPW:=zB2 g hLn hok l hlen hla
        generalize Yp g l=S at hBL hsg
        generalize Int.tmod (wN g l.loop l.loop.length) 2=T at hPW hsg
        unfold dAr at hP1 hP2 hPl
        unfold dPa dLs at hBL hPW
        unfold dLs at hPl
        rw [hga,hgp,←List.take_of_length_le (l:=prL code 33 j1 4 a.owner.length) (i:=a.owner.length) (by rw [hpL];exact Nat.le_refl _)]at hBL hPW
        refine zL fun K hK=> ?_
        refine zv false zP zN yj ?_ rfl ?_
        ·kernel_rfl
        intro E hE
        all_goals refine yT 4 (by decide) fun K9 hK9=> ?_
        all_goals simp only [push_cast,↓zK,↓zJ,↓reduceIte,zA,zB,zC,zD,zE,zF,zG,zH,zI,reduceCtorEq]
        all_goals repeat'(first|(apply zO<;>(intro hg;(try simp only [push_cast]at hg)))|(refine⟨_,_,hP1,?_⟩;simp only [push_cast,↓zK,↓zJ,↓reduceIte,zA,zB,zC,zD,zE,zF,zG,zH,zI,reduceCtorEq])|(refine⟨_,_,hP2,?_⟩;simp only [push_cast,↓zK,↓zJ,↓reduceIte,zA,zB,zC,zD,zE,zF,zG,zH,zI,reduceCtorEq])|apply And.intro|(intro hg;(try simp only [push_cast]at hg)))
        all_goals try exact gA
        all_goals first|(refine hK9 _ _ ?_;clear hK9 K9)|(simp only [push_cast];done)
        all_goals refine yT 3 (by decide) fun K9 hK9=> ?_
        all_goals simp only [push_cast,↓zK,↓zJ,↓reduceIte,zA,zB,zC,zD,zE,zF,zG,zH,zI,reduceCtorEq]
        all_goals repeat'(first|(apply zO<;>(intro hg;(try simp only [push_cast]at hg)))|(refine⟨_,_,hP1,?_⟩;simp only [push_cast,↓zK,↓zJ,↓reduceIte,zA,zB,zC,zD,zE,zF,zG,zH,zI,reduceCtorEq])|(refine⟨_,_,hP2,?_⟩;simp only [push_cast,↓zK,↓zJ,↓reduceIte,zA,zB,zC,zD,zE,zF,zG,zH,zI,reduceCtorEq])|apply And.intro|(intro hg;(try simp only [push_cast]at hg)))
        all_goals try exact gA
        all_goals first|(refine hK9 _ _ ?_;clear hK9 K9)|(simp only [push_cast];done)
        all_goals refine yT 5 (by decide) fun K9 hK9=> ?_
        all_goals simp only [push_cast,↓zK,↓zJ,↓reduceIte,zA,zB,zC,zD,zE,zF,zG,zH,zI,reduceCtorEq]
        all_goals repeat'(first|(apply zO<;>(intro hg;(try simp only [push_cast]at hg)))|(refine⟨_,_,hD2,?_⟩;simp only [push_cast,↓zK,↓zJ,↓reduceIte,zA,zB,zC,zD,zE,zF,zG,zH,zI,reduceCtorEq])|apply And.intro|(intro hg;(try simp only [push_cast]at hg)))
        all_goals try exact gA
        all_goals first|(refine hK9 _ _ ?_;clear hK9 K9)|(simp only [push_cast];done)
        all_goals refine yT 1 (by decide) fun K9 hK9=> ?_
        all_goals simp only [push_cast,↓zK,↓zJ,↓reduceIte,zA,zB,zC,zD,zE,zF,zG,zH,zI,reduceCtorEq]
        all_goals repeat'(first|(apply zO<;>(intro hg;(try simp only [push_cast]at hg)))|(refine⟨_,hPl,?_⟩;simp only [push_cast,↓zK,↓zJ,↓reduceIte,zA,zB,zC,zD,zE,zF,zG,zH,zI,reduceCtorEq])|apply And.intro|(intro hg;(try simp only [push_cast]at hg)))
        all_goals try exact gA
        all_goals first|(refine hK9 _ _ ?_;clear hK9 K9)|(simp only [push_cast];done)
        all_goals simp only [push_cast,↓zK,↓zJ,↓reduceIte,zA,zB,zC,zD,zE,zF,zG,zH,zI,reduceCtorEq]
        all_goals repeat'(first|(apply zO<;>(intro hg;(try simp only [push_cast]at hg)))|(refine⟨_,_,hP1,?_⟩;simp only [push_cast,↓zK,↓zJ,↓reduceIte,zA,zB,zC,zD,zE,zF,zG,zH,zI,reduceCtorEq])|(refine⟨_,_,hP2,?_⟩;simp only [push_cast,↓zK,↓zJ,↓reduceIte,zA,zB,zC,zD,zE,zF,zG,zH,zI,reduceCtorEq])|(refine⟨_,hPl,?_⟩;simp only [push_cast,↓zK,↓zJ,↓reduceIte,zA,zB,zC,zD,zE,zF,zG,zH,zI,reduceCtorEq])|(refine⟨_,_,hD2,?_⟩;simp only [push_cast,↓zK,↓zJ,↓reduceIte,zA,zB,zC,zD,zE,zF,zG,zH,zI,reduceCtorEq])|apply And.intro|(intro hg;(try simp only [push_cast]at hg)))
        all_goals first|exact gA|(refine hE _ _ ?_ ?_;kernel_rfl)|skip
        all_goals clear hE E
        all_goals first|(refine hK _ ?_;clear hK K)|(simp only [push_cast];done)
        refine zL fun K hK=> ?_
        refine zM zP zN [] rfl ?_
        all_goals refine zm 3 fun K9 hK9=> ?_
        all_goals simp only [push_cast,↓zK,↓zJ,↓reduceIte,zA,zB,zC,zD,zE,zF,zG,zH,zI,reduceCtorEq]
        all_goals repeat'(first|(apply zO<;>(intro hg;(try simp only [push_cast]at hg)))|(refine⟨_,hBL,?_⟩;simp only [push_cast,↓zK,↓zJ,↓reduceIte,zA,zB,zC,zD,zE,zF,zG,zH,zI,reduceCtorEq])|apply And.intro|(intro hg;(try simp only [push_cast]at hg)))
        all_goals try exact gA
        all_goals first|(refine hK9 _ ?_;clear hK9 K9)|(simp only [push_cast];done)
        all_goals simp only [push_cast,↓zK,↓zJ,↓reduceIte,zA,zB,zC,zD,zE,zF,zG,zH,zI,reduceCtorEq]
        all_goals repeat'(first|(apply zO<;>(intro hg;(try simp only [push_cast]at hg)))|(refine⟨_,hBL,?_⟩;simp only [push_cast,↓zK,↓zJ,↓reduceIte,zA,zB,zC,zD,zE,zF,zG,zH,zI,reduceCtorEq])|apply And.intro|(intro hg;(try simp only [push_cast]at hg)))
        all_goals try exact gA
        all_goals first|(refine hK _ ?_;clear hK K)|(simp only [push_cast];done)
        refine zL fun K hK=> ?_
        refine zf false zP zN ?_ rfl ?_
        ·kernel_rfl
        all_goals refine zp 8 fun K9 hK9=> ?_
        all_goals simp only [push_cast,↓zK,↓zJ,↓reduceIte,zA,zB,zC,zD,zE,zF,zG,zH,zI,reduceCtorEq]
        all_goals repeat'(first|(apply zO<;>(intro hg;(try simp only [push_cast]at hg)))|(refine⟨_,hPW,?_⟩;simp only [push_cast,↓zK,↓zJ,↓reduceIte,zA,zB,zC,zD,zE,zF,zG,zH,zI,reduceCtorEq])|apply And.intro|(intro hg;(try simp only [push_cast]at hg)))
        all_goals try exact gA
        all_goals first|(refine hK9 _ ?_;clear hK9 K9)|(simp only [push_cast];done)
        all_goals simp only [push_cast,↓zK,↓zJ,↓reduceIte,zA,zB,zC,zD,zE,zF,zG,zH,zI,reduceCtorEq]
        all_goals repeat'(first|(apply zO<;>(intro hg;(try simp only [push_cast]at hg)))|(refine⟨_,hPW,?_⟩;simp only [push_cast,↓zK,↓zJ,↓reduceIte,zA,zB,zC,zD,zE,zF,zG,zH,zI,reduceCtorEq])|apply And.intro|(intro hg;(try simp only [push_cast]at hg)))
        all_goals try exact gA
        all_goals first|(refine hK _ ?_;clear hK K)|(simp only [push_cast];done)
        all_goals(
          refine zX ?_
          (try simp only [zR,zS])
          refine⟨Or.inl rfl,?_⟩
          simp only [zg,push_cast,↓zK,↓zJ,↓reduceIte,zA,zB,zC,zD,zE,zF,zG,zH,zI,reduceCtorEq]
          all_goals first|(exact(hsg.1 (by with_reducible assumption)).elim)|(rw [Bool.eq_iff_iff,decide_eq_true_eq,beq_iff_eq];exact hsg.2)|skip))
set_option maxRecDepth 100000 in
theorem UL (os:Os)(started:os.Started)(H:Type)(enc:TypeId×Value→H):
  ReturnsInHanded {} Try.checked os 9 .any (Rows.fnBridgeSpec.pre6 enc Try.prog Try.f9 Rows.fnBridgeRow.domain false) (Rows.fnBridgeSpec.post enc Try.prog Try.f9 false true false false):=by
 refine returnsInHanded_of_change (C:=Try.checked) own_law started (by kernel_rfl) Try.func9
  (ChangeSpec.witness6 (enc:=enc) (C:=Try.checked) false ⟨#[],#[.slice none 0 0],[]⟩ 8 (by kernel_rfl) (by kernel_rfl) (by kernel_rfl) (by kernel_rfl)) ?_
 intro W base args ds gs before hval0 hW hcnd _
 have hval: ∀(j:Nat) t v,Try.f9.params[j]? =some t→args[j]? =some v→Value.okWide Try.prog W .any base t v:=hval0
 have hW0:=hW
 obtain⟨p,q,hA0,hV,rfl,hfz,hnd⟩:=hW
 have hA:DataW.TrodAll enc Try.prog W 0 (fun _=>true) true Try.f9.params.toList args.toList ds p:=hA0
 obtain⟨rfl,rfl⟩:=trodVars_none hV
 have hlt: ∀x∈p,x.block<W.heap.size:=fun x hx=>hW0.lt x (by simp [hx])
 rw [Try.params9]at hA hval
 clear hA0 hval0 hV
 obtain⟨v0,vs0,d0,ds0,p0,q0,hargs,rfl,rfl,h0,r0⟩:=trodAll_cons hA
 obtain⟨rfl,rfl,rfl⟩:=trodAll_nil r0
 obtain rfl:args= #[v0]:=by cases args;simp_all
 obtain⟨a0,w0,g0,m0⟩:=arg_U (lo:=W.heap.size) (hval 0 _ v0 rfl rfl) h0
 have hL:=law a0 m0 g0
 refine(zFm (cargs:= [v0]) hL (by simp only [qA];exact⟨v0,_,rfl,w0,rfl⟩)).mono fun e W' he=> ?_
 obtain⟨rfl,hb⟩:=he
 exact⟨_,rfl,zG3 lay_law (by rw [Try.params9];decide+kernel) (by kernel_rfl) Try.underlying4 rfl hW0 rfl rfl rfl hb (fun W'=>okWide_bool_mk Try.underlying4 true)⟩
theorem zBf :Rows.fnBridgeRow.holds Try.pinned (OpenSpec.ofChange Rows.fnBridgeSpec):=
 OpenClaim.holds_of_wide 9 Try.f9 rfl rfl rfl rfl rfl rfl rfl ⟨rfl,rfl,rfl,rfl,rfl⟩ rfl rfl rfl rfl rfl (by kernel_rfl) Try.func9 (by kernel_rfl)
  (of_decide_eq_true (by kernel_rfl)) (by unfold Func.isWrapper;first|(rw [if_pos (by decide+kernel)];kernel_rfl)|(rw [if_neg (by decide+kernel)];exact⟨rfl,rfl⟩))
  (fun os started H enc _=>UL os started H enc)
theorem Bridge_holds :Rows.FnBridgeSaid:=zBf
end lawFnBridge
end Go.Proofs.Ytdbecmmeifdafaa
