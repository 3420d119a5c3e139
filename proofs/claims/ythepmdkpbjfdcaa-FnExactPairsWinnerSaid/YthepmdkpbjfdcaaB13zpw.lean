/- The program's solver; the walk of its recursion -/
import Derived.Test.YthepmdkpbjfdcaaB12zpw
import Derived.Test.YthepmdkpbjfdcaaB9zpw
namespace Go.Proofs.Ythepmdkpbjfdcaa
open Nat renaming reduceMod → zA, reduceMul → zB, reduceDiv → zC, reduceAdd → zD, reduceSub → zE, reduceEqDiff → zF, reduceBEq → zG, reduceLT → zH, reduceLeDiff → zI
open Go.RowKit
set_option linter.unusedVariables false
set_option linter.unusedSimpArgs false
section
variable {x:L7} {n:Nat}
theorem zEf (hx:x.Ok n){inn now goal rest:List Bool}{top who:Int}(hi:inn.length=n)(hnl:now.length=n)(hT:yK x inn n=top)(ht:0≤top)(hg:yX n (yw x now top)=goal)(hr:yI now (yW x n now who goal)=rest)(h:now=inn∨ye now n<ye inn n):ye rest n<ye inn n:=by
 subst hr
 rcases h with h|h
 ·subst h
  rcases Wi hx (inn:=now) n (Nat.le_refl _)with e|⟨v,hv,h1,h2⟩
  ·omega
  ·refine Yu hnl hv h1 ?_
   rw [←hg,yS hv]
   unfold yw
   rw [h1,h2,hT]
   simp
 ·have :=jn (a:=yI now (yW x n now who goal)) (b:=now) n fun v hv hb=>by
   rw [qB (by omega),Bool.and_eq_true]at hb;exact hb.1
  omega
theorem zHh {now:List Bool}{top:Int}{v:Nat}(hv:v<n)(h:gb (yX n (yw x now top)) v=true):gb now v=true:=by
 rw [yS hv]at h
 unfold yw at h
 rw [Bool.and_eq_true]at h
 exact h.1
theorem zAb {now goal rest:List Bool}{who:Int}(hnl:now.length=n)(hr:yI now (yW x n now who goal)=rest){v:Nat}(hv:v<n)(h:gb (yX n (yP rest (yU x n (n+1) rest) who)) v=true):gb now v=true:=by
 rw [yS hv]at h
 unfold yP at h
 rw [Bool.and_eq_true,←hr,qB (by omega),Bool.and_eq_true]at h
 exact h.1.1
theorem zJV {rest:List Bool}{who ww:Int}(hl:rest.length=n)(h:ww=who):yI rest (wiM x n rest ww)=yX n (yP rest (yU x n (n+1) rest) who):=by
 subst h
 refine wS (by rw [xS,qW];exact hl) fun v hv=> ?_
 rw [xS,hl]at hv
 rw [yS hv,zEO hl hv]
theorem zJW {rest:List Bool}{who ww:Int}(hw:who=0∨who=1)(hw2:ww=0∨ww=1)(h: ¬ww=who):wiM x n rest ww=yX n (yP rest (yU x n (n+1) rest) who):=by
 have e:ww=1 - who:=by omega
 subst e
 refine wS (by rw [Qm,qW]) fun v hv=> ?_
 rw [Qm]at hv
 rw [yS hv,zDE hw hv]
theorem zFy {rest:List Bool}{who:Int}(hl:rest.length=n)(h: ¬∃v,v<n∧gb rest v=true):(∀v,v<rest.length→gb rest v=false)∧yI rest rest=yX n (yP rest (yU x n (n+1) rest) who)∧rest=yX n (yP rest (yU x n (n+1) rest) who)∧anT (yX n (yP rest (yU x n (n+1) rest) who))=false:=by
 have h0: ∀v,v<n→gb rest v=false:=fun v hv=>by
  cases hb:gb rest v
  ·rfl
  ·exact absurd ⟨v,hv,hb⟩ h
 have hz: ∀v,v<n→gb (yX n (yP rest (yU x n (n+1) rest) who)) v=false:=fun v hv=>by
  rw [yS hv];unfold yP;rw [h0 v hv];rfl
 refine⟨fun v hv=>h0 v (by omega),wS (by rw [xS,qW];exact hl) fun v hv=> ?_,wS (by rw [qW];exact hl) fun v hv=> ?_,zIh fun v hv=>hz v (by rw [qW]at hv;exact hv)⟩
 ·rw [xS,hl]at hv
  rw [hz v hv,qB (by omega),h0 v hv];rfl
 ·rw [hl]at hv
  rw [hz v hv,h0 v hv]
end
theorem ok_Ln {x:L7}{n:Nat}(hx:x.Ok n):(⟨⟨x.owner,x.next⟩,x.prio⟩:Pa).Ln 1048576:=by
 have h1:=hx.hn
 have h2:=hx.ho
 have h3:=hx.hp
 have h4:=hx.hx
 refine⟨⟨?_,?_,fun r hr=> ?_⟩,?_⟩
 ·show x.owner.length≤_;omega
 ·show x.next.length≤_;omega
 ·have hr:r∈x.next:=hr
  obtain⟨v,hv,e⟩:=List.mem_iff_getElem.1 hr
  have h5:=hx.deg v (by omega)
  unfold gl at h5
  rw [List.getD_eq_getElem?_getD,List.getElem?_eq_getElem hv,e]at h5
  simp only [Option.getD_some]at h5
  omega
 ·show x.prio.length≤_;omega
theorem zJh (x:L7){n:Nat}{inn:List Bool}(hi:inn.length=n)(hx:x.Ok n)(hed: ∀(v:Nat) (u:Int),v<n→edB x v u=true)(who:Int)(goal:List Bool)(hg9:goal.length=n)(hsub: ∀v,v<n→gb goal v=true→gb inn v=true):FnB Try.prog tyT 175 (dSv x) [.c (.int .i64 who), .c (.lst 4 (dB inn)), .c (.lst 4 (dB goal))] (dSv x) [.c (.lst 4 (dB (yW x n inn who goal)))]:=by
 subst hi
 exact zH8 x inn hx hed who goal hg9 fun _=>hsub
set_option maxRecDepth 20000 in
set_option maxHeartbeats 8000000 in
theorem zGc (x:L7)(inn:List Bool)(hx:x.Ok inn.length)(hed: ∀(v:Nat) (u:Int),v<inn.length→edB x v u=true)(hlv:vR (pgL x) (inD inn.length inn))(hne: ∃v,v<inn.length∧gb inn v=true)(top who:Int)(hT:yK x inn inn.length=top)(hW:Int.tmod top 2=who)(hIH: ∀r:List Bool,r.length=inn.length→ye r inn.length<ye inn inn.length→vR (pgL x) (inD inn.length r)→(∃v,v<inn.length∧gb r v=true)→FnB Try.prog tyT 149 (dSv x) [.c (.lst 4 (dB r))] (dSv x) [.c (.lst 4 (dB (wiM x inn.length r (Int.tmod (yK x r inn.length) 2)))), .c (.int .i64 (Int.tmod (yK x r inn.length) 2))]):FnB Try.prog tyT 149 (dSv x) [.c (.lst 4 (dB inn))] (dSv x) [.c (.lst 4 (dB (wiM x inn.length inn who))), .c (.int .i64 who)]:=by
 have hn1:=hx.hn
 have hn2:=hx.ho
 have hn3:=hx.hp
 have hn4:=hx.hx
 have hLi:=YJ inn (by omega)
 have hg:(⟨⟨x.owner,x.next⟩,x.prio⟩:Pa).Ln 1048576:=ok_Ln hx
 have hil:=vx inn inn.length
 have hip:=zEG hne
 have hTp:=zGX ⟨⟨x.owner,x.next⟩,x.prio⟩ hg (yb inn inn.length) (by omega) (fun j hj=>by have h9:=Yn hj;show _∧_<(x.prio.length:Int);omega)
 rw [zIS hx,hT]at hTp
 have htop:0≤top∧top≤40:=by
  obtain⟨v9,hv9,hb9⟩:=hne
  have h1:=Zs (x:=x) (inn:=inn) inn.length v9 hv9 hb9
  have h2:=hx.pr v9 hv9
  have h3:=JT hx inn inn.length (Nat.le_refl _)
  omega
 have hw2:who=0∨who=1:=by rw [←hW,Xi htop.1];omega
 have hmax: ∀v,inD inn.length inn v→gi x.prio v≤top:=fun v hv=>by rw [←hT];exact Zs inn.length v hv.1 hv.2
 have hpar:top%2=who:=by rw [←hW,Xi htop.1]
 have hPu:=fun(now:List Bool) (w9:Int) (gl9:List Bool) (h1:now.length=inn.length) (h2:gl9.length=inn.length) h3=>zJh x h1 hx hed w9 gl9 h2 h3
 have hTk: ∀_:Unit,∀l:List Bool,l.length=inn.length→l.take inn.length=l:=fun _ l h=>List.take_of_length_le (by omega)
 replace hIH: ∀_:Unit,∀r:List Bool,_:=fun _=>hIH
 clear hne
 unfold dPa at hTp
 unfold dSv at hPu hIH⊢
 refine zDY (fn:=Try.f149) (rs:= [.tmp 4, .tmp 5]) zO zN Try.func149 (by kernel_rfl) rfl rfl (by rw [Try.ntmps149];exact Nat.le_of_ble_eq_true rfl) rfl (by simp only [szA,List.mem_cons,List.not_mem_nil,or_false,forall_eq_or_imp,forall_eq,false_implies,implies_true,VT.cells,szL];try decide) (Nat.le_of_ble_eq_true rfl) (by simp only [szL];decide) (Nat.le_of_ble_eq_true rfl) rfl ?_
 rw [Try.ntmps149]
 simp only [push_cast,↓zK,↓zJ,↓reduceIte,zA,zB,zC,zD,zE,zF,zG,zH,zI,reduceCtorEq]
 refine zL fun K hK=> ?_
 refine zM zO zN [] rfl ?_
 simp only [push_cast,↓zK,↓zJ,↓reduceIte,zA,zB,zC,zD,zE,zF,zG,zH,zI,reduceCtorEq]
 repeat' apply And.intro
 all_goals try exact gB
 all_goals first|(refine hK _ ?_;clear hK K)|(simp only [push_cast];done)
 refine zL fun K hK=> ?_
 refine zM zO zN [] rfl ?_
 all_goals refine zo 2 fun K9 hK9=> ?_
 all_goals simp only [push_cast,↓zK,↓zJ,↓reduceIte,zA,zB,zC,zD,zE,zF,zG,zH,zI,reduceCtorEq]
 all_goals repeat'(first|(apply zP<;>(intro hg;(try simp only [push_cast]at hg)))|(refine⟨_,hLi,?_⟩;simp only [push_cast,↓zK,↓zJ,↓reduceIte,zA,zB,zC,zD,zE,zF,zG,zH,zI,reduceCtorEq])|apply And.intro|(intro hg;(try simp only [push_cast]at hg)))
 all_goals try exact gA
 all_goals first|(refine hK9 _ ?_;clear hK9 K9)|(simp only [push_cast];done)
 all_goals simp only [push_cast,↓zK,↓zJ,↓reduceIte,zA,zB,zC,zD,zE,zF,zG,zH,zI,reduceCtorEq]
 all_goals repeat'(first|(apply zP<;>(intro hg;(try simp only [push_cast]at hg)))|(refine⟨_,hLi,?_⟩;simp only [push_cast,↓zK,↓zJ,↓reduceIte,zA,zB,zC,zD,zE,zF,zG,zH,zI,reduceCtorEq])|apply And.intro|(intro hg;(try simp only [push_cast]at hg)))
 all_goals try exact gA
 all_goals first|(refine hK _ ?_;clear hK K)|(simp only [push_cast];done)
 refine zL fun K1 hK1=> ?_
 refine zL fun K hK=> ?_
 refine zM zO zN [] rfl ?_
 simp only [push_cast,↓zK,↓zJ,↓reduceIte,zA,zB,zC,zD,zE,zF,zG,zH,zI,reduceCtorEq]
 repeat' apply And.intro
 all_goals try exact gB
 all_goals first|(refine hK _ ?_;clear hK K)|(simp only [push_cast];done)
 refine zU rfl (fun hc=> ?_) (fun hc=> ?_)
 skip
 ·exfalso;first|(cases hc;done)|(simp only [push_cast]at hc;done)|(simp only [push_cast]at hc;omega)|omega
 refine zV ?_
 (try simp only [zR,zS,reduceIte,zF]);refine hK1 _ ?_
 refine zL fun K hK=> ?_
 refine zM zO zN [] rfl ?_
 all_goals refine zo 6 fun K9 hK9=> ?_
 all_goals simp only [push_cast,↓zK,↓zJ,↓reduceIte,zA,zB,zC,zD,zE,zF,zG,zH,zI,reduceCtorEq]
 all_goals repeat'(first|(apply zP<;>(intro hg;(try simp only [push_cast]at hg)))|(refine⟨_,hTp,?_⟩;simp only [push_cast,↓zK,↓zJ,↓reduceIte,zA,zB,zC,zD,zE,zF,zG,zH,zI,reduceCtorEq])|apply And.intro|(intro hg;(try simp only [push_cast]at hg)))
 all_goals try exact gA
 all_goals first|(refine hK9 _ ?_;clear hK9 K9)|(simp only [push_cast];done)
 all_goals simp only [push_cast,↓zK,↓zJ,↓reduceIte,zA,zB,zC,zD,zE,zF,zG,zH,zI,reduceCtorEq]
 all_goals repeat'(first|(apply zP<;>(intro hg;(try simp only [push_cast]at hg)))|(refine⟨_,hTp,?_⟩;simp only [push_cast,↓zK,↓zJ,↓reduceIte,zA,zB,zC,zD,zE,zF,zG,zH,zI,reduceCtorEq])|apply And.intro|(intro hg;(try simp only [push_cast]at hg)))
 all_goals try exact gA
 all_goals first|(refine hK _ ?_;clear hK K)|(simp only [push_cast];done)
 refine zL fun K hK=> ?_
 refine zM zO zN [] rfl ?_
 simp only [push_cast,↓zK,↓zJ,↓reduceIte,zA,zB,zC,zD,zE,zF,zG,zH,zI,reduceCtorEq]
 repeat' apply And.intro
 all_goals try exact gB
 all_goals first|(refine hK _ ?_;clear hK K)|(simp only [push_cast];done)
 (try rw [hW])
 refine zL fun K hK=> ?_
 refine zM zO zN [] rfl ?_
 simp only [push_cast,↓zK,↓zJ,↓reduceIte,zA,zB,zC,zD,zE,zF,zG,zH,zI,reduceCtorEq]
 repeat' apply And.intro
 all_goals try exact gB
 all_goals first|(refine hK _ ?_;clear hK K)|(simp only [push_cast];done)
 refine zW ?_
 refine zi [4,5,9,10,11,12,13,14,15,33,34,35,36,37,38,39,40,41,42,43,44,45,46,47,48,49,50,51,52,53,54,55,56,57,58,59,60,61,62,63,64,65,66,67,68,69,70,71,72,73,74,75,76,77,78,79,80,81,82,83,84,85,86,87,88,89,90,91,92,93,94,95,96,97,98] [144] (fun(now:List Bool)=> [(9, .sl 144 [] 0 inn.length 4)]) (fun now=> []) (fun now=> [(144,⟨.ex,4,dB now,none⟩)]) (fun now=>WnI x inn.length inn who now∧(now=inn∨ye now inn.length<ye inn inn.length)) (fun now=>ye now inn.length) inn ?_ ⟨WnI.start rfl hlv, .inl rfl⟩ ?_
 ·
  refine zY rfl ?_ ?_ ?_<;>simp only [zf,ze,push_cast,↓zK,↓zJ,↓reduceIte,zA,zB,zC,zD,zE,zF,zG,zH,zI,reduceCtorEq]
 ·rintro now ⟨hwn,hdn⟩ KL0 hL0
  simp only [push_cast,↓zK,↓zJ,↓reduceIte,zA,zB,zC,zD,zE,zF,zG,zH,zI,reduceCtorEq]
  refine zW ?_
  have hnl:=hwn.len
  refine zL fun K hK=> ?_
  refine zM zO zN [] rfl ?_
  simp only [push_cast,↓zK,↓zJ,↓reduceIte,zA,zB,zC,zD,zE,zF,zG,zH,zI,reduceCtorEq]
  repeat' apply And.intro
  all_goals try exact gB
  all_goals first|(refine hK _ ?_;clear hK K)|(simp only [push_cast];done)
  refine zL fun K2 hK2=> ?_
  refine zL fun K hK=> ?_
  refine zM zO zN [] rfl ?_
  simp only [push_cast,↓zK,↓zJ,↓reduceIte,zA,zB,zC,zD,zE,zF,zG,zH,zI,reduceCtorEq]
  repeat' apply And.intro
  all_goals try exact gB
  all_goals first|(refine hK _ ?_;clear hK K)|(simp only [push_cast];done)
  refine zW ?_
  refine zi [11,38,39,40,41,42,43,44,45,46,47,48,49,50,51,52,53,54,55,56,57,58,59,60] [160] (fun(v:Nat)=> [(38, .int .i64 v),(10, .sl 160 [] 0 inn.length 4)]) (fun v=> []) (fun v=> [(160,⟨.ex,4,dB (mkB inn.length (yw x now top) v),none⟩)]) (fun v=>v≤inn.length) (fun v=>inn.length - v) 0 ?_ (by omega) ?_
  ·
   rw [Xa]
   refine zY rfl ?_ ?_ ?_<;>simp only [zf,ze,push_cast,↓zK,↓zJ,↓reduceIte,zA,zB,zC,zD,zE,zF,zG,zH,zI,reduceCtorEq]
  ·rintro v hv KL1 hL1
   have hml:=wU (f:=yw x now top) hv
   simp only [push_cast,↓zK,↓zJ,↓reduceIte,zA,zB,zC,zD,zE,zF,zG,zH,zI,reduceCtorEq]
   refine zL fun K hK=> ?_
   refine zM zO zN [] rfl ?_
   simp only [push_cast,↓zK,↓zJ,↓reduceIte,zA,zB,zC,zD,zE,zF,zG,zH,zI,reduceCtorEq]
   repeat' apply And.intro
   all_goals try exact gB
   all_goals first|(refine hK _ ?_;clear hK K)|(simp only [push_cast];done)
   refine zL fun K3 hK3=> ?_
   refine zU rfl (fun hc=> ?_) (fun hc=> ?_)<;>(try simp only [push_cast]at hc)
   ·
    refine zV ?_
    (try simp only [zR,zS,reduceIte,zF]);refine hK3 _ ?_
    refine zL fun K4 hK4=> ?_
    refine zW ?_
    refine zL fun K hK=> ?_
    refine zM zO zN [] rfl ?_
    simp only [push_cast,↓zK,↓zJ,↓reduceIte,zA,zB,zC,zD,zE,zF,zG,zH,zI,reduceCtorEq]
    repeat' apply And.intro
    all_goals try exact gB
    all_goals first|(refine hK _ ?_;clear hK K)|(simp only [push_cast];done)
    refine zj false zO zN ?_ rfl ?_
    ·kernel_rfl
    all_goals simp only [push_cast,↓zK,↓zJ,↓reduceIte,zA,zB,zC,zD,zE,zF,zG,zH,zI,reduceCtorEq]
    all_goals repeat'(first|(apply zP<;>(intro hg;(try simp only [push_cast]at hg)))|apply And.intro|(intro hg;(try simp only [push_cast]at hg)))
    all_goals try exact gA
    all_goals(
      (try simp only [zR,zS,reduceIte,zF]);refine hK4 _ ?_
      refine zM zO zN [] rfl ?_
      simp only [push_cast,↓zK,↓zJ,↓reduceIte,zA,zB,zC,zD,zE,zF,zG,zH,zI,reduceCtorEq]
      repeat' apply And.intro
      all_goals try exact gB
      refine hL1 _ ⟨v+1,by omega,by omega,?_⟩
      first|rw [zAN (k:=v) (n:=inn.length) (inn:=now) (by omega) (by with_reducible assumption)]|rw [zCD (k:=v) (n:=inn.length) (inn:=now) (by omega) (by with_reducible assumption)]
      refine zY rfl ?_ ?_ ?_<;>simp only [zf,ze,push_cast,↓zK,↓zJ,↓reduceIte,zA,zB,zC,zD,zE,zF,zG,zH,zI,reduceCtorEq])
   ·
    refine zk ?_
    have hvv:v=inn.length:=by omega
    rw [hvv,Qd]
    (try simp only [zR,zS,reduceIte,zF]);refine hK2 _ ?_
    obtain⟨goal,hgd⟩: ∃g,yX inn.length (yw x now top)=g:=⟨_,rfl⟩
    rw [hgd]
    have hgl:goal.length=inn.length:=by rw [←hgd];exact qW _ _
    obtain⟨att,hat⟩: ∃a,yW x inn.length now who goal=a:=⟨_,rfl⟩
    obtain⟨rest,hrs⟩: ∃r,yI now (yW x inn.length now who goal)=r:=⟨_,rfl⟩
    have hP1:=hPu now who goal hnl hgl (fun v hv hb=>by rw [←hgd]at hb;exact zHh hv hb)
    have hrr:=hwn.rest (goal:=goal) hx
    rw [hrs]at hrr
    have hlt:=zEf hx rfl hnl hT htop.1 hgd hrs hdn
    have hal:=vt x inn.length now who goal
    have hrs2:=hrs
    rw [hat]at hP1 hal hrs2
    have hW1:=wY now att (by omega) (by omega)
    rw [hrs2]at hW1
    rw [←hTk () now hnl,←hTk () goal hgl]at hP1
    rw [←hTk () now hnl]at hW1
    obtain⟨lost,hld⟩: ∃l,yX inn.length (yP rest (yU x inn.length (inn.length+1) rest) who)=l:=⟨_,rfl⟩
    have hlol:lost.length=inn.length:=by rw [←hld];exact qW _ _
    have hlv2: ∀v,v<inn.length→gb lost v=yP rest (yU x inn.length (inn.length+1) rest) who v:=fun v hv=>by rw [←hld];exact yS hv
    refine zL fun K hK=> ?_
    refine zj false zO zN ?_ rfl ?_
    ·kernel_rfl
    all_goals refine yC 6 fun K9 hK9=> ?_
    all_goals simp only [push_cast,↓zK,↓zJ,↓reduceIte,zA,zB,zC,zD,zE,zF,zG,zH,zI,reduceCtorEq]
    all_goals repeat'(first|(apply zP<;>(intro hg;(try simp only [push_cast]at hg)))|(refine⟨_,_,hP1,?_⟩;(try simp only [push_cast,↓zK,↓zJ,↓reduceIte,zA,zB,zC,zD,zE,zF,zG,zH,zI,reduceCtorEq]))|apply And.intro|(intro hg;(try simp only [push_cast]at hg)))
    all_goals try exact gA
    all_goals first|(refine hK9 _ ?_;clear hK9 K9)|(simp only [push_cast];done)
    all_goals refine yC 1 fun K9 hK9=> ?_
    all_goals simp only [push_cast,↓zK,↓zJ,↓reduceIte,zA,zB,zC,zD,zE,zF,zG,zH,zI,reduceCtorEq]
    all_goals repeat'(first|(apply zP<;>(intro hg;(try simp only [push_cast]at hg)))|(refine⟨_,hW1,?_⟩;simp only [push_cast,↓zK,↓zJ,↓reduceIte,zA,zB,zC,zD,zE,zF,zG,zH,zI,reduceCtorEq])|apply And.intro|(intro hg;(try simp only [push_cast]at hg)))
    all_goals try exact gA
    all_goals first|(refine hK9 _ ?_;clear hK9 K9)|(simp only [push_cast];done)
    all_goals simp only [push_cast,↓zK,↓zJ,↓reduceIte,zA,zB,zC,zD,zE,zF,zG,zH,zI,reduceCtorEq]
    all_goals repeat'(first|(apply zP<;>(intro hg;(try simp only [push_cast]at hg)))|(refine⟨_,_,hP1,?_⟩;(try simp only [push_cast,↓zK,↓zJ,↓reduceIte,zA,zB,zC,zD,zE,zF,zG,zH,zI,reduceCtorEq]))|(refine⟨_,hW1,?_⟩;simp only [push_cast,↓zK,↓zJ,↓reduceIte,zA,zB,zC,zD,zE,zF,zG,zH,zI,reduceCtorEq])|apply And.intro|(intro hg;(try simp only [push_cast]at hg)))
    all_goals try exact gA
    all_goals first|(refine hK _ ?_;clear hK K)|(simp only [push_cast];done)
    by_cases hre: ∃v,v<inn.length∧gb rest v=true
    ·
     refine qo 4 12 (Nat.le_of_ble_eq_true rfl) ?_
     simp only [push_cast,↓zK,↓zJ,↓reduceIte,zA,zB,zC,zD,zE,zF,zG,zH,zI,reduceCtorEq]
     have hrl:=hrr.1
     have hI:=hIH () rest hrl hlt hrr.2 hre
     obtain⟨ww,hww⟩: ∃w,Int.tmod (yK x rest inn.length) 2=w:=⟨_,rfl⟩
     have hww2:ww=0∨ww=1:=by
      have h3:=JT hx rest inn.length (Nat.le_refl _)
      obtain⟨v9,hv9,hb9⟩:=hre
      have h1:=Zs (x:=x) (inn:=rest) inn.length v9 hv9 hb9
      have h2:=hx.pr v9 hv9
      rw [←hww,Xi (by omega)]
      omega
     rw [hww]at hI
     have hlo1:=fun h:ww=who=>(zJV (x:=x) hrl h).trans hld
     have hlo2:=fun h: ¬ww=who=>(zJW (x:=x) (rest:=rest) hw2 hww2 h).trans hld
     have hwl:=Qm x inn.length rest ww
     have hWo:=wY rest (wiM x inn.length rest ww) (by omega) (by omega)
     refine zL fun K hK=> ?_
     refine zj false zO zN ?_ rfl ?_
     ·kernel_rfl
     all_goals refine yC 3 fun K9 hK9=> ?_
     all_goals simp only [push_cast,↓zK,↓zJ,↓reduceIte,zA,zB,zC,zD,zE,zF,zG,zH,zI,reduceCtorEq]
     all_goals repeat'(first|(apply zP<;>(intro hg;(try simp only [push_cast]at hg)))|(refine⟨_,_,hI,?_⟩;(try simp only [push_cast,↓zK,↓zJ,↓reduceIte,zA,zB,zC,zD,zE,zF,zG,zH,zI,reduceCtorEq]))|apply And.intro|(intro hg;(try simp only [push_cast]at hg)))
     all_goals try exact gA
     all_goals first|(refine hK9 _ ?_;clear hK9 K9)|(simp only [push_cast];done)
     all_goals simp only [push_cast,↓zK,↓zJ,↓reduceIte,zA,zB,zC,zD,zE,zF,zG,zH,zI,reduceCtorEq]
     all_goals repeat'(first|(apply zP<;>(intro hg;(try simp only [push_cast]at hg)))|(refine⟨_,_,hI,?_⟩;(try simp only [push_cast,↓zK,↓zJ,↓reduceIte,zA,zB,zC,zD,zE,zF,zG,zH,zI,reduceCtorEq]))|apply And.intro|(intro hg;(try simp only [push_cast]at hg)))
     all_goals try exact gA
     all_goals first|(refine hK _ ?_;clear hK K)|(simp only [push_cast];done)
     refine qo 4 13 (Nat.le_of_ble_eq_true rfl) ?_
     simp only [push_cast,↓zK,↓zJ,↓reduceIte,zA,zB,zC,zD,zE,zF,zG,zH,zI,reduceCtorEq]
     refine zL fun K hK=> ?_
     refine zM zO zN [240] rfl ?_
     simp only [push_cast,↓zK,↓zJ,↓reduceIte,zA,zB,zC,zD,zE,zF,zG,zH,zI,reduceCtorEq]
     repeat' apply And.intro
     all_goals try exact gB
     all_goals first|(refine hK _ ?_;clear hK K)|(simp only [push_cast];done)
     refine zL fun K5 hK5=> ?_
     refine zL fun K hK=> ?_
     refine zM zO zN [] rfl ?_
     simp only [push_cast,↓zK,↓zJ,↓reduceIte,zA,zB,zC,zD,zE,zF,zG,zH,zI,reduceCtorEq]
     repeat' apply And.intro
     all_goals try exact gB
     all_goals first|(refine hK _ ?_;clear hK K)|(simp only [push_cast];done)
     refine zU rfl (fun hc=> ?_) (fun hc=> ?_)<;>(try simp only [push_cast]at hc)
     ·
      refine zM zO zN [] rfl ?_
      all_goals refine zo 3 fun K9 hK9=> ?_
      all_goals simp only [push_cast,↓zK,↓zJ,↓reduceIte,zA,zB,zC,zD,zE,zF,zG,zH,zI,reduceCtorEq]
      all_goals repeat'(first|(apply zP<;>(intro hg;(try simp only [push_cast]at hg)))|(refine⟨_,hWo,?_⟩;simp only [push_cast,↓zK,↓zJ,↓reduceIte,zA,zB,zC,zD,zE,zF,zG,zH,zI,reduceCtorEq])|apply And.intro|(intro hg;(try simp only [push_cast]at hg)))
      all_goals try exact gA
      all_goals first|(refine hK9 _ ?_;clear hK9 K9)|(simp only [push_cast];done)
      all_goals simp only [push_cast,↓zK,↓zJ,↓reduceIte,zA,zB,zC,zD,zE,zF,zG,zH,zI,reduceCtorEq]
      all_goals repeat'(first|(apply zP<;>(intro hg;(try simp only [push_cast]at hg)))|(refine⟨_,hWo,?_⟩;simp only [push_cast,↓zK,↓zJ,↓reduceIte,zA,zB,zC,zD,zE,zF,zG,zH,zI,reduceCtorEq])|apply And.intro|(intro hg;(try simp only [push_cast]at hg)))
      all_goals try exact gA
      (try simp only [zR,zS,reduceIte,zF]);refine hK5 _ ?_
      refine zL fun K6 hK6=> ?_
      first|rw [hlo1 (by first|assumption|exact trivial)]|rw [hlo2 (by first|assumption|exact trivial)]
      have hCo:=vG lost (by omega)
      refine zL fun K hK=> ?_
      refine zM zO zN [] rfl ?_
      all_goals refine zo 2 fun K9 hK9=> ?_
      all_goals simp only [push_cast,↓zK,↓zJ,↓reduceIte,zA,zB,zC,zD,zE,zF,zG,zH,zI,reduceCtorEq]
      all_goals repeat'(first|(apply zP<;>(intro hg;(try simp only [push_cast]at hg)))|(refine⟨_,hCo,?_⟩;simp only [push_cast,↓zK,↓zJ,↓reduceIte,zA,zB,zC,zD,zE,zF,zG,zH,zI,reduceCtorEq])|apply And.intro|(intro hg;(try simp only [push_cast]at hg)))
      all_goals try exact gA
      all_goals first|(refine hK9 _ ?_;clear hK9 K9)|(simp only [push_cast];done)
      all_goals simp only [push_cast,↓zK,↓zJ,↓reduceIte,zA,zB,zC,zD,zE,zF,zG,zH,zI,reduceCtorEq]
      all_goals repeat'(first|(apply zP<;>(intro hg;(try simp only [push_cast]at hg)))|(refine⟨_,hCo,?_⟩;simp only [push_cast,↓zK,↓zJ,↓reduceIte,zA,zB,zC,zD,zE,zF,zG,zH,zI,reduceCtorEq])|apply And.intro|(intro hg;(try simp only [push_cast]at hg)))
      all_goals try exact gA
      all_goals first|(refine hK _ ?_;clear hK K)|(simp only [push_cast];done)
      refine zU rfl (fun hc=> ?_) (fun hc=> ?_)<;>(try simp only [push_cast]at hc)
      ·
       refine zL fun K hK=> ?_
       refine zM zO zN [] rfl ?_
       simp only [push_cast,↓zK,↓zJ,↓reduceIte,zA,zB,zC,zD,zE,zF,zG,zH,zI,reduceCtorEq]
       repeat' apply And.intro
       all_goals try exact gB
       all_goals first|(refine hK _ ?_;clear hK K)|(simp only [push_cast];done)
       refine zX ?_
       (try simp only [zR,zS])
       refine⟨Or.inl rfl,?_⟩
       simp only [Qq,zd,vL,yE,yj,push_cast,↓zK,↓zJ,↓reduceIte,zA,zB,zC,zD,zE,zF,zG,zH,zI,reduceCtorEq]
       have hfin:=hwn.all hx rfl hlv htop.1 hpar hmax hgd.symm hrs.symm hlv2 (fun v hv=>wu (l:=lost) (by first|assumption|(simpa using hc)) v (by omega))
       rw [←hfin]
       all_goals first|rfl|exact⟨⟨rfl,rfl⟩,rfl⟩|(simp [hnl];done)|skip
      ·
       refine zV ?_
       (try simp only [zR,zS,reduceIte,zF]);refine hK6 _ ?_
       have hsm:anT lost=true:=by simpa using hc
       obtain⟨att2,ha2⟩: ∃a,yW x inn.length now (1 - who) lost=a:=⟨_,rfl⟩
       have hP2:=hPu now (1 - who) lost hnl hlol (fun v hv hb=>by rw [←hld]at hb;exact zAb hnl hrs hv hb)
       have hnx:=hwn.next hx hw2 hrs.symm hlv2
       have hls:=hwn.lt hrs.symm hlv2 (by obtain⟨v9,h9,h8⟩:=vS.1 hsm;exact⟨v9,by omega,h8⟩)
       have hal2:=vt x inn.length now (1 - who) lost
       rw [ha2]at hP2 hnx hls hal2
       obtain⟨now2,hn2d⟩: ∃a,yI now att2=a:=⟨_,rfl⟩
       have hW3:=wY now att2 (by omega) (by omega)
       rw [hn2d]at hW3 hnx hls
       rw [←hTk () now hnl]at hP2 hW3
       have hnl2:=hnx.len
       have hCn:=vG now2 (by omega)
       refine zL fun K hK=> ?_
       refine zj false zO zN ?_ rfl ?_
       ·kernel_rfl
       all_goals refine yC 7 fun K9 hK9=> ?_
       all_goals simp only [push_cast,↓zK,↓zJ,↓reduceIte,zA,zB,zC,zD,zE,zF,zG,zH,zI,reduceCtorEq]
       all_goals repeat'(first|(apply zP<;>(intro hg;(try simp only [push_cast]at hg)))|(refine⟨_,_,hP2,?_⟩;(try simp only [push_cast,↓zK,↓zJ,↓reduceIte,zA,zB,zC,zD,zE,zF,zG,zH,zI,reduceCtorEq]))|apply And.intro|(intro hg;(try simp only [push_cast]at hg)))
       all_goals try exact gA
       all_goals first|(refine hK9 _ ?_;clear hK9 K9)|(simp only [push_cast];done)
       all_goals refine yC 1 fun K9 hK9=> ?_
       all_goals simp only [push_cast,↓zK,↓zJ,↓reduceIte,zA,zB,zC,zD,zE,zF,zG,zH,zI,reduceCtorEq]
       all_goals repeat'(first|(apply zP<;>(intro hg;(try simp only [push_cast]at hg)))|(refine⟨_,hW3,?_⟩;simp only [push_cast,↓zK,↓zJ,↓reduceIte,zA,zB,zC,zD,zE,zF,zG,zH,zI,reduceCtorEq])|apply And.intro|(intro hg;(try simp only [push_cast]at hg)))
       all_goals try exact gA
       all_goals first|(refine hK9 _ ?_;clear hK9 K9)|(simp only [push_cast];done)
       all_goals simp only [push_cast,↓zK,↓zJ,↓reduceIte,zA,zB,zC,zD,zE,zF,zG,zH,zI,reduceCtorEq]
       all_goals repeat'(first|(apply zP<;>(intro hg;(try simp only [push_cast]at hg)))|(refine⟨_,_,hP2,?_⟩;(try simp only [push_cast,↓zK,↓zJ,↓reduceIte,zA,zB,zC,zD,zE,zF,zG,zH,zI,reduceCtorEq]))|(refine⟨_,hW3,?_⟩;simp only [push_cast,↓zK,↓zJ,↓reduceIte,zA,zB,zC,zD,zE,zF,zG,zH,zI,reduceCtorEq])|apply And.intro|(intro hg;(try simp only [push_cast]at hg)))
       all_goals try exact gA
       all_goals first|(refine hK _ ?_;clear hK K)|(simp only [push_cast];done)
       refine qo 4 9 (Nat.le_of_ble_eq_true rfl) ?_
       simp only [push_cast,↓zK,↓zJ,↓reduceIte,zA,zB,zC,zD,zE,zF,zG,zH,zI,reduceCtorEq]
       refine zL fun K hK=> ?_
       refine zM zO zN [] rfl ?_
       all_goals refine zo 2 fun K9 hK9=> ?_
       all_goals simp only [push_cast,↓zK,↓zJ,↓reduceIte,zA,zB,zC,zD,zE,zF,zG,zH,zI,reduceCtorEq]
       all_goals repeat'(first|(apply zP<;>(intro hg;(try simp only [push_cast]at hg)))|(refine⟨_,hCn,?_⟩;simp only [push_cast,↓zK,↓zJ,↓reduceIte,zA,zB,zC,zD,zE,zF,zG,zH,zI,reduceCtorEq])|apply And.intro|(intro hg;(try simp only [push_cast]at hg)))
       all_goals try exact gA
       all_goals first|(refine hK9 _ ?_;clear hK9 K9)|(simp only [push_cast];done)
       all_goals simp only [push_cast,↓zK,↓zJ,↓reduceIte,zA,zB,zC,zD,zE,zF,zG,zH,zI,reduceCtorEq]
       all_goals repeat'(first|(apply zP<;>(intro hg;(try simp only [push_cast]at hg)))|(refine⟨_,hCn,?_⟩;simp only [push_cast,↓zK,↓zJ,↓reduceIte,zA,zB,zC,zD,zE,zF,zG,zH,zI,reduceCtorEq])|apply And.intro|(intro hg;(try simp only [push_cast]at hg)))
       all_goals try exact gA
       all_goals first|(refine hK _ ?_;clear hK K)|(simp only [push_cast];done)
       refine zU rfl (fun hc=> ?_) (fun hc=> ?_)<;>(try simp only [push_cast]at hc)
       ·
        refine zL fun K hK=> ?_
        refine zM zO zN [] rfl ?_
        simp only [push_cast,↓zK,↓zJ,↓reduceIte,zA,zB,zC,zD,zE,zF,zG,zH,zI,reduceCtorEq]
        repeat' apply And.intro
        all_goals try exact gB
        all_goals first|(refine hK _ ?_;clear hK K)|(simp only [push_cast];done)
        refine zX ?_
        (try simp only [zR,zS])
        refine⟨Or.inl rfl,?_⟩
        simp only [Qq,zd,vL,yE,yj,push_cast,↓zK,↓zJ,↓reduceIte,zA,zB,zC,zD,zE,zF,zG,zH,zI,reduceCtorEq]
        have hfin:=WnI.none hx rfl hlv hw2 hnx (fun v hv=>wu (l:=now2) (by first|assumption|(simpa using hc)) v (by omega))
        rw [←hfin]
        all_goals first|rfl|(simp [hnl2];done)|skip
       ·
        refine zV ?_
        refine hL0 _ ⟨now2,⟨hnx, .inr (by
          rcases hdn with h9|h9
          ·have h8:ye now inn.length=ye inn inn.length:=congrArg (fun l=>ye l inn.length) h9
           omega
          ·omega)⟩,hls,?_⟩
        refine zY rfl ?_ ?_ ?_<;>simp only [zf,ze,push_cast,↓zK,↓zJ,↓reduceIte,zA,zB,zC,zD,zE,zF,zG,zH,zI,reduceCtorEq]
        all_goals first|rfl|(rw [hnl2];done)|skip
     ·
      refine zV ?_
      (try simp only [zR,zS,reduceIte,zF]);refine hK5 _ ?_
      refine zL fun K6 hK6=> ?_
      first|rw [hlo1 (by first|assumption|exact trivial)]|rw [hlo2 (by first|assumption|exact trivial)]
      have hCo:=vG lost (by omega)
      refine zL fun K hK=> ?_
      refine zM zO zN [] rfl ?_
      all_goals refine zo 2 fun K9 hK9=> ?_
      all_goals simp only [push_cast,↓zK,↓zJ,↓reduceIte,zA,zB,zC,zD,zE,zF,zG,zH,zI,reduceCtorEq]
      all_goals repeat'(first|(apply zP<;>(intro hg;(try simp only [push_cast]at hg)))|(refine⟨_,hCo,?_⟩;simp only [push_cast,↓zK,↓zJ,↓reduceIte,zA,zB,zC,zD,zE,zF,zG,zH,zI,reduceCtorEq])|apply And.intro|(intro hg;(try simp only [push_cast]at hg)))
      all_goals try exact gA
      all_goals first|(refine hK9 _ ?_;clear hK9 K9)|(simp only [push_cast];done)
      all_goals simp only [push_cast,↓zK,↓zJ,↓reduceIte,zA,zB,zC,zD,zE,zF,zG,zH,zI,reduceCtorEq]
      all_goals repeat'(first|(apply zP<;>(intro hg;(try simp only [push_cast]at hg)))|(refine⟨_,hCo,?_⟩;simp only [push_cast,↓zK,↓zJ,↓reduceIte,zA,zB,zC,zD,zE,zF,zG,zH,zI,reduceCtorEq])|apply And.intro|(intro hg;(try simp only [push_cast]at hg)))
      all_goals try exact gA
      all_goals first|(refine hK _ ?_;clear hK K)|(simp only [push_cast];done)
      refine zU rfl (fun hc=> ?_) (fun hc=> ?_)<;>(try simp only [push_cast]at hc)
      ·
       refine zL fun K hK=> ?_
       refine zM zO zN [] rfl ?_
       simp only [push_cast,↓zK,↓zJ,↓reduceIte,zA,zB,zC,zD,zE,zF,zG,zH,zI,reduceCtorEq]
       repeat' apply And.intro
       all_goals try exact gB
       all_goals first|(refine hK _ ?_;clear hK K)|(simp only [push_cast];done)
       refine zX ?_
       (try simp only [zR,zS])
       refine⟨Or.inl rfl,?_⟩
       simp only [Qq,zd,vL,yE,yj,push_cast,↓zK,↓zJ,↓reduceIte,zA,zB,zC,zD,zE,zF,zG,zH,zI,reduceCtorEq]
       have hfin:=hwn.all hx rfl hlv htop.1 hpar hmax hgd.symm hrs.symm hlv2 (fun v hv=>wu (l:=lost) (by first|assumption|(simpa using hc)) v (by omega))
       rw [←hfin]
       all_goals first|rfl|exact⟨⟨rfl,rfl⟩,rfl⟩|(simp [hnl];done)|skip
      ·
       refine zV ?_
       (try simp only [zR,zS,reduceIte,zF]);refine hK6 _ ?_
       have hsm:anT lost=true:=by simpa using hc
       obtain⟨att2,ha2⟩: ∃a,yW x inn.length now (1 - who) lost=a:=⟨_,rfl⟩
       have hP2:=hPu now (1 - who) lost hnl hlol (fun v hv hb=>by rw [←hld]at hb;exact zAb hnl hrs hv hb)
       have hnx:=hwn.next hx hw2 hrs.symm hlv2
       have hls:=hwn.lt hrs.symm hlv2 (by obtain⟨v9,h9,h8⟩:=vS.1 hsm;exact⟨v9,by omega,h8⟩)
       have hal2:=vt x inn.length now (1 - who) lost
       rw [ha2]at hP2 hnx hls hal2
       obtain⟨now2,hn2d⟩: ∃a,yI now att2=a:=⟨_,rfl⟩
       have hW3:=wY now att2 (by omega) (by omega)
       rw [hn2d]at hW3 hnx hls
       rw [←hTk () now hnl]at hP2 hW3
       have hnl2:=hnx.len
       have hCn:=vG now2 (by omega)
       refine zL fun K hK=> ?_
       refine zj false zO zN ?_ rfl ?_
       ·kernel_rfl
       all_goals refine yC 7 fun K9 hK9=> ?_
       all_goals simp only [push_cast,↓zK,↓zJ,↓reduceIte,zA,zB,zC,zD,zE,zF,zG,zH,zI,reduceCtorEq]
       all_goals repeat'(first|(apply zP<;>(intro hg;(try simp only [push_cast]at hg)))|(refine⟨_,_,hP2,?_⟩;(try simp only [push_cast,↓zK,↓zJ,↓reduceIte,zA,zB,zC,zD,zE,zF,zG,zH,zI,reduceCtorEq]))|apply And.intro|(intro hg;(try simp only [push_cast]at hg)))
       all_goals try exact gA
       all_goals first|(refine hK9 _ ?_;clear hK9 K9)|(simp only [push_cast];done)
       all_goals refine yC 1 fun K9 hK9=> ?_
       all_goals simp only [push_cast,↓zK,↓zJ,↓reduceIte,zA,zB,zC,zD,zE,zF,zG,zH,zI,reduceCtorEq]
       all_goals repeat'(first|(apply zP<;>(intro hg;(try simp only [push_cast]at hg)))|(refine⟨_,hW3,?_⟩;simp only [push_cast,↓zK,↓zJ,↓reduceIte,zA,zB,zC,zD,zE,zF,zG,zH,zI,reduceCtorEq])|apply And.intro|(intro hg;(try simp only [push_cast]at hg)))
       all_goals try exact gA
       all_goals first|(refine hK9 _ ?_;clear hK9 K9)|(simp only [push_cast];done)
       all_goals simp only [push_cast,↓zK,↓zJ,↓reduceIte,zA,zB,zC,zD,zE,zF,zG,zH,zI,reduceCtorEq]
       all_goals repeat'(first|(apply zP<;>(intro hg;(try simp only [push_cast]at hg)))|(refine⟨_,_,hP2,?_⟩;(try simp only [push_cast,↓zK,↓zJ,↓reduceIte,zA,zB,zC,zD,zE,zF,zG,zH,zI,reduceCtorEq]))|(refine⟨_,hW3,?_⟩;simp only [push_cast,↓zK,↓zJ,↓reduceIte,zA,zB,zC,zD,zE,zF,zG,zH,zI,reduceCtorEq])|apply And.intro|(intro hg;(try simp only [push_cast]at hg)))
       all_goals try exact gA
       all_goals first|(refine hK _ ?_;clear hK K)|(simp only [push_cast];done)
       refine qo 4 9 (Nat.le_of_ble_eq_true rfl) ?_
       simp only [push_cast,↓zK,↓zJ,↓reduceIte,zA,zB,zC,zD,zE,zF,zG,zH,zI,reduceCtorEq]
       refine zL fun K hK=> ?_
       refine zM zO zN [] rfl ?_
       all_goals refine zo 2 fun K9 hK9=> ?_
       all_goals simp only [push_cast,↓zK,↓zJ,↓reduceIte,zA,zB,zC,zD,zE,zF,zG,zH,zI,reduceCtorEq]
       all_goals repeat'(first|(apply zP<;>(intro hg;(try simp only [push_cast]at hg)))|(refine⟨_,hCn,?_⟩;simp only [push_cast,↓zK,↓zJ,↓reduceIte,zA,zB,zC,zD,zE,zF,zG,zH,zI,reduceCtorEq])|apply And.intro|(intro hg;(try simp only [push_cast]at hg)))
       all_goals try exact gA
       all_goals first|(refine hK9 _ ?_;clear hK9 K9)|(simp only [push_cast];done)
       all_goals simp only [push_cast,↓zK,↓zJ,↓reduceIte,zA,zB,zC,zD,zE,zF,zG,zH,zI,reduceCtorEq]
       all_goals repeat'(first|(apply zP<;>(intro hg;(try simp only [push_cast]at hg)))|(refine⟨_,hCn,?_⟩;simp only [push_cast,↓zK,↓zJ,↓reduceIte,zA,zB,zC,zD,zE,zF,zG,zH,zI,reduceCtorEq])|apply And.intro|(intro hg;(try simp only [push_cast]at hg)))
       all_goals try exact gA
       all_goals first|(refine hK _ ?_;clear hK K)|(simp only [push_cast];done)
       refine zU rfl (fun hc=> ?_) (fun hc=> ?_)<;>(try simp only [push_cast]at hc)
       ·
        refine zL fun K hK=> ?_
        refine zM zO zN [] rfl ?_
        simp only [push_cast,↓zK,↓zJ,↓reduceIte,zA,zB,zC,zD,zE,zF,zG,zH,zI,reduceCtorEq]
        repeat' apply And.intro
        all_goals try exact gB
        all_goals first|(refine hK _ ?_;clear hK K)|(simp only [push_cast];done)
        refine zX ?_
        (try simp only [zR,zS])
        refine⟨Or.inl rfl,?_⟩
        simp only [Qq,zd,vL,yE,yj,push_cast,↓zK,↓zJ,↓reduceIte,zA,zB,zC,zD,zE,zF,zG,zH,zI,reduceCtorEq]
        have hfin:=WnI.none hx rfl hlv hw2 hnx (fun v hv=>wu (l:=now2) (by first|assumption|(simpa using hc)) v (by omega))
        rw [←hfin]
        all_goals first|rfl|(simp [hnl2];done)|skip
       ·
        refine zV ?_
        refine hL0 _ ⟨now2,⟨hnx, .inr (by
          rcases hdn with h9|h9
          ·have h8:ye now inn.length=ye inn inn.length:=congrArg (fun l=>ye l inn.length) h9
           omega
          ·omega)⟩,hls,?_⟩
        refine zY rfl ?_ ?_ ?_<;>simp only [zf,ze,push_cast,↓zK,↓zJ,↓reduceIte,zA,zB,zC,zD,zE,zF,zG,zH,zI,reduceCtorEq]
        all_goals first|rfl|(rw [hnl2];done)|skip
    ·
     refine qo 4 12 (Nat.le_of_ble_eq_true rfl) ?_
     simp only [push_cast,↓zK,↓zJ,↓reduceIte,zA,zB,zC,zD,zE,zF,zG,zH,zI,reduceCtorEq]
     have hrl:=hrr.1
     obtain⟨hno,hq1,hq2,hq3⟩:=zFy (x:=x) (who:=who) hrl hre
     rw [hld]at hq1 hq2 hq3
     have hlo1:=fun h:True=>hq1
     have hlo2:=fun h:True=>hq2
     have hAe:=zIV rest (by omega) hno
     have hWo:=wY rest rest (by omega) rfl
     refine zL fun K hK=> ?_
     refine XB (Kj Try.prog tyT) UZ (some 71) zO zN [208] rfl ?_
     all_goals simp only [push_cast,↓zK,↓zJ,↓reduceIte,zA,zB,zC,zD,zE,zF,zG,zH,zI,reduceCtorEq]
     repeat'(first|exact hAe|apply And.intro)
     all_goals first|exact True.intro|exact rfl|omega|skip
     all_goals first|(refine hK _ ?_;clear hK K)|(simp only [push_cast];done)
     refine zL fun K hK=> ?_
     refine zM zO zN [240] rfl ?_
     simp only [push_cast,↓zK,↓zJ,↓reduceIte,zA,zB,zC,zD,zE,zF,zG,zH,zI,reduceCtorEq]
     repeat' apply And.intro
     all_goals try exact gB
     all_goals first|(refine hK _ ?_;clear hK K)|(simp only [push_cast];done)
     refine zL fun K5 hK5=> ?_
     refine zL fun K hK=> ?_
     refine zM zO zN [] rfl ?_
     simp only [push_cast,↓zK,↓zJ,↓reduceIte,zA,zB,zC,zD,zE,zF,zG,zH,zI,reduceCtorEq]
     repeat' apply And.intro
     all_goals try exact gB
     all_goals first|(refine hK _ ?_;clear hK K)|(simp only [push_cast];done)
     refine zU rfl (fun hc=> ?_) (fun hc=> ?_)<;>(try simp only [push_cast]at hc)
     ·
      refine zM zO zN [] rfl ?_
      all_goals refine zo 3 fun K9 hK9=> ?_
      all_goals simp only [push_cast,↓zK,↓zJ,↓reduceIte,zA,zB,zC,zD,zE,zF,zG,zH,zI,reduceCtorEq]
      all_goals repeat'(first|(apply zP<;>(intro hg;(try simp only [push_cast]at hg)))|(refine⟨_,hWo,?_⟩;simp only [push_cast,↓zK,↓zJ,↓reduceIte,zA,zB,zC,zD,zE,zF,zG,zH,zI,reduceCtorEq])|apply And.intro|(intro hg;(try simp only [push_cast]at hg)))
      all_goals try exact gA
      all_goals first|(refine hK9 _ ?_;clear hK9 K9)|(simp only [push_cast];done)
      all_goals simp only [push_cast,↓zK,↓zJ,↓reduceIte,zA,zB,zC,zD,zE,zF,zG,zH,zI,reduceCtorEq]
      all_goals repeat'(first|(apply zP<;>(intro hg;(try simp only [push_cast]at hg)))|(refine⟨_,hWo,?_⟩;simp only [push_cast,↓zK,↓zJ,↓reduceIte,zA,zB,zC,zD,zE,zF,zG,zH,zI,reduceCtorEq])|apply And.intro|(intro hg;(try simp only [push_cast]at hg)))
      all_goals try exact gA
      (try simp only [zR,zS,reduceIte,zF]);refine hK5 _ ?_
      refine zL fun K6 hK6=> ?_
      first|rw [hlo1 (by first|assumption|exact trivial)]|rw [hlo2 (by first|assumption|exact trivial)]
      have hCo:=vG lost (by omega)
      refine zL fun K hK=> ?_
      refine zM zO zN [] rfl ?_
      all_goals refine zo 2 fun K9 hK9=> ?_
      all_goals simp only [push_cast,↓zK,↓zJ,↓reduceIte,zA,zB,zC,zD,zE,zF,zG,zH,zI,reduceCtorEq]
      all_goals repeat'(first|(apply zP<;>(intro hg;(try simp only [push_cast]at hg)))|(refine⟨_,hCo,?_⟩;simp only [push_cast,↓zK,↓zJ,↓reduceIte,zA,zB,zC,zD,zE,zF,zG,zH,zI,reduceCtorEq])|apply And.intro|(intro hg;(try simp only [push_cast]at hg)))
      all_goals try exact gA
      all_goals first|(refine hK9 _ ?_;clear hK9 K9)|(simp only [push_cast];done)
      all_goals simp only [push_cast,↓zK,↓zJ,↓reduceIte,zA,zB,zC,zD,zE,zF,zG,zH,zI,reduceCtorEq]
      all_goals repeat'(first|(apply zP<;>(intro hg;(try simp only [push_cast]at hg)))|(refine⟨_,hCo,?_⟩;simp only [push_cast,↓zK,↓zJ,↓reduceIte,zA,zB,zC,zD,zE,zF,zG,zH,zI,reduceCtorEq])|apply And.intro|(intro hg;(try simp only [push_cast]at hg)))
      all_goals try exact gA
      all_goals first|(refine hK _ ?_;clear hK K)|(simp only [push_cast];done)
      refine zU rfl (fun hc=> ?_) (fun hc=> ?_)
      rotate_left
      ·exfalso;(rw [hq3]at hc;exact absurd hc (by decide))
      refine zL fun K hK=> ?_
      refine zM zO zN [] rfl ?_
      simp only [push_cast,↓zK,↓zJ,↓reduceIte,zA,zB,zC,zD,zE,zF,zG,zH,zI,reduceCtorEq]
      repeat' apply And.intro
      all_goals try exact gB
      all_goals first|(refine hK _ ?_;clear hK K)|(simp only [push_cast];done)
      refine zX ?_
      (try simp only [zR,zS])
      refine⟨Or.inl rfl,?_⟩
      simp only [Qq,zd,vL,yE,yj,push_cast,↓zK,↓zJ,↓reduceIte,zA,zB,zC,zD,zE,zF,zG,zH,zI,reduceCtorEq]
      have hfin:=hwn.all hx rfl hlv htop.1 hpar hmax hgd.symm hrs.symm hlv2 (fun v hv=>wu (l:=lost) (by first|assumption|(simpa using hc)) v (by omega))
      rw [←hfin]
      all_goals first|rfl|exact⟨⟨rfl,rfl⟩,rfl⟩|(simp [hnl];done)|skip
     ·
      refine zV ?_
      (try simp only [zR,zS,reduceIte,zF]);refine hK5 _ ?_
      refine zL fun K6 hK6=> ?_
      first|rw [hlo1 (by first|assumption|exact trivial)]|rw [hlo2 (by first|assumption|exact trivial)]
      have hCo:=vG lost (by omega)
      refine zL fun K hK=> ?_
      refine zM zO zN [] rfl ?_
      all_goals refine zo 2 fun K9 hK9=> ?_
      all_goals simp only [push_cast,↓zK,↓zJ,↓reduceIte,zA,zB,zC,zD,zE,zF,zG,zH,zI,reduceCtorEq]
      all_goals repeat'(first|(apply zP<;>(intro hg;(try simp only [push_cast]at hg)))|(refine⟨_,hCo,?_⟩;simp only [push_cast,↓zK,↓zJ,↓reduceIte,zA,zB,zC,zD,zE,zF,zG,zH,zI,reduceCtorEq])|apply And.intro|(intro hg;(try simp only [push_cast]at hg)))
      all_goals try exact gA
      all_goals first|(refine hK9 _ ?_;clear hK9 K9)|(simp only [push_cast];done)
      all_goals simp only [push_cast,↓zK,↓zJ,↓reduceIte,zA,zB,zC,zD,zE,zF,zG,zH,zI,reduceCtorEq]
      all_goals repeat'(first|(apply zP<;>(intro hg;(try simp only [push_cast]at hg)))|(refine⟨_,hCo,?_⟩;simp only [push_cast,↓zK,↓zJ,↓reduceIte,zA,zB,zC,zD,zE,zF,zG,zH,zI,reduceCtorEq])|apply And.intro|(intro hg;(try simp only [push_cast]at hg)))
      all_goals try exact gA
      all_goals first|(refine hK _ ?_;clear hK K)|(simp only [push_cast];done)
      refine zU rfl (fun hc=> ?_) (fun hc=> ?_)
      rotate_left
      ·exfalso;(rw [hq3]at hc;exact absurd hc (by decide))
      refine zL fun K hK=> ?_
      refine zM zO zN [] rfl ?_
      simp only [push_cast,↓zK,↓zJ,↓reduceIte,zA,zB,zC,zD,zE,zF,zG,zH,zI,reduceCtorEq]
      repeat' apply And.intro
      all_goals try exact gB
      all_goals first|(refine hK _ ?_;clear hK K)|(simp only [push_cast];done)
      refine zX ?_
      (try simp only [zR,zS])
      refine⟨Or.inl rfl,?_⟩
      simp only [Qq,zd,vL,yE,yj,push_cast,↓zK,↓zJ,↓reduceIte,zA,zB,zC,zD,zE,zF,zG,zH,zI,reduceCtorEq]
      have hfin:=hwn.all hx rfl hlv htop.1 hpar hmax hgd.symm hrs.symm hlv2 (fun v hv=>wu (l:=lost) (by first|assumption|(simpa using hc)) v (by omega))
      rw [←hfin]
      all_goals first|rfl|exact⟨⟨rfl,rfl⟩,rfl⟩|(simp [hnl];done)|skip
theorem zEz (x:L7): ∀(f:Nat) (inn:List Bool),x.Ok inn.length→(∀(v:Nat) (u:Int),v<inn.length→edB x v u=true)→ye inn inn.length<f→vR (pgL x) (inD inn.length inn)→(∃v,v<inn.length∧gb inn v=true)→
  FnB Try.prog tyT 149 (dSv x) [.c (.lst 4 (dB inn))] (dSv x) [.c (.lst 4 (dB (wiM x inn.length inn (Int.tmod (yK x inn inn.length) 2)))), .c (.int .i64 (Int.tmod (yK x inn inn.length) 2))]
 |0,inn,_,_,h,_,_=>absurd h (Nat.not_lt_zero _)
 |f+1,inn,hx,hed,hc,hl,hne=>zGc x inn hx hed hl hne _ _ rfl rfl fun r hr hlt hlv hre=>by
  have :=zEz x f r (by rw [hr];exact hx) (by rw [hr];exact hed) (by rw [hr];omega) (by rw [hr];exact hlv) (by rw [hr];exact hre)
  rw [hr]at this
  exact this
section
variable {g:Pa}
noncomputable def wiG (g:Pa)(M:List Bool)(who:Int):List Bool:=wiM (l7G g (noP g.a.owner.length)) g.a.owner.length M who
theorem kV (g:Pa)(M:List Bool)(who:Int):(wiG g M who).length=g.a.owner.length:=Qm _ _ _ _
theorem zGZ {M:List Bool}(hM:M.length=g.a.owner.length){who:Int}(hw:who=0∨who=1):yI M (wiG g M who)=wiG g M (1 - who):=by
 refine wS (by rw [xS,kV];exact hM) fun v hv=> ?_
 rw [xS,hM]at hv
 rw [qB (by omega)]
 unfold wiG wiM
 rw [yS hv,yS hv]
 unfold wiB
 rcases hw with rfl|rfl<;>cases gb M v<;>cases gb (yU (l7G g (noP g.a.owner.length)) g.a.owner.length (g.a.owner.length+1) M) v<;>rfl
theorem zHU {n:Nat}(hn:g.a.owner.length=n)(v:Nat)(u:Int)(hv:v<n):edB (l7G g (noP g.a.owner.length)) v u=true:=zD0 (by omega) u
def VQ (n:Nat)(xs:List Int)(k:Nat):List Int:=(List.range n).map fun(v:Nat)=>if yD (xs.take k) (v:Int)=true then 1 else 0
theorem va (n:Nat)(xs:List Int)(k:Nat):(VQ n xs k).length=n:=by simp [VQ]
theorem JI {n:Nat}{xs:List Int}{k v:Nat}(h:v<n):gi (VQ n xs k) v=if yD (xs.take k) (v:Int)=true then 1 else 0:=by
 unfold gi VQ
 rw [List.getD_eq_getElem?_getD,List.getElem?_map,List.getElem?_range h]
 rfl
theorem jv {a b:List Int}(hl:a.length=b.length)(h: ∀v,v<a.length→gi a v=gi b v):a=b:=by
 refine List.ext_getElem? fun i=> ?_
 by_cases hi:i<a.length
 ·rw [vW hi,vW (by omega),h i hi]
 ·rw [List.getElem?_eq_none (by omega),List.getElem?_eq_none (by omega)]
theorem zJX (n:Nat)(xs:List Int):VQ n xs 0=List.replicate n 0:=by
 refine jv (by rw [va];simp) fun v hv=> ?_
 rw [va]at hv
 rw [JI hv,jA hv]
 rfl
theorem zFt {n:Nat}{xs:List Int}{k:Nat}(hk:k<xs.length)(h:0≤gi xs k∧gi xs k<n):(VQ n xs k).set (gi xs k).toNat 1=VQ n xs (k+1):=by
 refine jv (by rw [List.length_set,va,va]) fun v hv=> ?_
 rw [List.length_set,va]at hv
 rw [xw (by rw [va];omega),JI (k:=k+1) hv,ZG hk]
 split
 ·rename_i e
  rw [decide_eq_true (by omega),Bool.or_true,if_pos rfl]
 ·rename_i e
  rw [JI hv,decide_eq_false (by omega),Bool.or_false]
theorem zHl (n:Nat):mkS n (wv n) n=qc n:=by
 refine wS (by rw [vj,Qt]) fun v hv=> ?_
 rw [vj]at hv
 rw [zAc hv,QP hv,vM]
 exact⟨v,by rw [List.length_take,XE];omega,by rw [wT hv];unfold gi wv;rw [List.getD_eq_getElem?_getD,List.getElem?_map,List.getElem?_range hv];rfl⟩
theorem zHk {n v:Nat}(h:v<n):gi (wv n) v=v:=by unfold gi wv;rw [List.getD_eq_getElem?_getD,List.getElem?_map,List.getElem?_range h];rfl
theorem zKG (g:Pa):VQ g.a.owner.length (yb (wiG g (qc g.a.owner.length) 1) g.a.owner.length) (yb (wiG g (qc g.a.owner.length) 1) g.a.owner.length).length=QF g:=by
 refine jv (by rw [va,XK]) fun v hv=> ?_
 rw [va]at hv
 rw [JI hv,zIW hv,List.take_length]
 have e:yD (yb (wiG g (qc g.a.owner.length) 1) g.a.owner.length) (v:Int)= !gb (Wl g) v:=by
  rw [Bool.eq_iff_iff,vX,vy]
  unfold wiG wiM Wl
  constructor
  ·rintro⟨u,hu,h1,h2⟩
   have :u=v:=by omega
   subst this
   rw [yS hu]at h1
   unfold wiB at h1
   rw [QP hu]at h1
   cases hb:gb (yU (l7G g (noP g.a.owner.length)) g.a.owner.length (g.a.owner.length+1) (qc g.a.owner.length)) u
   ·rfl
   ·rw [hb]at h1;cases h1
  ·intro h1
   refine⟨v,hv,?_,rfl⟩
   rw [yS hv]
   unfold wiB
   rw [QP hv]
   cases hb:gb (yU (l7G g (noP g.a.owner.length)) g.a.owner.length (g.a.owner.length+1) (qc g.a.owner.length)) v
   ·rfl
   ·rw [hb]at h1;cases h1
 rw [e]
 cases gb (Wl g) v<;>rfl
theorem zFp (h:qk g=true):vR (pgL (l7G g (noP g.a.owner.length))) (inD g.a.owner.length (qc g.a.owner.length)):=fun v hv=>by
 obtain⟨ha,hpl,hpr⟩:=xg h
 have h1:=(xR ha hv.1).2.2
 have h2:=Zr h1.2.2 (j:=0) (by omega)
 rw [zJc]
 exact⟨(gi (gl g.a.next v) 0).toNat,⟨hv.1,0,by omega,rfl⟩,⟨by omega,QP (by omega)⟩⟩
end
set_option maxRecDepth 20000 in
set_option maxHeartbeats 8000000 in
theorem zGb (g:Pa)(hg:g.Ln 1048576)(hok:qk g=true)(xs:List Int)(hx:xs.length≤1048576)(hr: ∀j,j<xs.length→0≤gi xs j∧gi xs j<g.a.owner.length)(M:List Bool)(hM:mkS g.a.owner.length xs xs.length=M)(hlv:vR (pgL (l7G g (noP g.a.owner.length))) (inD g.a.owner.length M))(hne: ∃v,v<g.a.owner.length∧gb M v=true):Fn Try.prog tyT 112 [.agg (dPa g), .c (DI xs)] [.c (DI (yb (wiG g M 0) g.a.owner.length)), .c (DI (yb (wiG g M 1) g.a.owner.length))]:=by
 obtain⟨hao,hpl,hpr⟩:=xg hok
 have hal:=yv hao
 have hMl:M.length=g.a.owner.length:=by rw [←hM];exact vj _ _ _
 have hPr:=zDN g.a hao
 have hMk:=zER g.a hg.a xs hx hr
 rw [hM]at hMk
 have hxk:=zEL hok (kJ g.a.owner.length)
 have hWo:=zEz (l7G g (noP g.a.owner.length)) (g.a.owner.length+1) M (by rw [hMl];exact hxk) (fun v u hv=>zHU rfl v u (by omega)) (by rw [hMl];exact Nat.lt_succ_of_le (VB _ _)) (by rw [hMl];exact hlv) (by rw [hMl];exact hne)
 rw [hMl]at hWo
 obtain⟨who,hwh⟩: ∃w,Int.tmod (yK (l7G g (noP g.a.owner.length)) M g.a.owner.length) 2=w:=⟨_,rfl⟩
 have hw2:who=0∨who=1:=by
  obtain⟨v9,hv9,hb9⟩:=hne
  have h1:=Zs (x:=(l7G g (noP g.a.owner.length))) (inn:=M) g.a.owner.length v9 hv9 hb9
  have h2:=hxk.pr v9 hv9
  rw [←hwh,Xi (by omega)]
  omega
 rw [hwh]at hWo
 rw [show wiM (l7G g (noP g.a.owner.length)) g.a.owner.length M who=wiG g M who from rfl]at hWo
 have hls:=zGZ (g:=g) hMl hw2
 have hwl:=kV g M who
 have hwl2:=kV g M (1 - who)
 have hWt:=wY M (wiG g M who) (by omega) (by omega)
 rw [hls]at hWt
 have hL1:=YJ (wiG g M who) (by omega)
 have hL2:=YJ (wiG g M (1 - who)) (by omega)
 rw [hwl]at hL1
 rw [hwl2]at hL2
 clear hne hlv hxk hwh
 have hi1:=vx (wiG g M who) g.a.owner.length
 have hi2:=vx (wiG g M (1 - who)) g.a.owner.length
 unfold dSv l7G at hWo
 dsimp only at hWo
 unfold dAr at hPr hMk
 unfold dPa
 refine zw (fn:=Try.f112) (ts:= [4,5]) Try.func112 (by kernel_rfl) rfl rfl (by rw [Try.ntmps112];exact Nat.le_of_ble_eq_true rfl) rfl (by simp only [szA,List.mem_cons,List.not_mem_nil,or_false,forall_eq_or_imp,forall_eq,VT.cells,szL];try decide) ?_
 rw [Try.ntmps112]
 simp only [push_cast,↓zK,↓zJ,↓reduceIte,zA,zB,zC,zD,zE,zF,zG,zH,zI,reduceCtorEq]
 refine zL fun K hK=> ?_
 refine zM zO zN [] rfl ?_
 simp only [push_cast,↓zK,↓zJ,↓reduceIte,zA,zB,zC,zD,zE,zF,zG,zH,zI,reduceCtorEq]
 repeat' apply And.intro
 all_goals try exact gB
 all_goals first|(refine hK _ ?_;clear hK K)|(simp only [push_cast];done)
 refine zL fun K hK=> ?_
 refine xN true zO zN qb ?_ rfl ?_
 ·kernel_rfl
 intro E hE
 all_goals refine vz 4 (by decide) fun K9 hK9=> ?_
 all_goals simp only [push_cast,↓zK,↓zJ,↓reduceIte,zA,zB,zC,zD,zE,zF,zG,zH,zI,reduceCtorEq]
 all_goals repeat'(first|(apply zP<;>(intro hg;(try simp only [push_cast]at hg)))|(refine⟨_,hPr,?_⟩;simp only [push_cast,↓zK,↓zJ,↓reduceIte,zA,zB,zC,zD,zE,zF,zG,zH,zI,reduceCtorEq])|apply And.intro|(intro hg;(try simp only [push_cast]at hg)))
 all_goals try exact gA
 all_goals first|(refine hK9 _ _ ?_;clear hK9 K9)|(simp only [push_cast];done)
 all_goals simp only [push_cast,↓zK,↓zJ,↓reduceIte,zA,zB,zC,zD,zE,zF,zG,zH,zI,reduceCtorEq]
 all_goals repeat'(first|(apply zP<;>(intro hg;(try simp only [push_cast]at hg)))|(refine⟨_,hPr,?_⟩;simp only [push_cast,↓zK,↓zJ,↓reduceIte,zA,zB,zC,zD,zE,zF,zG,zH,zI,reduceCtorEq])|apply And.intro|(intro hg;(try simp only [push_cast]at hg)))
 all_goals first|exact gA|(refine hE _ _ ?_ ?_;kernel_rfl)|skip
 all_goals clear hE E
 all_goals first|(refine hK _ ?_;clear hK K)|(simp only [push_cast];done)
 refine Vx [240,241,242] [.sl 2, .sl 22, .sl 2, .sl 22] 15 ?_
 simp only [push_cast,↓zK,↓zJ,↓reduceIte,zA,zB,zC,zD,zE,zF,zG,zH,zI,reduceCtorEq]
 refine zL fun K hK=> ?_
 refine zM zO zN [] rfl ?_
 all_goals refine zo 4 fun K9 hK9=> ?_
 all_goals simp only [push_cast,↓zK,↓zJ,↓reduceIte,zA,zB,zC,zD,zE,zF,zG,zH,zI,reduceCtorEq]
 all_goals repeat'(first|(apply zP<;>(intro hg;(try simp only [push_cast]at hg)))|(refine⟨_,hMk,?_⟩;simp only [push_cast,↓zK,↓zJ,↓reduceIte,zA,zB,zC,zD,zE,zF,zG,zH,zI,reduceCtorEq])|apply And.intro|(intro hg;(try simp only [push_cast]at hg)))
 all_goals try exact gA
 all_goals first|(refine hK9 _ ?_;clear hK9 K9)|(simp only [push_cast];done)
 all_goals simp only [push_cast,↓zK,↓zJ,↓reduceIte,zA,zB,zC,zD,zE,zF,zG,zH,zI,reduceCtorEq]
 all_goals repeat'(first|(apply zP<;>(intro hg;(try simp only [push_cast]at hg)))|(refine⟨_,hMk,?_⟩;simp only [push_cast,↓zK,↓zJ,↓reduceIte,zA,zB,zC,zD,zE,zF,zG,zH,zI,reduceCtorEq])|apply And.intro|(intro hg;(try simp only [push_cast]at hg)))
 all_goals try exact gA
 all_goals first|(refine hK _ ?_;clear hK K)|(simp only [push_cast];done)
 refine zL fun K hK=> ?_
 refine zj false zO zN ?_ rfl ?_
 ·kernel_rfl
 all_goals refine yC 3 fun K9 hK9=> ?_
 all_goals simp only [push_cast,↓zK,↓zJ,↓reduceIte,zA,zB,zC,zD,zE,zF,zG,zH,zI,reduceCtorEq]
 all_goals repeat'(first|(apply zP<;>(intro hg;(try simp only [push_cast]at hg)))|(refine⟨_,_,hWo,?_⟩;(try simp only [push_cast,↓zK,↓zJ,↓reduceIte,zA,zB,zC,zD,zE,zF,zG,zH,zI,reduceCtorEq]))|apply And.intro|(intro hg;(try simp only [push_cast]at hg)))
 all_goals try exact gA
 all_goals first|(refine hK9 _ ?_;clear hK9 K9)|(simp only [push_cast];done)
 all_goals simp only [push_cast,↓zK,↓zJ,↓reduceIte,zA,zB,zC,zD,zE,zF,zG,zH,zI,reduceCtorEq]
 all_goals repeat'(first|(apply zP<;>(intro hg;(try simp only [push_cast]at hg)))|(refine⟨_,_,hWo,?_⟩;(try simp only [push_cast,↓zK,↓zJ,↓reduceIte,zA,zB,zC,zD,zE,zF,zG,zH,zI,reduceCtorEq]))|apply And.intro|(intro hg;(try simp only [push_cast]at hg)))
 all_goals try exact gA
 all_goals first|(refine hK _ ?_;clear hK K)|(simp only [push_cast];done)
 refine zL fun K1 hK1=> ?_
 refine qo 4 8 (Nat.le_of_ble_eq_true rfl) ?_
 simp only [push_cast,↓zK,↓zJ,↓reduceIte,zA,zB,zC,zD,zE,zF,zG,zH,zI,reduceCtorEq]
 refine zL fun K hK=> ?_
 refine zM zO zN [] rfl ?_
 simp only [push_cast,↓zK,↓zJ,↓reduceIte,zA,zB,zC,zD,zE,zF,zG,zH,zI,reduceCtorEq]
 repeat' apply And.intro
 all_goals try exact gB
 all_goals first|(refine hK _ ?_;clear hK K)|(simp only [push_cast];done)
 refine zU rfl (fun hc=> ?_) (fun hc=> ?_)<;>(try simp only [push_cast]at hc)
 ·
  have hw0:who=0:=by simpa using hc
  subst hw0
  try rw [show(1:Int) - 0=1 from rfl]at*
  refine zL fun K hK=> ?_
  refine zM zO zN [] rfl ?_
  all_goals refine zo 2 fun K9 hK9=> ?_
  all_goals simp only [push_cast,↓zK,↓zJ,↓reduceIte,zA,zB,zC,zD,zE,zF,zG,zH,zI,reduceCtorEq]
  all_goals repeat'(first|(apply zP<;>(intro hg;(try simp only [push_cast]at hg)))|(refine⟨_,hL1,?_⟩;simp only [push_cast,↓zK,↓zJ,↓reduceIte,zA,zB,zC,zD,zE,zF,zG,zH,zI,reduceCtorEq])|(refine⟨_,hL2,?_⟩;simp only [push_cast,↓zK,↓zJ,↓reduceIte,zA,zB,zC,zD,zE,zF,zG,zH,zI,reduceCtorEq])|apply And.intro|(intro hg;(try simp only [push_cast]at hg)))
  all_goals try exact gA
  all_goals first|(refine hK9 _ ?_;clear hK9 K9)|(simp only [push_cast];done)
  all_goals refine zo 3 fun K9 hK9=> ?_
  all_goals simp only [push_cast,↓zK,↓zJ,↓reduceIte,zA,zB,zC,zD,zE,zF,zG,zH,zI,reduceCtorEq]
  all_goals repeat'(first|(apply zP<;>(intro hg;(try simp only [push_cast]at hg)))|(refine⟨_,hWt,?_⟩;simp only [push_cast,↓zK,↓zJ,↓reduceIte,zA,zB,zC,zD,zE,zF,zG,zH,zI,reduceCtorEq])|apply And.intro|(intro hg;(try simp only [push_cast]at hg)))
  all_goals try exact gA
  all_goals first|(refine hK9 _ ?_;clear hK9 K9)|(simp only [push_cast];done)
  all_goals refine zo 1 fun K9 hK9=> ?_
  all_goals simp only [push_cast,↓zK,↓zJ,↓reduceIte,zA,zB,zC,zD,zE,zF,zG,zH,zI,reduceCtorEq]
  all_goals repeat'(first|(apply zP<;>(intro hg;(try simp only [push_cast]at hg)))|(refine⟨_,hL1,?_⟩;simp only [push_cast,↓zK,↓zJ,↓reduceIte,zA,zB,zC,zD,zE,zF,zG,zH,zI,reduceCtorEq])|(refine⟨_,hL2,?_⟩;simp only [push_cast,↓zK,↓zJ,↓reduceIte,zA,zB,zC,zD,zE,zF,zG,zH,zI,reduceCtorEq])|apply And.intro|(intro hg;(try simp only [push_cast]at hg)))
  all_goals try exact gA
  all_goals first|(refine hK9 _ ?_;clear hK9 K9)|(simp only [push_cast];done)
  all_goals simp only [push_cast,↓zK,↓zJ,↓reduceIte,zA,zB,zC,zD,zE,zF,zG,zH,zI,reduceCtorEq]
  all_goals repeat'(first|(apply zP<;>(intro hg;(try simp only [push_cast]at hg)))|(refine⟨_,hWt,?_⟩;simp only [push_cast,↓zK,↓zJ,↓reduceIte,zA,zB,zC,zD,zE,zF,zG,zH,zI,reduceCtorEq])|(refine⟨_,hL1,?_⟩;simp only [push_cast,↓zK,↓zJ,↓reduceIte,zA,zB,zC,zD,zE,zF,zG,zH,zI,reduceCtorEq])|(refine⟨_,hL2,?_⟩;simp only [push_cast,↓zK,↓zJ,↓reduceIte,zA,zB,zC,zD,zE,zF,zG,zH,zI,reduceCtorEq])|apply And.intro|(intro hg;(try simp only [push_cast]at hg)))
  all_goals try exact gA
  all_goals first|(refine hK _ ?_;clear hK K)|(simp only [push_cast];done)
  refine zX ?_
  (try simp only [zR,zS])
  refine⟨Or.inl rfl,?_⟩
  simp only [zd,push_cast,↓zK,↓zJ,↓reduceIte,zA,zB,zC,zD,zE,zF,zG,zH,zI,reduceCtorEq]
  all_goals first|rfl|(simp;done)|skip
 ·
  refine zV ?_
  (try simp only [zR,zS,reduceIte,zF]);refine hK1 _ ?_
  have hw1:who=1:=by
   have hc9: ¬who=0:=by simpa using hc
   omega
  subst hw1
  refine zL fun K hK=> ?_
  refine zM zO zN [] rfl ?_
  all_goals refine zo 3 fun K9 hK9=> ?_
  all_goals simp only [push_cast,↓zK,↓zJ,↓reduceIte,zA,zB,zC,zD,zE,zF,zG,zH,zI,reduceCtorEq]
  all_goals repeat'(first|(apply zP<;>(intro hg;(try simp only [push_cast]at hg)))|(refine⟨_,hWt,?_⟩;simp only [push_cast,↓zK,↓zJ,↓reduceIte,zA,zB,zC,zD,zE,zF,zG,zH,zI,reduceCtorEq])|apply And.intro|(intro hg;(try simp only [push_cast]at hg)))
  all_goals try exact gA
  all_goals first|(refine hK9 _ ?_;clear hK9 K9)|(simp only [push_cast];done)
  all_goals refine zo 1 fun K9 hK9=> ?_
  all_goals simp only [push_cast,↓zK,↓zJ,↓reduceIte,zA,zB,zC,zD,zE,zF,zG,zH,zI,reduceCtorEq]
  all_goals repeat'(first|(apply zP<;>(intro hg;(try simp only [push_cast]at hg)))|(refine⟨_,hL1,?_⟩;simp only [push_cast,↓zK,↓zJ,↓reduceIte,zA,zB,zC,zD,zE,zF,zG,zH,zI,reduceCtorEq])|(refine⟨_,hL2,?_⟩;simp only [push_cast,↓zK,↓zJ,↓reduceIte,zA,zB,zC,zD,zE,zF,zG,zH,zI,reduceCtorEq])|apply And.intro|(intro hg;(try simp only [push_cast]at hg)))
  all_goals try exact gA
  all_goals first|(refine hK9 _ ?_;clear hK9 K9)|(simp only [push_cast];done)
  all_goals refine zo 2 fun K9 hK9=> ?_
  all_goals simp only [push_cast,↓zK,↓zJ,↓reduceIte,zA,zB,zC,zD,zE,zF,zG,zH,zI,reduceCtorEq]
  all_goals repeat'(first|(apply zP<;>(intro hg;(try simp only [push_cast]at hg)))|(refine⟨_,hL1,?_⟩;simp only [push_cast,↓zK,↓zJ,↓reduceIte,zA,zB,zC,zD,zE,zF,zG,zH,zI,reduceCtorEq])|(refine⟨_,hL2,?_⟩;simp only [push_cast,↓zK,↓zJ,↓reduceIte,zA,zB,zC,zD,zE,zF,zG,zH,zI,reduceCtorEq])|apply And.intro|(intro hg;(try simp only [push_cast]at hg)))
  all_goals try exact gA
  all_goals first|(refine hK9 _ ?_;clear hK9 K9)|(simp only [push_cast];done)
  all_goals simp only [push_cast,↓zK,↓zJ,↓reduceIte,zA,zB,zC,zD,zE,zF,zG,zH,zI,reduceCtorEq]
  all_goals repeat'(first|(apply zP<;>(intro hg;(try simp only [push_cast]at hg)))|(refine⟨_,hWt,?_⟩;simp only [push_cast,↓zK,↓zJ,↓reduceIte,zA,zB,zC,zD,zE,zF,zG,zH,zI,reduceCtorEq])|(refine⟨_,hL1,?_⟩;simp only [push_cast,↓zK,↓zJ,↓reduceIte,zA,zB,zC,zD,zE,zF,zG,zH,zI,reduceCtorEq])|(refine⟨_,hL2,?_⟩;simp only [push_cast,↓zK,↓zJ,↓reduceIte,zA,zB,zC,zD,zE,zF,zG,zH,zI,reduceCtorEq])|apply And.intro|(intro hg;(try simp only [push_cast]at hg)))
  all_goals try exact gA
  all_goals first|(refine hK _ ?_;clear hK K)|(simp only [push_cast];done)
  refine zX ?_
  (try simp only [zR,zS])
  refine⟨Or.inl rfl,?_⟩
  simp only [zd,push_cast,↓zK,↓zJ,↓reduceIte,zA,zB,zC,zD,zE,zF,zG,zH,zI,reduceCtorEq]
  all_goals first|rfl|(simp;done)|skip
set_option maxRecDepth 20000 in
set_option maxHeartbeats 4000000 in
theorem zDV (g:Pa)(hg:g.Ln 1048576)(hok:qk g=true):Fn Try.prog tyT 62 [.agg (dPa g)] [.c (DI (QF g))]:=by
 obtain⟨hao,hpl,hpr⟩:=xg hok
 have hal:=yv hao
 have hAl:=zFD g.a hal.2.1
 have hil:=XE g.a.owner.length
 have hWi:=zGb g hg hok (wv g.a.owner.length) (by omega) (fun j hj=>by rw [zHk (by omega)];omega) (qc g.a.owner.length) (by rw [hil];exact zHl _) (zFp hok) ⟨0,by omega,QP (by omega)⟩
 have hev:=vx (wiG g (qc g.a.owner.length) 0) g.a.owner.length
 have hodl:=vx (wiG g (qc g.a.owner.length) 1) g.a.owner.length
 have hogi:=fun(i:Nat) h=>Yn (l:=wiG g (qc g.a.owner.length) 1) (k:=g.a.owner.length) (i:=i) h
 have hfin:=zKG g
 generalize yb (wiG g (qc g.a.owner.length) 0) g.a.owner.length=evs at hWi hev
 generalize yb (wiG g (qc g.a.owner.length) 1) g.a.owner.length=ods at hWi hodl hogi hfin
 unfold dPa at hWi⊢
 unfold dAr at hAl
 refine zw (fn:=Try.f62) (ts:= [2]) Try.func62 (by kernel_rfl) rfl rfl (by rw [Try.ntmps62];exact Nat.le_of_ble_eq_true rfl) rfl (by simp only [szA,List.mem_cons,List.not_mem_nil,or_false,forall_eq_or_imp,forall_eq,VT.cells,szL];try decide) ?_
 rw [Try.ntmps62]
 simp only [push_cast,↓zK,↓zJ,↓reduceIte,zA,zB,zC,zD,zE,zF,zG,zH,zI,reduceCtorEq]
 refine zL fun K hK=> ?_
 refine zM zO zN [] rfl ?_
 simp only [push_cast,↓zK,↓zJ,↓reduceIte,zA,zB,zC,zD,zE,zF,zG,zH,zI,reduceCtorEq]
 repeat' apply And.intro
 all_goals try exact gB
 all_goals first|(refine hK _ ?_;clear hK K)|(simp only [push_cast];done)
 refine zL fun K hK=> ?_
 refine zM zO zN [] rfl ?_
 simp only [push_cast,↓zK,↓zJ,↓reduceIte,zA,zB,zC,zD,zE,zF,zG,zH,zI,reduceCtorEq]
 repeat' apply And.intro
 all_goals try exact gB
 all_goals first|(refine hK _ ?_;clear hK K)|(simp only [push_cast];done)
 refine zL fun K hK=> ?_
 refine xN false zO zN qb ?_ rfl ?_
 ·kernel_rfl
 intro E hE
 all_goals refine vz 4 (by decide) fun K9 hK9=> ?_
 all_goals simp only [push_cast,↓zK,↓zJ,↓reduceIte,zA,zB,zC,zD,zE,zF,zG,zH,zI,reduceCtorEq]
 all_goals repeat'(first|(apply zP<;>(intro hg;(try simp only [push_cast]at hg)))|(refine⟨_,hAl,?_⟩;simp only [push_cast,↓zK,↓zJ,↓reduceIte,zA,zB,zC,zD,zE,zF,zG,zH,zI,reduceCtorEq])|apply And.intro|(intro hg;(try simp only [push_cast]at hg)))
 all_goals try exact gA
 all_goals first|(refine hK9 _ _ ?_;clear hK9 K9)|(simp only [push_cast];done)
 all_goals refine vz 1 (by decide) fun K9 hK9=> ?_
 all_goals simp only [push_cast,↓zK,↓zJ,↓reduceIte,zA,zB,zC,zD,zE,zF,zG,zH,zI,reduceCtorEq]
 all_goals repeat'(first|(apply zP<;>(intro hg;(try simp only [push_cast]at hg)))|(refine⟨_,hWi,?_⟩;simp only [push_cast,↓zK,↓zJ,↓reduceIte,zA,zB,zC,zD,zE,zF,zG,zH,zI,reduceCtorEq])|apply And.intro|(intro hg;(try simp only [push_cast]at hg)))
 all_goals try exact gA
 all_goals first|(refine hK9 _ _ ?_;clear hK9 K9)|(simp only [push_cast];done)
 all_goals simp only [push_cast,↓zK,↓zJ,↓reduceIte,zA,zB,zC,zD,zE,zF,zG,zH,zI,reduceCtorEq]
 all_goals repeat'(first|(apply zP<;>(intro hg;(try simp only [push_cast]at hg)))|(refine⟨_,hAl,?_⟩;simp only [push_cast,↓zK,↓zJ,↓reduceIte,zA,zB,zC,zD,zE,zF,zG,zH,zI,reduceCtorEq])|(refine⟨_,hWi,?_⟩;simp only [push_cast,↓zK,↓zJ,↓reduceIte,zA,zB,zC,zD,zE,zF,zG,zH,zI,reduceCtorEq])|apply And.intro|(intro hg;(try simp only [push_cast]at hg)))
 all_goals first|exact gA|(refine hE _ _ ?_ ?_;kernel_rfl)|skip
 all_goals clear hE E
 all_goals first|(refine hK _ ?_;clear hK K)|(simp only [push_cast];done)
 refine zL fun K1 hK1=> ?_
 refine zL fun K hK=> ?_
 refine zM zO zN [] rfl ?_
 simp only [push_cast,↓zK,↓zJ,↓reduceIte,zA,zB,zC,zD,zE,zF,zG,zH,zI,reduceCtorEq]
 repeat' apply And.intro
 all_goals try exact gB
 all_goals first|(refine hK _ ?_;clear hK K)|(simp only [push_cast];done)
 refine zW ?_
 refine zi [7,22,23,24,25,26,27,28,29] [48] (fun(k:Nat)=> [(22, .int .i64 k),(3, .sl 48 [] 0 g.prio.length 2)]) (fun k=> []) (fun k=> [(48,⟨.ex,2,dI (VQ g.a.owner.length ods k),none⟩)]) (fun k=>k≤ods.length) (fun k=>ods.length - k) 0 ?_ (by omega) ?_
 ·
  rw [zJX]
  (try rw [hpl])
  refine zY rfl ?_ ?_ ?_<;>simp only [zf,ze,push_cast,↓zK,↓zJ,↓reduceIte,zA,zB,zC,zD,zE,zF,zG,zH,zI,reduceCtorEq]
 ·rintro k hk KL0 hL0
  have hml:=va g.a.owner.length ods k
  simp only [push_cast,↓zK,↓zJ,↓reduceIte,zA,zB,zC,zD,zE,zF,zG,zH,zI,reduceCtorEq]
  refine zL fun K hK=> ?_
  refine zM zO zN [] rfl ?_
  simp only [push_cast,↓zK,↓zJ,↓reduceIte,zA,zB,zC,zD,zE,zF,zG,zH,zI,reduceCtorEq]
  repeat' apply And.intro
  all_goals try exact gB
  all_goals first|(refine hK _ ?_;clear hK K)|(simp only [push_cast];done)
  refine zL fun K2 hK2=> ?_
  refine zU rfl (fun hc=> ?_) (fun hc=> ?_)<;>(try simp only [push_cast]at hc)
  ·
   refine zV ?_
   (try simp only [zR,zS,reduceIte,zF]);refine hK2 _ ?_
   refine zL fun K3 hK3=> ?_
   refine zW ?_
   have ho:=hogi k (by omega)
   have hst:=zFt (n:=g.a.owner.length) (xs:=ods) (k:=k) (by omega) (by omega)
   refine zL fun K hK=> ?_
   refine zM zO zN [] rfl ?_
   simp only [push_cast,↓zK,↓zJ,↓reduceIte,zA,zB,zC,zD,zE,zF,zG,zH,zI,reduceCtorEq]
   repeat' apply And.intro
   all_goals try exact gB
   all_goals first|(refine hK _ ?_;clear hK K)|(simp only [push_cast];done)
   refine zM zO zN [] rfl ?_
   simp only [push_cast,↓zK,↓zJ,↓reduceIte,zA,zB,zC,zD,zE,zF,zG,zH,zI,reduceCtorEq]
   repeat' apply And.intro
   all_goals try exact gB
   (try simp only [zR,zS,reduceIte,zF]);refine hK3 _ ?_
   refine zM zO zN [] rfl ?_
   simp only [push_cast,↓zK,↓zJ,↓reduceIte,zA,zB,zC,zD,zE,zF,zG,zH,zI,reduceCtorEq]
   repeat' apply And.intro
   all_goals try exact gB
   refine hL0 _ ⟨k+1,by omega,by omega,?_⟩
   (try rw [hst])
   refine zY rfl ?_ ?_ ?_<;>simp only [zf,ze,push_cast,↓zK,↓zJ,↓reduceIte,zA,zB,zC,zD,zE,zF,zG,zH,zI,reduceCtorEq]
   all_goals first|rfl|(rw [hst];done)|skip
  ·
   refine zk ?_
   have hkk:k=ods.length:=by omega
   subst hkk
   (try simp only [zR,zS,reduceIte,zF]);refine hK1 _ ?_
   refine zL fun K hK=> ?_
   refine zM zO zN [] rfl ?_
   simp only [push_cast,↓zK,↓zJ,↓reduceIte,zA,zB,zC,zD,zE,zF,zG,zH,zI,reduceCtorEq]
   repeat' apply And.intro
   all_goals try exact gB
   all_goals first|(refine hK _ ?_;clear hK K)|(simp only [push_cast];done)
   refine zX ?_
   (try simp only [zR,zS])
   refine⟨Or.inl rfl,?_⟩
   simp only [zd,push_cast,↓zK,↓zJ,↓reduceIte,zA,zB,zC,zD,zE,zF,zG,zH,zI,reduceCtorEq]
   (try rw [hfin])
   all_goals first|rfl|(rw [hfin];done)|exact⟨rfl,by rw [hpl,XK]⟩|(simp [XK,hpl];done)|skip
end Go.Proofs.Ythepmdkpbjfdcaa
