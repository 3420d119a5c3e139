/- The program's solver; the walk of its recursion -/
import Derived.Test.YtcleaokoimhedaaGreatB22zmo
import Derived.Test.YtcleaokoimhedaaGreatB17zmo
namespace Go.Proofs.YtcleaokoimhedaaGreat
open Nat renaming reduceMod → zA, reduceMul → zB, reduceDiv → zC, reduceAdd → zD, reduceSub → zE, reduceEqDiff → zF, reduceBEq → zG, reduceLT → zH, reduceLeDiff → zI
open Go.RowKit
set_option linter.unusedVariables false
set_option linter.unusedSimpArgs false
section
variable {x:L7} {n:Nat}
theorem zIA (hx:x.Ok n){inn now goal rest:List Bool}{top who:Int}(hi:inn.length=n)(hnl:now.length=n)(hT:yc x inn n=top)(ht:0≤top)(hg:yg n (xT x now top)=goal)(hr:yY now (yn x n now who goal)=rest)(h:now=inn∨yz now n<yz inn n):yz rest n<yz inn n:=by
 subst hr
 rcases h with h|h
 ·subst h
  rcases Kw hx (inn:=now) n (Nat.le_refl _)with e|⟨v,hv,h1,h2⟩
  ·omega
  ·refine QT hnl hv h1 ?_
   rw [←hg,yX hv]
   unfold xT
   rw [h1,h2,hT]
   simp
 ·have :=Ux (a:=yY now (yn x n now who goal)) (b:=now) n fun v hv hb=>by
   rw [qy (by omega),Bool.and_eq_true]at hb;exact hb.1
  omega
theorem zLW {now:List Bool}{top:Int}{v:Nat}(hv:v<n)(h:gb (yg n (xT x now top)) v=true):gb now v=true:=by
 rw [yX hv]at h
 unfold xT at h
 rw [Bool.and_eq_true]at h
 exact h.1
theorem zDP {now goal rest:List Bool}{who:Int}(hnl:now.length=n)(hr:yY now (yn x n now who goal)=rest){v:Nat}(hv:v<n)(h:gb (yg n (yN rest (yV x n (n+1) rest) who)) v=true):gb now v=true:=by
 rw [yX hv]at h
 unfold yN at h
 rw [Bool.and_eq_true,←hr,qy (by omega),Bool.and_eq_true]at h
 exact h.1.1
theorem zNZ {rest:List Bool}{who ww:Int}(hl:rest.length=n)(h:ww=who):yY rest (wiM x n rest ww)=yg n (yN rest (yV x n (n+1) rest) who):=by
 subst h
 refine wa (by rw [xx,qz];exact hl) fun v hv=> ?_
 rw [xx,hl]at hv
 rw [yX hv,zHo hl hv]
theorem zNa {rest:List Bool}{who ww:Int}(hw:who=0∨who=1)(hw2:ww=0∨ww=1)(h: ¬ww=who):wiM x n rest ww=yg n (yN rest (yV x n (n+1) rest) who):=by
 have e:ww=1 - who:=by omega
 subst e
 refine wa (by rw [Wm,qz]) fun v hv=> ?_
 rw [Wm]at hv
 rw [yX hv,zGT hw hv]
theorem zJg {rest:List Bool}{who:Int}(hl:rest.length=n)(h: ¬∃v,v<n∧gb rest v=true):(∀v,v<rest.length→gb rest v=false)∧yY rest rest=yg n (yN rest (yV x n (n+1) rest) who)∧rest=yg n (yN rest (yV x n (n+1) rest) who)∧anT (yg n (yN rest (yV x n (n+1) rest) who))=false:=by
 have h0: ∀v,v<n→gb rest v=false:=fun v hv=>by
  cases hb:gb rest v
  ·rfl
  ·exact absurd ⟨v,hv,hb⟩ h
 have hz: ∀v,v<n→gb (yg n (yN rest (yV x n (n+1) rest) who)) v=false:=fun v hv=>by
  rw [yX hv];unfold yN;rw [h0 v hv];rfl
 refine⟨fun v hv=>h0 v (by omega),wa (by rw [xx,qz];exact hl) fun v hv=> ?_,wa (by rw [qz];exact hl) fun v hv=> ?_,zMh fun v hv=>hz v (by rw [qz]at hv;exact hv)⟩
 ·rw [xx,hl]at hv
  rw [hz v hv,qy (by omega),h0 v hv];rfl
 ·rw [hl]at hv
  rw [hz v hv,h0 v hv]
end
theorem ok_Ln {x:L7}{n:Nat}(hx:x.Ok n):(⟨⟨x.owner,x.next⟩,x.prio⟩:Pa).Ln 1048576:=by
 have h1:=hx.hn
 have h2:=hx.ho
 have h3:=hx.hp
 have h4:=hx.hx
 refine⟨⟨?_,?_,fun r hr=> ?_⟩,?_⟩
 ·show x.owner.length≤_;omega
 ·show x.next.length≤_;omega
 ·have hr:r∈x.next:=hr
  obtain⟨v,hv,e⟩:=List.mem_iff_getElem.1 hr
  have h5:=hx.deg v (by omega)
  unfold gl at h5
  rw [List.getD_eq_getElem?_getD,List.getElem?_eq_getElem hv,e]at h5
  simp only [Option.getD_some]at h5
  omega
 ·show x.prio.length≤_;omega
theorem zNo (x:L7){n:Nat}{inn:List Bool}(hi:inn.length=n)(hx:x.Ok n)(hed: ∀(v:Nat) (u:Int),v<n→edB x v u=true)(who:Int)(goal:List Bool)(hg9:goal.length=n)(hsub: ∀v,v<n→gb goal v=true→gb inn v=true):FnB Tryz.prog tyT 102 (dSv x) [.c (.int .i64 who), .c (.lst 4 (dB inn)), .c (.lst 4 (dB goal))] (dSv x) [.c (.lst 4 (dB (yn x n inn who goal)))]:=by
 subst hi
 exact zL5 x inn hx hed who goal hg9 fun _=>hsub
set_option maxRecDepth 20000 in
set_option maxHeartbeats 8000000 in
theorem zKM (x:L7)(inn:List Bool)(hx:x.Ok inn.length)(hed: ∀(v:Nat) (u:Int),v<inn.length→edB x v u=true)(hlv:vX (pgL x) (inD inn.length inn))(hne: ∃v,v<inn.length∧gb inn v=true)(top who:Int)(hT:yc x inn inn.length=top)(hW:Int.tmod top 2=who)(hIH: ∀r:List Bool,r.length=inn.length→yz r inn.length<yz inn inn.length→vX (pgL x) (inD inn.length r)→(∃v,v<inn.length∧gb r v=true)→FnB Tryz.prog tyT 83 (dSv x) [.c (.lst 4 (dB r))] (dSv x) [.c (.lst 4 (dB (wiM x inn.length r (Int.tmod (yc x r inn.length) 2)))), .c (.int .i64 (Int.tmod (yc x r inn.length) 2))]):FnB Tryz.prog tyT 83 (dSv x) [.c (.lst 4 (dB inn))] (dSv x) [.c (.lst 4 (dB (wiM x inn.length inn who))), .c (.int .i64 who)]:=by
 have hn1:=hx.hn
 have hn2:=hx.ho
 have hn3:=hx.hp
 have hn4:=hx.hx
 have hLi:=XY inn (by omega)
 have hg:(⟨⟨x.owner,x.next⟩,x.prio⟩:Pa).Ln 1048576:=ok_Ln hx
 have hil:=xp inn inn.length
 have hip:=zHc hne
 have hTp:=zKI ⟨⟨x.owner,x.next⟩,x.prio⟩ hg (yT inn inn.length) (by omega) (fun j hj=>by have h9:=Yu hj;show _∧_<(x.prio.length:Int);omega)
 rw [zMQ hx,hT]at hTp
 have htop:0≤top∧top≤40:=by
  obtain⟨v9,hv9,hb9⟩:=hne
  have h1:=XB (x:=x) (inn:=inn) inn.length v9 hv9 hb9
  have h2:=hx.pr v9 hv9
  have h3:=jo hx inn inn.length (Nat.le_refl _)
  omega
 have hw2:who=0∨who=1:=by rw [←hW,Va htop.1];omega
 have hmax: ∀v,inD inn.length inn v→gi x.prio v≤top:=fun v hv=>by rw [←hT];exact XB inn.length v hv.1 hv.2
 have hpar:top%2=who:=by rw [←hW,Va htop.1]
 have hPu:=fun(now:List Bool) (w9:Int) (gl9:List Bool) (h1:now.length=inn.length) (h2:gl9.length=inn.length) h3=>zNo x h1 hx hed w9 gl9 h2 h3
 have hTk: ∀_:Unit,∀l:List Bool,l.length=inn.length→l.take inn.length=l:=fun _ l h=>List.take_of_length_le (by omega)
 replace hIH: ∀_:Unit,∀r:List Bool,_:=fun _=>hIH
 clear hne
 unfold dPa at hTp
 unfold dSv at hPu hIH⊢
 refine zGn (fn:=Tryz.f83) (rs:= [.tmp 4, .tmp 5]) zO zN Tryz.func83 (by kernel_rfl) rfl rfl (by rw [Tryz.ntmps83];exact Nat.le_of_ble_eq_true rfl) rfl (by simp only [szA,List.mem_cons,List.not_mem_nil,or_false,forall_eq_or_imp,forall_eq,false_implies,implies_true,VT.cells,szL];try decide) (Nat.le_of_ble_eq_true rfl) (by simp only [szL];decide) (Nat.le_of_ble_eq_true rfl) rfl ?_
 rw [Tryz.ntmps83]
 push_cast
 refine θA ?_
 refine θL fun K hK=> ?_
 refine θD 2 ?_
 refine θE hK ?_
 refine zL fun K1 hK1=> ?_
 refine θA ?_
 refine zT rfl (fun hc=> ?_) (fun hc=> ?_)
 skip
 ·exfalso;first|(cases hc;done)|(simp only [push_cast]at hc;done)|(simp only [push_cast]at hc;omega)|omega
 refine zU (hK1 _ ?_)
 refine θL fun K hK=> ?_
 refine θD 6 ?_
 refine θE hK ?_
 refine θA ?_
 (try rw [hW])
 refine θA ?_
 refine zV ?_
 refine zg [4,5,9,10,11,12,13,14,15,33,34,35,36,37,38,39,40,41,42,43,44,45,46,47,48,49,50,51,52,53,54,55,56,57,58,59,60,61,62,63,64,65,66,67,68,69,70,71,72,73,74,75,76,77,78,79,80,81,82,83,84,85,86,87,88,89,90,91,92,93,94,95,96,97,98] [144] (fun(now:List Bool)=> [(9, .sl 144 [] 0 inn.length 4)]) (fun now=> []) (fun now=> [(144,⟨.ex,4,dB now,none⟩)]) (fun now=>WnI x inn.length inn who now∧(now=inn∨yz now inn.length<yz inn inn.length)) (fun now=>yz now inn.length) inn ?_ ⟨WnI.start rfl hlv, .inl rfl⟩ ?_
 ·
  exact θX
 ·rintro now ⟨hwn,hdn⟩ KL0 hL0
  push_cast
  refine zV ?_
  have hnl:=hwn.len
  refine θA ?_
  refine zL fun K2 hK2=> ?_
  refine θA ?_
  refine zV ?_
  refine zg [11,38,39,40,41,42,43,44,45,46,47,48,49,50,51,52,53,54,55,56,57,58,59,60] [160] (fun(v:Nat)=> [(38, .int .i64 v),(10, .sl 160 [] 0 inn.length 4)]) (fun v=> []) (fun v=> [(160,⟨.ex,4,dB (mkB inn.length (xT x now top) v),none⟩)]) (fun v=>v≤inn.length) (fun v=>inn.length - v) 0 ?_ (by omega) ?_
  ·
   rw [QA]
   exact θX
  ·rintro v hv KL1 hL1
   have hml:=wb (f:=xT x now top) hv
   push_cast
   refine θA ?_
   refine zL fun K3 hK3=> ?_
   refine θU (fun hc=> ?_) fun hc=> ?_
   ·
    refine zU (hK3 _ ?_)
    refine zL fun K4 hK4=> ?_
    refine zV ?_
    refine θA ?_
    refine zf false zO zN ?_ rfl ?_
    ·kernel_rfl
    all_goals push_cast
    all_goals repeat'(first|(apply zP<;>(intro hg;push_cast at hg))|apply And.intro|(intro hg;push_cast at hg))
    all_goals try exact gA
    all_goals(
      refine hK4 _ ?_
      refine θB ?_
      refine hL1 _ ⟨v+1,by omega,by omega,?_⟩
      first|rw [zC8 (k:=v) (n:=inn.length) (inn:=now) (by omega) (by with_reducible assumption)]|rw [zFF (k:=v) (n:=inn.length) (inn:=now) (by omega) (by with_reducible assumption)]
      refine zY rfl ?_ ?_ ?_<;>push_cast [zb,za])
   ·
    refine zh ?_
    have hvv:v=inn.length:=by omega
    rw [hvv,QN]
    refine hK2 _ ?_
    obtain⟨goal,hgd⟩: ∃g,yg inn.length (xT x now top)=g:=⟨_,rfl⟩
    rw [hgd]
    have hgl:goal.length=inn.length:=by rw [←hgd];exact qz _ _
    obtain⟨att,hat⟩: ∃a,yn x inn.length now who goal=a:=⟨_,rfl⟩
    obtain⟨rest,hrs⟩: ∃r,yY now (yn x inn.length now who goal)=r:=⟨_,rfl⟩
    have hP1:=hPu now who goal hnl hgl (fun v hv hb=>by rw [←hgd]at hb;exact zLW hv hb)
    have hrr:=hwn.rest (goal:=goal) hx
    rw [hrs]at hrr
    have hlt:=zIA hx rfl hnl hT htop.1 hgd hrs hdn
    have hal:=wu x inn.length now who goal
    have hrs2:=hrs
    rw [hat]at hP1 hal hrs2
    have hW1:=ZY now att (by omega) (by omega)
    rw [hrs2]at hW1
    rw [←hTk () now hnl,←hTk () goal hgl]at hP1
    rw [←hTk () now hnl]at hW1
    obtain⟨lost,hld⟩: ∃l,yg inn.length (yN rest (yV x inn.length (inn.length+1) rest) who)=l:=⟨_,rfl⟩
    have hlol:lost.length=inn.length:=by rw [←hld];exact qz _ _
    have hlv2: ∀v,v<inn.length→gb lost v=yN rest (yV x inn.length (inn.length+1) rest) who v:=fun v hv=>by rw [←hld];exact yX hv
    refine zL fun K hK=> ?_
    refine zf false zO zN ?_ rfl ?_
    ·kernel_rfl
    all_goals refine yD 6 fun K9 hK9=> ?_
    all_goals push_cast
    all_goals repeat'(first|(apply zP<;>(intro hg;push_cast at hg))|(refine⟨_,_,hP1,?_⟩;push_cast)|apply And.intro|(intro hg;push_cast at hg))
    all_goals try exact gA
    refine hK9 _ ?_;clear hK9 K9
    all_goals refine yD 1 fun K9 hK9=> ?_
    all_goals push_cast
    all_goals repeat'(first|(apply zP<;>(intro hg;push_cast at hg))|(refine⟨_,hW1,?_⟩;push_cast)|apply And.intro|(intro hg;push_cast at hg))
    all_goals try exact gA
    refine hK9 _ ?_;clear hK9 K9
    all_goals push_cast
    all_goals repeat'(first|(apply zP<;>(intro hg;push_cast at hg))|(refine⟨_,_,hP1,?_⟩;push_cast)|(refine⟨_,hW1,?_⟩;push_cast)|apply And.intro|(intro hg;push_cast at hg))
    all_goals try exact gA
    refine hK _ ?_;clear hK K
    by_cases hre: ∃v,v<inn.length∧gb rest v=true
    ·
     refine qj 4 12 (Nat.le_of_ble_eq_true rfl) ?_
     push_cast
     have hrl:=hrr.1
     have hI:=hIH () rest hrl hlt hrr.2 hre
     obtain⟨ww,hww⟩: ∃w,Int.tmod (yc x rest inn.length) 2=w:=⟨_,rfl⟩
     have hww2:ww=0∨ww=1:=by
      have h3:=jo hx rest inn.length (Nat.le_refl _)
      obtain⟨v9,hv9,hb9⟩:=hre
      have h1:=XB (x:=x) (inn:=rest) inn.length v9 hv9 hb9
      have h2:=hx.pr v9 hv9
      rw [←hww,Va (by omega)]
      omega
     rw [hww]at hI
     have hlo1:=fun h:ww=who=>(zNZ (x:=x) hrl h).trans hld
     have hlo2:=fun h: ¬ww=who=>(zNa (x:=x) (rest:=rest) hw2 hww2 h).trans hld
     have hwl:=Wm x inn.length rest ww
     have hWo:=ZY rest (wiM x inn.length rest ww) (by omega) (by omega)
     refine zL fun K hK=> ?_
     refine zf false zO zN ?_ rfl ?_
     ·kernel_rfl
     all_goals refine yD 3 fun K9 hK9=> ?_
     all_goals push_cast
     all_goals repeat'(first|(apply zP<;>(intro hg;push_cast at hg))|(refine⟨_,_,hI,?_⟩;push_cast)|apply And.intro|(intro hg;push_cast at hg))
     all_goals try exact gA
     refine hK9 _ ?_;clear hK9 K9
     all_goals push_cast
     all_goals repeat'(first|(apply zP<;>(intro hg;push_cast at hg))|(refine⟨_,_,hI,?_⟩;push_cast)|apply And.intro|(intro hg;push_cast at hg))
     all_goals try exact gA
     refine hK _ ?_;clear hK K
     refine qj 4 13 (Nat.le_of_ble_eq_true rfl) ?_
     push_cast
     refine zL fun K hK=> ?_
     refine zM zO zN [240] rfl ?_
     push_cast
     repeat' apply And.intro
     all_goals try exact gB
     refine hK _ ?_;clear hK K
     refine zL fun K5 hK5=> ?_
     refine θA ?_
     refine θU (fun hc=> ?_) fun hc=> ?_
     ·
      refine zM zO zN [] rfl ?_
      all_goals refine zm 3 fun K9 hK9=> ?_
      all_goals push_cast
      all_goals repeat'(first|(apply zP<;>(intro hg;push_cast at hg))|(refine⟨_,hWo,?_⟩;push_cast)|apply And.intro|(intro hg;push_cast at hg))
      all_goals try exact gA
      refine hK9 _ ?_;clear hK9 K9
      all_goals push_cast
      all_goals repeat'(first|(apply zP<;>(intro hg;push_cast at hg))|(refine⟨_,hWo,?_⟩;push_cast)|apply And.intro|(intro hg;push_cast at hg))
      all_goals try exact gA
      refine hK5 _ ?_
      refine zL fun K6 hK6=> ?_
      first|rw [hlo1 (by first|assumption|exact trivial)]|rw [hlo2 (by first|assumption|exact trivial)]
      have hCo:=vz lost (by omega)
      refine θL fun K hK=> ?_
      refine θD 2 ?_
      refine θE hK ?_
      refine θU (fun hc=> ?_) fun hc=> ?_
      ·
       refine θA ?_
       refine zZ ⟨Or.inl rfl,?_⟩
       push_cast [Wu,zd,wB,zo,yA]
       have hfin:=hwn.all hx rfl hlv htop.1 hpar hmax hgd.symm hrs.symm hlv2 (fun v hv=>Zu (l:=lost) (by first|assumption|(simpa using hc)) v (by omega))
       rw [←hfin]
       all_goals first|rfl|exact⟨⟨rfl,rfl⟩,rfl⟩|(simp [hnl];done)|skip
      ·
       refine zU (hK6 _ ?_)
       have hsm:anT lost=true:=by simpa using hc
       obtain⟨att2,ha2⟩: ∃a,yn x inn.length now (1 - who) lost=a:=⟨_,rfl⟩
       have hP2:=hPu now (1 - who) lost hnl hlol (fun v hv hb=>by rw [←hld]at hb;exact zDP hnl hrs hv hb)
       have hnx:=hwn.next hx hw2 hrs.symm hlv2
       have hls:=hwn.lt hrs.symm hlv2 (by obtain⟨v9,h9,h8⟩:=vS.1 hsm;exact⟨v9,by omega,h8⟩)
       have hal2:=wu x inn.length now (1 - who) lost
       rw [ha2]at hP2 hnx hls hal2
       obtain⟨now2,hn2d⟩: ∃a,yY now att2=a:=⟨_,rfl⟩
       have hW3:=ZY now att2 (by omega) (by omega)
       rw [hn2d]at hW3 hnx hls
       rw [←hTk () now hnl]at hP2 hW3
       have hnl2:=hnx.len
       have hCn:=vz now2 (by omega)
       refine zL fun K hK=> ?_
       refine zf false zO zN ?_ rfl ?_
       ·kernel_rfl
       all_goals refine yD 7 fun K9 hK9=> ?_
       all_goals push_cast
       all_goals repeat'(first|(apply zP<;>(intro hg;push_cast at hg))|(refine⟨_,_,hP2,?_⟩;push_cast)|apply And.intro|(intro hg;push_cast at hg))
       all_goals try exact gA
       refine hK9 _ ?_;clear hK9 K9
       all_goals refine yD 1 fun K9 hK9=> ?_
       all_goals push_cast
       all_goals repeat'(first|(apply zP<;>(intro hg;push_cast at hg))|(refine⟨_,hW3,?_⟩;push_cast)|apply And.intro|(intro hg;push_cast at hg))
       all_goals try exact gA
       refine hK9 _ ?_;clear hK9 K9
       all_goals push_cast
       all_goals repeat'(first|(apply zP<;>(intro hg;push_cast at hg))|(refine⟨_,_,hP2,?_⟩;push_cast)|(refine⟨_,hW3,?_⟩;push_cast)|apply And.intro|(intro hg;push_cast at hg))
       all_goals try exact gA
       refine hK _ ?_;clear hK K
       refine qj 4 9 (Nat.le_of_ble_eq_true rfl) ?_
       push_cast
       refine θL fun K hK=> ?_
       refine θD 2 ?_
       refine θE hK ?_
       refine θU (fun hc=> ?_) fun hc=> ?_
       ·
        refine θA ?_
        refine zZ ⟨Or.inl rfl,?_⟩
        push_cast [Wu,zd,wB,zo,yA]
        have hfin:=WnI.none hx rfl hlv hw2 hnx (fun v hv=>Zu (l:=now2) (by first|assumption|(simpa using hc)) v (by omega))
        rw [←hfin]
        all_goals first|rfl|(simp [hnl2];done)|skip
       ·
        refine zU ?_
        refine hL0 _ ⟨now2,⟨hnx, .inr (by
          rcases hdn with h9|h9
          ·have h8:yz now inn.length=yz inn inn.length:=congrArg (fun l=>yz l inn.length) h9
           omega
          ·omega)⟩,hls,?_⟩
        refine zY rfl ?_ ?_ ?_<;>push_cast [zb,za]
        all_goals first|rfl|(rw [hnl2];done)|skip
     ·
      refine zU (hK5 _ ?_)
      refine zL fun K6 hK6=> ?_
      first|rw [hlo1 (by first|assumption|exact trivial)]|rw [hlo2 (by first|assumption|exact trivial)]
      have hCo:=vz lost (by omega)
      refine θL fun K hK=> ?_
      refine θD 2 ?_
      refine θE hK ?_
      refine θU (fun hc=> ?_) fun hc=> ?_
      ·
       refine θA ?_
       refine zZ ⟨Or.inl rfl,?_⟩
       push_cast [Wu,zd,wB,zo,yA]
       have hfin:=hwn.all hx rfl hlv htop.1 hpar hmax hgd.symm hrs.symm hlv2 (fun v hv=>Zu (l:=lost) (by first|assumption|(simpa using hc)) v (by omega))
       rw [←hfin]
       all_goals first|rfl|exact⟨⟨rfl,rfl⟩,rfl⟩|(simp [hnl];done)|skip
      ·
       refine zU (hK6 _ ?_)
       have hsm:anT lost=true:=by simpa using hc
       obtain⟨att2,ha2⟩: ∃a,yn x inn.length now (1 - who) lost=a:=⟨_,rfl⟩
       have hP2:=hPu now (1 - who) lost hnl hlol (fun v hv hb=>by rw [←hld]at hb;exact zDP hnl hrs hv hb)
       have hnx:=hwn.next hx hw2 hrs.symm hlv2
       have hls:=hwn.lt hrs.symm hlv2 (by obtain⟨v9,h9,h8⟩:=vS.1 hsm;exact⟨v9,by omega,h8⟩)
       have hal2:=wu x inn.length now (1 - who) lost
       rw [ha2]at hP2 hnx hls hal2
       obtain⟨now2,hn2d⟩: ∃a,yY now att2=a:=⟨_,rfl⟩
       have hW3:=ZY now att2 (by omega) (by omega)
       rw [hn2d]at hW3 hnx hls
       rw [←hTk () now hnl]at hP2 hW3
       have hnl2:=hnx.len
       have hCn:=vz now2 (by omega)
       refine zL fun K hK=> ?_
       refine zf false zO zN ?_ rfl ?_
       ·kernel_rfl
       all_goals refine yD 7 fun K9 hK9=> ?_
       all_goals push_cast
       all_goals repeat'(first|(apply zP<;>(intro hg;push_cast at hg))|(refine⟨_,_,hP2,?_⟩;push_cast)|apply And.intro|(intro hg;push_cast at hg))
       all_goals try exact gA
       refine hK9 _ ?_;clear hK9 K9
       all_goals refine yD 1 fun K9 hK9=> ?_
       all_goals push_cast
       all_goals repeat'(first|(apply zP<;>(intro hg;push_cast at hg))|(refine⟨_,hW3,?_⟩;push_cast)|apply And.intro|(intro hg;push_cast at hg))
       all_goals try exact gA
       refine hK9 _ ?_;clear hK9 K9
       all_goals push_cast
       all_goals repeat'(first|(apply zP<;>(intro hg;push_cast at hg))|(refine⟨_,_,hP2,?_⟩;push_cast)|(refine⟨_,hW3,?_⟩;push_cast)|apply And.intro|(intro hg;push_cast at hg))
       all_goals try exact gA
       refine hK _ ?_;clear hK K
       refine qj 4 9 (Nat.le_of_ble_eq_true rfl) ?_
       push_cast
       refine θL fun K hK=> ?_
       refine θD 2 ?_
       refine θE hK ?_
       refine θU (fun hc=> ?_) fun hc=> ?_
       ·
        refine θA ?_
        refine zZ ⟨Or.inl rfl,?_⟩
        push_cast [Wu,zd,wB,zo,yA]
        have hfin:=WnI.none hx rfl hlv hw2 hnx (fun v hv=>Zu (l:=now2) (by first|assumption|(simpa using hc)) v (by omega))
        rw [←hfin]
        all_goals first|rfl|(simp [hnl2];done)|skip
       ·
        refine zU ?_
        refine hL0 _ ⟨now2,⟨hnx, .inr (by
          rcases hdn with h9|h9
          ·have h8:yz now inn.length=yz inn inn.length:=congrArg (fun l=>yz l inn.length) h9
           omega
          ·omega)⟩,hls,?_⟩
        refine zY rfl ?_ ?_ ?_<;>push_cast [zb,za]
        all_goals first|rfl|(rw [hnl2];done)|skip
    ·
     refine qj 4 12 (Nat.le_of_ble_eq_true rfl) ?_
     push_cast
     have hrl:=hrr.1
     obtain⟨hno,hq1,hq2,hq3⟩:=zJg (x:=x) (who:=who) hrl hre
     rw [hld]at hq1 hq2 hq3
     have hlo1:=fun h:True=>hq1
     have hlo2:=fun h:True=>hq2
     have hAe:=zMU rest (by omega) hno
     have hWo:=ZY rest rest (by omega) rfl
     refine zL fun K hK=> ?_
     refine Qf (uZ Tryz.prog tyT) zCP (some 71) zO zN [208] rfl ?_
     all_goals push_cast
     repeat'(first|exact hAe|apply And.intro)
     all_goals first|exact True.intro|exact rfl|omega|skip
     refine hK _ ?_;clear hK K
     refine zL fun K hK=> ?_
     refine zM zO zN [240] rfl ?_
     push_cast
     repeat' apply And.intro
     all_goals try exact gB
     refine hK _ ?_;clear hK K
     refine zL fun K5 hK5=> ?_
     refine θA ?_
     refine θU (fun hc=> ?_) fun hc=> ?_
     ·
      refine zM zO zN [] rfl ?_
      all_goals refine zm 3 fun K9 hK9=> ?_
      all_goals push_cast
      all_goals repeat'(first|(apply zP<;>(intro hg;push_cast at hg))|(refine⟨_,hWo,?_⟩;push_cast)|apply And.intro|(intro hg;push_cast at hg))
      all_goals try exact gA
      refine hK9 _ ?_;clear hK9 K9
      all_goals push_cast
      all_goals repeat'(first|(apply zP<;>(intro hg;push_cast at hg))|(refine⟨_,hWo,?_⟩;push_cast)|apply And.intro|(intro hg;push_cast at hg))
      all_goals try exact gA
      refine hK5 _ ?_
      refine zL fun K6 hK6=> ?_
      first|rw [hlo1 (by first|assumption|exact trivial)]|rw [hlo2 (by first|assumption|exact trivial)]
      have hCo:=vz lost (by omega)
      refine θL fun K hK=> ?_
      refine θD 2 ?_
      refine θE hK ?_
      refine zT rfl (fun hc=> ?_) (fun hc=> ?_)
      rotate_left
      ·exfalso;(rw [hq3]at hc;exact absurd hc (by decide))
      refine θA ?_
      refine zZ ⟨Or.inl rfl,?_⟩
      push_cast [Wu,zd,wB,zo,yA]
      have hfin:=hwn.all hx rfl hlv htop.1 hpar hmax hgd.symm hrs.symm hlv2 (fun v hv=>Zu (l:=lost) (by first|assumption|(simpa using hc)) v (by omega))
      rw [←hfin]
      all_goals first|rfl|exact⟨⟨rfl,rfl⟩,rfl⟩|(simp [hnl];done)|skip
     ·
      refine zU (hK5 _ ?_)
      refine zL fun K6 hK6=> ?_
      first|rw [hlo1 (by first|assumption|exact trivial)]|rw [hlo2 (by first|assumption|exact trivial)]
      have hCo:=vz lost (by omega)
      refine θL fun K hK=> ?_
      refine θD 2 ?_
      refine θE hK ?_
      refine zT rfl (fun hc=> ?_) (fun hc=> ?_)
      rotate_left
      ·exfalso;(rw [hq3]at hc;exact absurd hc (by decide))
      refine θA ?_
      refine zZ ⟨Or.inl rfl,?_⟩
      push_cast [Wu,zd,wB,zo,yA]
      have hfin:=hwn.all hx rfl hlv htop.1 hpar hmax hgd.symm hrs.symm hlv2 (fun v hv=>Zu (l:=lost) (by first|assumption|(simpa using hc)) v (by omega))
      rw [←hfin]
      all_goals first|rfl|exact⟨⟨rfl,rfl⟩,rfl⟩|(simp [hnl];done)|skip
theorem zIV (x:L7): ∀(f:Nat) (inn:List Bool),x.Ok inn.length→(∀(v:Nat) (u:Int),v<inn.length→edB x v u=true)→yz inn inn.length<f→vX (pgL x) (inD inn.length inn)→(∃v,v<inn.length∧gb inn v=true)→
  FnB Tryz.prog tyT 83 (dSv x) [.c (.lst 4 (dB inn))] (dSv x) [.c (.lst 4 (dB (wiM x inn.length inn (Int.tmod (yc x inn inn.length) 2)))), .c (.int .i64 (Int.tmod (yc x inn inn.length) 2))]
 |0,inn,_,_,h,_,_=>absurd h (Nat.not_lt_zero _)
 |f+1,inn,hx,hed,hc,hl,hne=>zKM x inn hx hed hl hne _ _ rfl rfl fun r hr hlt hlv hre=>by
  have :=zIV x f r (by rw [hr];exact hx) (by rw [hr];exact hed) (by rw [hr];omega) (by rw [hr];exact hlv) (by rw [hr];exact hre)
  rw [hr]at this
  exact this
section
variable {g:Pa}
noncomputable def wiG (g:Pa)(M:List Bool)(who:Int):List Bool:=wiM (l7G g (noP g.a.owner.length)) g.a.owner.length M who
theorem zAg (g:Pa)(M:List Bool)(who:Int):(wiG g M who).length=g.a.owner.length:=Wm _ _ _ _
theorem zKK {M:List Bool}(hM:M.length=g.a.owner.length){who:Int}(hw:who=0∨who=1):yY M (wiG g M who)=wiG g M (1 - who):=by
 refine wa (by rw [xx,zAg];exact hM) fun v hv=> ?_
 rw [xx,hM]at hv
 rw [qy (by omega)]
 unfold wiG wiM
 rw [yX hv,yX hv]
 unfold wiB
 rcases hw with rfl|rfl<;>cases gb M v<;>cases gb (yV (l7G g (noP g.a.owner.length)) g.a.owner.length (g.a.owner.length+1) M) v<;>rfl
theorem zLF {n:Nat}(hn:g.a.owner.length=n)(v:Nat)(u:Int)(hv:v<n):edB (l7G g (noP g.a.owner.length)) v u=true:=zHF (by omega) u
def JR (n:Nat)(xs:List Int)(k:Nat):List Int:=(List.range n).map fun(v:Nat)=>if yI (xs.take k) (v:Int)=true then 1 else 0
theorem wP (n:Nat)(xs:List Int)(k:Nat):(JR n xs k).length=n:=by simp [JR]
theorem jW {n:Nat}{xs:List Int}{k v:Nat}(h:v<n):gi (JR n xs k) v=if yI (xs.take k) (v:Int)=true then 1 else 0:=by
 unfold gi JR
 rw [List.getD_eq_getElem?_getD,List.getElem?_map,List.getElem?_range h]
 rfl
theorem zAG {a b:List Int}(hl:a.length=b.length)(h: ∀v,v<a.length→gi a v=gi b v):a=b:=by
 refine List.ext_getElem? fun i=> ?_
 by_cases hi:i<a.length
 ·rw [qk hi,qk (by omega),h i hi]
 ·rw [List.getElem?_eq_none (by omega),List.getElem?_eq_none (by omega)]
theorem zNd (n:Nat)(xs:List Int):JR n xs 0=List.replicate n 0:=by
 refine zAG (by rw [wP];simp) fun v hv=> ?_
 rw [wP]at hv
 rw [jW hv,UB hv]
 rfl
theorem zJY {n:Nat}{xs:List Int}{k:Nat}(hk:k<xs.length)(h:0≤gi xs k∧gi xs k<n):(JR n xs k).set (gi xs k).toNat 1=JR n xs (k+1):=by
 refine zAG (by rw [List.length_set,wP,wP]) fun v hv=> ?_
 rw [List.length_set,wP]at hv
 rw [qb (by rw [wP];omega),jW (k:=k+1) hv,YF hk]
 split
 ·rename_i e
  rw [decide_eq_true (by omega),Bool.or_true,if_pos rfl]
 ·rename_i e
  rw [jW hv,decide_eq_false (by omega),Bool.or_false]
theorem zLa (n:Nat):mkS n (Zw n) n=qv n:=by
 refine wa (by rw [vd,QZ]) fun v hv=> ?_
 rw [vd]at hv
 rw [UM hv,QH hv,xt]
 exact⟨v,by rw [List.length_take,Qm];omega,by rw [ZT hv];unfold gi Zw;rw [List.getD_eq_getElem?_getD,List.getElem?_map,List.getElem?_range hv];rfl⟩
theorem zLZ {n v:Nat}(h:v<n):gi (Zw n) v=v:=by unfold gi Zw;rw [List.getD_eq_getElem?_getD,List.getElem?_map,List.getElem?_range h];rfl
theorem zOB (g:Pa):JR g.a.owner.length (yT (wiG g (qv g.a.owner.length) 1) g.a.owner.length) (yT (wiG g (qv g.a.owner.length) 1) g.a.owner.length).length=zj g:=by
 refine zAG (by rw [wP,qL]) fun v hv=> ?_
 rw [wP]at hv
 rw [jW hv,XC hv,List.take_length]
 have e:yI (yT (wiG g (qv g.a.owner.length) 1) g.a.owner.length) (v:Int)= !gb (Xl g) v:=by
  rw [Bool.eq_iff_iff,xe,vv]
  unfold wiG wiM Xl
  constructor
  ·rintro⟨u,hu,h1,h2⟩
   have :u=v:=by omega
   subst this
   rw [yX hu]at h1
   unfold wiB at h1
   rw [QH hu]at h1
   cases hb:gb (yV (l7G g (noP g.a.owner.length)) g.a.owner.length (g.a.owner.length+1) (qv g.a.owner.length)) u
   ·rfl
   ·rw [hb]at h1;cases h1
  ·intro h1
   refine⟨v,hv,?_,rfl⟩
   rw [yX hv]
   unfold wiB
   rw [QH hv]
   cases hb:gb (yV (l7G g (noP g.a.owner.length)) g.a.owner.length (g.a.owner.length+1) (qv g.a.owner.length)) v
   ·rfl
   ·rw [hb]at h1;cases h1
 rw [e]
 cases gb (Xl g) v<;>rfl
theorem zJR (h:yL g=true):vX (pgL (l7G g (noP g.a.owner.length))) (inD g.a.owner.length (qv g.a.owner.length)):=fun v hv=>by
 obtain⟨ha,hpl,hpr⟩:=yJ h
 have h1:=(yl ha hv.1).2.2
 have h2:=qf h1.2.2 (j:=0) (by omega)
 rw [UY]
 exact⟨(gi (gl g.a.next v) 0).toNat,⟨hv.1,0,by omega,rfl⟩,⟨by omega,QH (by omega)⟩⟩
end
set_option maxRecDepth 20000 in
set_option maxHeartbeats 8000000 in
theorem zD9 (g:Pa)(hg:g.Ln 1048576)(hok:yL g=true)(xs:List Int)(hx:xs.length≤1048576)(hr: ∀j,j<xs.length→0≤gi xs j∧gi xs j<g.a.owner.length)(M:List Bool)(hM:mkS g.a.owner.length xs xs.length=M)(hlv:vX (pgL (l7G g (noP g.a.owner.length))) (inD g.a.owner.length M))(hne: ∃v,v<g.a.owner.length∧gb M v=true):Fn Tryz.prog tyT 59 [.agg (dPa g), .c (DI xs)] [.c (DI (yT (wiG g M 0) g.a.owner.length)), .c (DI (yT (wiG g M 1) g.a.owner.length))]:=by
 obtain⟨hao,hpl,hpr⟩:=yJ hok
 have hal:=yQ hao
 have hMl:M.length=g.a.owner.length:=by rw [←hM];exact vd _ _ _
 have hPr:=zGc g.a hao
 have hMk:=zHt g.a hg.a xs hx hr
 rw [hM]at hMk
 have hxk:=WS hok (xy g.a.owner.length)
 have hWo:=zIV (l7G g (noP g.a.owner.length)) (g.a.owner.length+1) M (by rw [hMl];exact hxk) (fun v u hv=>zLF rfl v u (by omega)) (by rw [hMl];exact Nat.lt_succ_of_le (Yt _ _)) (by rw [hMl];exact hlv) (by rw [hMl];exact hne)
 rw [hMl]at hWo
 obtain⟨who,hwh⟩: ∃w,Int.tmod (yc (l7G g (noP g.a.owner.length)) M g.a.owner.length) 2=w:=⟨_,rfl⟩
 have hw2:who=0∨who=1:=by
  obtain⟨v9,hv9,hb9⟩:=hne
  have h1:=XB (x:=(l7G g (noP g.a.owner.length))) (inn:=M) g.a.owner.length v9 hv9 hb9
  have h2:=hxk.pr v9 hv9
  rw [←hwh,Va (by omega)]
  omega
 rw [hwh]at hWo
 rw [show wiM (l7G g (noP g.a.owner.length)) g.a.owner.length M who=wiG g M who from rfl]at hWo
 have hls:=zKK (g:=g) hMl hw2
 have hwl:=zAg g M who
 have hwl2:=zAg g M (1 - who)
 have hWt:=ZY M (wiG g M who) (by omega) (by omega)
 rw [hls]at hWt
 have hL1:=XY (wiG g M who) (by omega)
 have hL2:=XY (wiG g M (1 - who)) (by omega)
 rw [hwl]at hL1
 rw [hwl2]at hL2
 clear hne hlv hxk hwh
 have hi1:=xp (wiG g M who) g.a.owner.length
 have hi2:=xp (wiG g M (1 - who)) g.a.owner.length
 unfold dSv l7G at hWo
 dsimp only at hWo
 unfold dAr at hPr hMk
 unfold dPa
 refine θH (ts:= [4,5]) Tryz.func59 Tryz.ntmps59 ?_
 push_cast
 refine θA ?_
 refine zL fun K hK=> ?_
 refine zx true zO zN ya ?_ rfl ?_
 ·kernel_rfl
 intro E hE
 all_goals refine yb 4 (by decide) fun K9 hK9=> ?_
 all_goals push_cast
 all_goals repeat'(first|(apply zP<;>(intro hg;push_cast at hg))|(refine⟨_,hPr,?_⟩;push_cast)|apply And.intro|(intro hg;push_cast at hg))
 all_goals try exact gA
 refine hK9 _ _ ?_;clear hK9 K9
 all_goals push_cast
 all_goals repeat'(first|(apply zP<;>(intro hg;push_cast at hg))|(refine⟨_,hPr,?_⟩;push_cast)|apply And.intro|(intro hg;push_cast at hg))
 all_goals first|exact gA|(refine hE _ _ ?_ ?_;kernel_rfl)|skip
 all_goals clear hE E
 refine hK _ ?_;clear hK K
 refine Qg [240,241,242] [.sl 2, .sl 22, .sl 2, .sl 22] 15 ?_
 push_cast
 refine θL fun K hK=> ?_
 refine θD 4 ?_
 refine θE hK ?_
 refine zL fun K hK=> ?_
 refine zf false zO zN ?_ rfl ?_
 ·kernel_rfl
 all_goals refine yD 3 fun K9 hK9=> ?_
 all_goals push_cast
 all_goals repeat'(first|(apply zP<;>(intro hg;push_cast at hg))|(refine⟨_,_,hWo,?_⟩;push_cast)|apply And.intro|(intro hg;push_cast at hg))
 all_goals try exact gA
 refine hK9 _ ?_;clear hK9 K9
 all_goals push_cast
 all_goals repeat'(first|(apply zP<;>(intro hg;push_cast at hg))|(refine⟨_,_,hWo,?_⟩;push_cast)|apply And.intro|(intro hg;push_cast at hg))
 all_goals try exact gA
 refine hK _ ?_;clear hK K
 refine zL fun K1 hK1=> ?_
 refine qj 4 8 (Nat.le_of_ble_eq_true rfl) ?_
 push_cast
 refine θA ?_
 refine θU (fun hc=> ?_) fun hc=> ?_
 ·
  have hw0:who=0:=by simpa using hc
  subst hw0
  try rw [show(1:Int) - 0=1 from rfl]at*
  refine θL fun K hK=> ?_
  refine θD 2 ?_
  refine θD 3 ?_
  refine θD 1 ?_
  refine θE hK ?_
  refine zZ ⟨Or.inl rfl,?_⟩
  push_cast [zd]
  all_goals first|rfl|(simp;done)|skip
 ·
  refine zU (hK1 _ ?_)
  have hw1:who=1:=by
   have hc9: ¬who=0:=by simpa using hc
   omega
  subst hw1
  refine θL fun K hK=> ?_
  refine θD 3 ?_
  all_goals refine zm 1 fun K9 hK9=> ?_
  all_goals push_cast
  all_goals repeat'(first|(apply zP<;>(intro hg;push_cast at hg))|(refine⟨_,hL1,?_⟩;push_cast)|(refine⟨_,hL2,?_⟩;push_cast)|apply And.intro|(intro hg;push_cast at hg))
  all_goals try exact gA
  refine hK9 _ ?_;clear hK9 K9
  all_goals refine zm 2 fun K9 hK9=> ?_
  all_goals push_cast
  all_goals repeat'(first|(apply zP<;>(intro hg;push_cast at hg))|(refine⟨_,hL1,?_⟩;push_cast)|(refine⟨_,hL2,?_⟩;push_cast)|apply And.intro|(intro hg;push_cast at hg))
  all_goals try exact gA
  refine hK9 _ ?_;clear hK9 K9
  refine θE hK ?_
  refine zZ ⟨Or.inl rfl,?_⟩
  push_cast [zd]
  all_goals first|rfl|(simp;done)|skip
set_option maxRecDepth 20000 in
set_option maxHeartbeats 4000000 in
theorem Uo (g:Pa)(hg:g.Ln 1048576)(hok:yL g=true):Fn Tryz.prog tyT 33 [.agg (dPa g)] [.c (DI (zj g))]:=by
 obtain⟨hao,hpl,hpr⟩:=yJ hok
 have hal:=yQ hao
 have hAl:=zIm g.a hal.2.1
 have hil:=Qm g.a.owner.length
 have hWi:=zD9 g hg hok (Zw g.a.owner.length) (by omega) (fun j hj=>by rw [zLZ (by omega)];omega) (qv g.a.owner.length) (by rw [hil];exact zLa _) (zJR hok) ⟨0,by omega,QH (by omega)⟩
 have hev:=xp (wiG g (qv g.a.owner.length) 0) g.a.owner.length
 have hodl:=xp (wiG g (qv g.a.owner.length) 1) g.a.owner.length
 have hogi:=fun(i:Nat) h=>Yu (l:=wiG g (qv g.a.owner.length) 1) (k:=g.a.owner.length) (i:=i) h
 have hfin:=zOB g
 generalize yT (wiG g (qv g.a.owner.length) 0) g.a.owner.length=evs at hWi hev
 generalize yT (wiG g (qv g.a.owner.length) 1) g.a.owner.length=ods at hWi hodl hogi hfin
 unfold dPa at hWi⊢
 unfold dAr at hAl
 refine θH (ts:= [2]) Tryz.func33 Tryz.ntmps33 ?_
 push_cast
 refine θA ?_
 refine θA ?_
 refine zL fun K hK=> ?_
 refine zx false zO zN ya ?_ rfl ?_
 ·kernel_rfl
 intro E hE
 all_goals refine yb 4 (by decide) fun K9 hK9=> ?_
 all_goals push_cast
 all_goals repeat'(first|(apply zP<;>(intro hg;push_cast at hg))|(refine⟨_,hAl,?_⟩;push_cast)|apply And.intro|(intro hg;push_cast at hg))
 all_goals try exact gA
 refine hK9 _ _ ?_;clear hK9 K9
 all_goals refine yb 1 (by decide) fun K9 hK9=> ?_
 all_goals push_cast
 all_goals repeat'(first|(apply zP<;>(intro hg;push_cast at hg))|(refine⟨_,hWi,?_⟩;push_cast)|apply And.intro|(intro hg;push_cast at hg))
 all_goals try exact gA
 refine hK9 _ _ ?_;clear hK9 K9
 all_goals push_cast
 all_goals repeat'(first|(apply zP<;>(intro hg;push_cast at hg))|(refine⟨_,hAl,?_⟩;push_cast)|(refine⟨_,hWi,?_⟩;push_cast)|apply And.intro|(intro hg;push_cast at hg))
 all_goals first|exact gA|(refine hE _ _ ?_ ?_;kernel_rfl)|skip
 all_goals clear hE E
 refine hK _ ?_;clear hK K
 refine zL fun K1 hK1=> ?_
 refine θA ?_
 refine zV ?_
 refine zg [7,22,23,24,25,26,27,28,29] [48] (fun(k:Nat)=> [(22, .int .i64 k),(3, .sl 48 [] 0 g.prio.length 2)]) (fun k=> []) (fun k=> [(48,⟨.ex,2,dI (JR g.a.owner.length ods k),none⟩)]) (fun k=>k≤ods.length) (fun k=>ods.length - k) 0 ?_ (by omega) ?_
 ·
  rw [zNd]
  (try rw [hpl])
  exact θX
 ·rintro k hk KL0 hL0
  have hml:=wP g.a.owner.length ods k
  push_cast
  refine θA ?_
  refine zL fun K2 hK2=> ?_
  refine θU (fun hc=> ?_) fun hc=> ?_
  ·
   refine zU (hK2 _ ?_)
   refine zL fun K3 hK3=> ?_
   refine zV ?_
   have ho:=hogi k (by omega)
   have hst:=zJY (n:=g.a.owner.length) (xs:=ods) (k:=k) (by omega) (by omega)
   refine θA ?_
   refine θB ?_
   refine hK3 _ ?_
   refine θB ?_
   refine hL0 _ ⟨k+1,by omega,by omega,?_⟩
   (try rw [hst])
   exact θX
   all_goals first|rfl|(rw [hst];done)|skip
  ·
   refine zh ?_
   have hkk:k=ods.length:=by omega
   subst hkk
   refine hK1 _ ?_
   refine θA ?_
   refine zZ ⟨Or.inl rfl,?_⟩
   push_cast [zd]
   (try rw [hfin])
   all_goals first|rfl|(rw [hfin];done)|exact⟨rfl,by rw [hpl,qL]⟩|(simp [qL,hpl];done)|skip
end Go.Proofs.YtcleaokoimhedaaGreat
