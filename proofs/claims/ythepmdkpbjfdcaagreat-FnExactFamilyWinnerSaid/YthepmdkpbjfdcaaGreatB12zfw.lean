/- The solver of the program: the empty part, the greatest priority, marks that are met; walks -/
import Derived.Test.YthepmdkpbjfdcaaGreatB11zfw
namespace Go.Proofs.YthepmdkpbjfdcaaGreat
open Nat renaming reduceMod → zA, reduceMul → zB, reduceDiv → zC, reduceAdd → zD, reduceSub → zE, reduceEqDiff → zF, reduceBEq → zG, reduceLT → zH, reduceLeDiff → zI
open Go.RowKit
set_option linter.unusedVariables false
set_option linter.unusedSimpArgs false
theorem ud {l:List Bool}: ∀{k:Nat},(∀v,v<k→gb l v=false)→yd l k= []
 |0,_=>rfl
 |k+1,h=>by rw [Qi (h k (by omega))];exact ud fun v hv=>h v (by omega)
theorem zEe {l:List Bool}{k:Nat}(h: ∃v,v<k∧gb l v=true):1≤(yd l k).length:=by
 obtain⟨v,hv,hb⟩:=h
 have :(v:Int)∈yd l k:=wI.2 ⟨v,hv,hb,rfl⟩
 exact List.length_pos_of_mem this
theorem zIR {x:L7}{n:Nat}(hx:x.Ok n)(inn:List Bool):Zn ⟨⟨x.owner,x.next⟩,x.prio⟩ (yd inn n) (yd inn n).length=yK x inn n:=by
 have h1:=zBU ⟨⟨x.owner,x.next⟩,x.prio⟩ (yd inn n) (yd inn n).length
 have h2:=zCx ⟨⟨x.owner,x.next⟩,x.prio⟩ (yd inn n) (yd inn n).length
 have h3:=fun v hv hb=>YA (x:=x) (inn:=inn) n v hv hb
 have h4:=JA hx (inn:=inn) n (Nat.le_refl _)
 have hle:Zn ⟨⟨x.owner,x.next⟩,x.prio⟩ (yd inn n) (yd inn n).length≤yK x inn n:=by
  rcases h2 with e|⟨j,hj,e⟩
  ·rw [e]
   rcases h4 with e2|⟨v,hv,h5,h6⟩
   ·omega
   ·have :=hx.pr v hv;omega
  ·rw [←e]
   have h5:=Yz hj
   exact h3 _ (by omega) h5.2.2
 have hge:yK x inn n≤Zn ⟨⟨x.owner,x.next⟩,x.prio⟩ (yd inn n) (yd inn n).length:=by
  rcases h4 with e|⟨v,hv,h5,h6⟩
  ·rcases h2 with e2|⟨j,hj,e2⟩
   ·omega
   ·have h5:=Yz hj
    have :=hx.pr (gi (yd inn n) j).toNat (by omega)
    rw [←e2]
    show _≤gi x.prio _
    omega
  ·rw [←h6]
   have hm:(v:Int)∈yd inn n:=wI.2 ⟨v,hv,h5,rfl⟩
   obtain⟨j,hj⟩:=List.getElem?_of_mem hm
   have hl:=(List.getElem?_eq_some_iff.1 hj).1
   have :=h1 j hl
   have e9:gi (yd inn n) j=(v:Int):=by
    have :=vC hl
    rw [hj]at this
    exact(Option.some.inj this).symm
   rw [e9,Int.toNat_natCast]at this
   exact this
 omega
def anT (l:List Bool):Bool:=vS l l.length
theorem zHH {l:List Bool}{k:Nat}(hk:k<l.length)(h:gb l k=true):anT l=true:=vb.2 ⟨k,hk,h⟩
theorem zIh {l:List Bool}(h: ∀k,k<l.length→gb l k=false):anT l=false:=by
 refine Bool.eq_false_iff.2 fun e=> ?_
 obtain⟨v,hv,hb⟩:=vb.1 e
 rw [h v hv]at hb;cases hb
theorem ZD {l:List Bool}(h:anT l=false)(v:Nat)(hv:v<l.length):gb l v=false:=by
 cases hb:gb l v
 ·rfl
 ·rw [zHH hv hb]at h;cases h
def fxT (l:List Bool):Nat→Int
 |0=> -1
 |k+1=>if fxT l k<0∧gb l k=true then k else fxT l k
theorem Ka {l:List Bool}: ∀{k:Nat},(∀j,j<k→gb l j=false)→fxT l k= -1
 |0,_=>rfl
 |k+1,h=>by
  have ih:=Ka (l:=l) (k:=k) fun j hj=>h j (by omega)
  unfold fxT
  rw [if_neg (fun e=>by rw [h k (by omega)]at e;cases e.2),ih]
theorem zAm {l:List Bool}{k:Nat}(h:0≤fxT l k): ∀d,fxT l (k+d)=fxT l k
 |0=>rfl
 |d+1=>by
  have ih:=zAm h d
  rw [show k+(d+1)=k+d+1 from rfl]
  show(if fxT l (k+d)<0∧_ then _ else _)=_
  rw [if_neg (fun e=>by omega),ih]
theorem zEU {l:List Bool}{k:Nat}(h: ∀j,j<k→gb l j=false)(hk:k<l.length)(hb:gb l k=true):fxT l l.length=k:=by
 have e:fxT l (k+1)=k:=by
  show(if _ then _ else _)=_
  rw [if_pos ⟨by rw [Ka h];omega,hb⟩]
 have :=zAm (l:=l) (k:=k+1) (by omega) (l.length - (k+1))
 rw [show k+1+(l.length - (k+1))=l.length by omega]at this
 omega
theorem zEV {l:List Bool}(h: ∀j,j<l.length→gb l j=false):fxT l l.length= -1:=Ka h
theorem zHf (l:List Bool):decide (fxT l l.length≥0)=anT l:=by
 cases h:anT l
 ·rw [zEV (ZD h)];rfl
 ·obtain⟨v,hv,hb⟩:=vb.1 h
  obtain⟨k,⟨hk,hb2⟩,hmin⟩:=um (P:=fun k=>k<l.length∧gb l k=true) v ⟨hv,hb⟩
  rw [zEU (fun j hj=>by
   cases hq:gb l j
   ·rfl
   ·exact absurd ⟨by omega,hq⟩ (hmin j hj)) hk hb2]
  exact decide_eq_true (by omega)
set_option maxRecDepth 20000 in
set_option maxHeartbeats 4000000 in
theorem zDv (l:List Bool)(hl:l.length≤1048576):Fn Tryz.prog tyT 209 [.c (.lst 4 (dB l)), .c (.bool true)] [.c (.int .i64 (fxT l l.length))]:=by
 refine zr (fn:=Tryz.f209) (ts:= [4]) Tryz.func209 (by kernel_rfl) rfl rfl (by rw [Tryz.ntmps209];exact Nat.le_of_ble_eq_true rfl) rfl (by simp only [szA,List.mem_cons,List.not_mem_nil,or_false,forall_eq_or_imp,forall_eq,VT.cells,szL];try decide) ?_
 rw [Tryz.ntmps209]
 push_cast
 refine zL fun K hK=> ?_
 refine zM zO zN [] rfl ?_
 push_cast
 repeat' apply And.intro
 all_goals try exact gB
 refine hK _ ?_;clear hK K
 refine zL fun K1 hK1=> ?_
 refine zL fun K hK=> ?_
 refine zM zO zN [] rfl ?_
 push_cast
 repeat' apply And.intro
 all_goals try exact gB
 refine hK _ ?_;clear hK K
 refine zV ?_
 refine zh [4,5,8,9,10,11,12,13,14,15,16,17,18] [] (fun(k:Nat)=> [(8, .int .i64 k)]) (fun k=> []) (fun k=> []) (fun k=>k≤l.length∧∀j,j<k→gb l j=false) (fun k=>l.length - k) 0 ?_ ⟨by omega,fun j hj=>by omega⟩ ?_
 ·
  refine zX rfl ?_ ?_ ?_<;>push_cast [zg,zf]
 ·rintro k ⟨hk,hall⟩ KL0 hL0
  push_cast
  refine zL fun K hK=> ?_
  refine zM zO zN [] rfl ?_
  push_cast
  repeat' apply And.intro
  all_goals try exact gB
  refine hK _ ?_;clear hK K
  refine zL fun K2 hK2=> ?_
  refine zT rfl (fun hc=> ?_) (fun hc=> ?_)<;>(try simp only [push_cast]at hc)
  ·
   refine zU ?_
   refine hK2 _ ?_
   refine zL fun K3 hK3=> ?_
   refine zV ?_
   refine zL fun K hK=> ?_
   refine zM zO zN [] rfl ?_
   push_cast
   repeat' apply And.intro
   all_goals try exact gB
   refine hK _ ?_;clear hK K
   refine zL fun K hK=> ?_
   refine zM zO zN [] rfl ?_
   push_cast
   repeat' apply And.intro
   all_goals try exact gB
   refine hK _ ?_;clear hK K
   refine zT rfl (fun hc=> ?_) (fun hc=> ?_)<;>(try simp only [push_cast]at hc)
   ·
    refine zL fun K hK=> ?_
    refine zM zO zN [] rfl ?_
    push_cast
    repeat' apply And.intro
    all_goals try exact gB
    refine hK _ ?_;clear hK K
    refine zW ?_
    refine⟨Or.inl rfl,?_⟩
    push_cast [za]
    exact(zEU hall (by omega) (by first|assumption|(simpa using hc)|exact hc.symm)).symm
   ·
    refine zU ?_
    refine hK3 _ ?_
    refine zM zO zN [] rfl ?_
    push_cast
    repeat' apply And.intro
    all_goals try exact gB
    refine hL0 _ ⟨k+1,⟨by omega,fun j hj=>by
      by_cases hjk:j=k
      ·subst hjk;simpa using hc
      ·exact hall j (by omega)⟩,by omega,?_⟩
    refine zX rfl ?_ ?_ ?_<;>push_cast [zg,zf]
  ·
   refine zi ?_
   have hkk:k=l.length:=by omega
   subst hkk
   refine hK1 _ ?_
   refine zL fun K hK=> ?_
   refine zM zO zN [] rfl ?_
   push_cast
   repeat' apply And.intro
   all_goals try exact gB
   refine hK _ ?_;clear hK K
   refine zW ?_
   refine⟨Or.inl rfl,?_⟩
   push_cast [za]
   exact(zEV hall).symm
set_option maxRecDepth 20000 in
set_option maxHeartbeats 4000000 in
theorem vQ (l:List Bool)(hl:l.length≤1048576):Fn Tryz.prog tyT 183 [.c (.lst 4 (dB l)), .c (.bool true)] [.c (.bool (anT l))]:=by
 have hI:=zDv l hl
 have hf:=zHf l
 refine zr (fn:=Tryz.f183) (ts:= [4]) Tryz.func183 (by kernel_rfl) rfl rfl (by rw [Tryz.ntmps183];exact Nat.le_of_ble_eq_true rfl) rfl (by simp only [szA,List.mem_cons,List.not_mem_nil,or_false,forall_eq_or_imp,forall_eq,VT.cells,szL];try decide) ?_
 rw [Tryz.ntmps183]
 push_cast
 refine zL fun K hK=> ?_
 refine zM zO zN [] rfl ?_
 push_cast
 repeat' apply And.intro
 all_goals try exact gB
 refine hK _ ?_;clear hK K
 refine zL fun K hK=> ?_
 refine zM zO zN [] rfl ?_
 all_goals refine zl 3 fun K9 hK9=> ?_
 all_goals push_cast
 all_goals repeat'(first|(apply zP<;>(intro hg;push_cast at hg))|(refine⟨_,hI,?_⟩;push_cast)|apply And.intro|(intro hg;push_cast at hg))
 all_goals try exact gA
 refine hK9 _ ?_;clear hK9 K9
 all_goals push_cast
 all_goals repeat'(first|(apply zP<;>(intro hg;push_cast at hg))|(refine⟨_,hI,?_⟩;push_cast)|apply And.intro|(intro hg;push_cast at hg))
 all_goals try exact gA
 refine hK _ ?_;clear hK K
 refine zW ?_
 refine⟨Or.inl rfl,?_⟩
 push_cast [za]
 rw [←hf]
 all_goals first|rfl|(simp;done)|skip
set_option maxRecDepth 20000 in
set_option maxHeartbeats 4000000 in
theorem zIW (l:List Bool)(hl:l.length≤1048576)(hno: ∀v,v<l.length→gb l v=false):FnA Tryz.prog tyT 161 (.lst 4 (dB l)):=by
 have hL:=YT l hl
 rw [ud hno]at hL
 refine zIa (fn:=Tryz.f161) (rs:= [.tmp 4, .tmp 5]) zO zN Tryz.func161 (by kernel_rfl) rfl rfl (by rw [Tryz.ntmps161];exact Nat.le_of_ble_eq_true rfl) (by decide) ?_
 rw [Tryz.ntmps161]
 push_cast
 refine zL fun K hK=> ?_
 refine zM zO zN [] rfl ?_
 all_goals push_cast
 all_goals repeat'(first|(apply zP<;>(intro hg;push_cast at hg))|apply And.intro|(intro hg;push_cast at hg))
 all_goals first|exact gA|(simp [dI];done)|skip
 refine hK _ ?_;clear hK K
 refine zL fun K hK=> ?_
 refine zM zO zN [] rfl ?_
 all_goals refine zl 2 fun K9 hK9=> ?_
 all_goals push_cast
 all_goals repeat'(first|(apply zP<;>(intro hg;push_cast at hg))|(refine⟨_,hL,?_⟩;push_cast)|apply And.intro|(intro hg;push_cast at hg))
 all_goals first|exact gA|(simp [dI];done)|skip
 refine hK9 _ ?_;clear hK9 K9
 all_goals push_cast
 all_goals repeat'(first|(apply zP<;>(intro hg;push_cast at hg))|(refine⟨_,hL,?_⟩;push_cast)|apply And.intro|(intro hg;push_cast at hg))
 all_goals first|exact gA|(simp [dI];done)|skip
 refine hK _ ?_;clear hK K
 refine zL fun K1 hK1=> ?_
 refine zL fun K hK=> ?_
 refine zM zO zN [] rfl ?_
 all_goals push_cast
 all_goals repeat'(first|(apply zP<;>(intro hg;push_cast at hg))|apply And.intro|(intro hg;push_cast at hg))
 all_goals first|exact gA|(simp [dI];done)|skip
 refine hK _ ?_;clear hK K
 refine zT rfl (fun hc=> ?_) (fun hc=> ?_)
 rotate_left
 ·exfalso;first|(cases hc;done)|(simp only [push_cast]at hc;done)|(simp only [push_cast]at hc;omega)|omega
 refine zL fun K hK=> ?_
 refine zM zO zN [] rfl ?_
 all_goals push_cast
 all_goals repeat'(first|(apply zP<;>(intro hg;push_cast at hg))|apply And.intro|(intro hg;push_cast at hg))
 all_goals first|exact gA|(simp [dI];done)|skip
 refine hK _ ?_;clear hK K
 refine zW ?_
 refine⟨Or.inl rfl,?_⟩
 push_cast [RetA,yB,yZ]
 all_goals first|rfl|exact⟨trivial,rfl,rfl,rfl,by decide⟩|(simp;done)|skip
section
variable {x:L7} {n:Nat}
theorem zE5 (hx:x.Ok n){inn now goal rest:List Bool}{top who:Int}(hi:inn.length=n)(hnl:now.length=n)(hT:yK x inn n=top)(ht:0≤top)(hg:yY n (xF x now top)=goal)(hr:yJ now (yX x n now who goal)=rest)(h:now=inn∨yk now n<yk inn n):yk rest n<yk inn n:=by
 subst hr
 rcases h with h|h
 ·subst h
  rcases JA hx (inn:=now) n (Nat.le_refl _)with e|⟨v,hv,h1,h2⟩
  ·omega
  ·refine XH hnl hv h1 ?_
   rw [←hg,yS hv]
   unfold xF
   rw [h1,h2,hT]
   simp
 ·have :=kK (a:=yJ now (yX x n now who goal)) (b:=now) n fun v hv hb=>by
   rw [qS (by omega),Bool.and_eq_true]at hb;exact hb.1
  omega
theorem zHl {now:List Bool}{top:Int}{v:Nat}(hv:v<n)(h:gb (yY n (xF x now top)) v=true):gb now v=true:=by
 rw [yS hv]at h
 unfold xF at h
 rw [Bool.and_eq_true]at h
 exact h.1
theorem zA4 {now goal rest:List Bool}{who:Int}(hnl:now.length=n)(hr:yJ now (yX x n now who goal)=rest){v:Nat}(hv:v<n)(h:gb (yY n (yP rest (yU x n (n+1) rest) who)) v=true):gb now v=true:=by
 rw [yS hv]at h
 unfold yP at h
 rw [Bool.and_eq_true,←hr,qS (by omega),Bool.and_eq_true]at h
 exact h.1.1
theorem zJX {rest:List Bool}{who ww:Int}(hl:rest.length=n)(h:ww=who):yJ rest (wiM x n rest ww)=yY n (yP rest (yU x n (n+1) rest) who):=by
 subst h
 refine wY (by rw [xf,qj];exact hl) fun v hv=> ?_
 rw [xf,hl]at hv
 rw [yS hv,zEp hl hv]
theorem zJY {rest:List Bool}{who ww:Int}(hw:who=0∨who=1)(hw2:ww=0∨ww=1)(h: ¬ww=who):wiM x n rest ww=yY n (yP rest (yU x n (n+1) rest) who):=by
 have e:ww=1 - who:=by omega
 subst e
 refine wY (by rw [Qx,qj]) fun v hv=> ?_
 rw [Qx]at hv
 rw [yS hv,zDZ hw hv]
theorem zGO {rest:List Bool}{who:Int}(hl:rest.length=n)(h: ¬∃v,v<n∧gb rest v=true):(∀v,v<rest.length→gb rest v=false)∧yJ rest rest=yY n (yP rest (yU x n (n+1) rest) who)∧rest=yY n (yP rest (yU x n (n+1) rest) who)∧anT (yY n (yP rest (yU x n (n+1) rest) who))=false:=by
 have h0: ∀v,v<n→gb rest v=false:=fun v hv=>by
  cases hb:gb rest v
  ·rfl
  ·exact absurd ⟨v,hv,hb⟩ h
 have hz: ∀v,v<n→gb (yY n (yP rest (yU x n (n+1) rest) who)) v=false:=fun v hv=>by
  rw [yS hv];unfold yP;rw [h0 v hv];rfl
 refine⟨fun v hv=>h0 v (by omega),wY (by rw [xf,qj];exact hl) fun v hv=> ?_,wY (by rw [qj];exact hl) fun v hv=> ?_,zIh fun v hv=>hz v (by rw [qj]at hv;exact hv)⟩
 ·rw [xf,hl]at hv
  rw [hz v hv,qS (by omega),h0 v hv];rfl
 ·rw [hl]at hv
  rw [hz v hv,h0 v hv]
end
theorem ok_Ln {x:L7}{n:Nat}(hx:x.Ok n):(⟨⟨x.owner,x.next⟩,x.prio⟩:Pa).Ln 1048576:=by
 have h1:=hx.hn
 have h2:=hx.ho
 have h3:=hx.hp
 have h4:=hx.hx
 refine⟨⟨?_,?_,fun r hr=> ?_⟩,?_⟩
 ·show x.owner.length≤_;omega
 ·show x.next.length≤_;omega
 ·have hr:r∈x.next:=hr
  obtain⟨v,hv,e⟩:=List.mem_iff_getElem.1 hr
  have h5:=hx.deg v (by omega)
  unfold gl at h5
  rw [List.getD_eq_getElem?_getD,List.getElem?_eq_getElem hv,e]at h5
  simp only [Option.getD_some]at h5
  omega
 ·show x.prio.length≤_;omega
theorem zJi (x:L7){n:Nat}{inn:List Bool}(hi:inn.length=n)(hx:x.Ok n)(hed: ∀(v:Nat) (u:Int),v<n→edB x v u=true)(who:Int)(goal:List Bool)(hg9:goal.length=n)(hsub: ∀v,v<n→gb goal v=true→gb inn v=true):FnB Tryz.prog tyT 182 (dSv x) [.c (.int .i64 who), .c (.lst 4 (dB inn)), .c (.lst 4 (dB goal))] (dSv x) [.c (.lst 4 (dB (yX x n inn who goal)))]:=by
 subst hi
 exact zIB x inn hx hed who goal hg9 fun _=>hsub
set_option maxRecDepth 20000 in
set_option maxHeartbeats 8000000 in
theorem zGr (x:L7)(inn:List Bool)(hx:x.Ok inn.length)(hed: ∀(v:Nat) (u:Int),v<inn.length→edB x v u=true)(hlv:va (pgL x) (inD inn.length inn))(hne: ∃v,v<inn.length∧gb inn v=true)(top who:Int)(hT:yK x inn inn.length=top)(hW:Int.tmod top 2=who)(hIH: ∀r:List Bool,r.length=inn.length→yk r inn.length<yk inn inn.length→va (pgL x) (inD inn.length r)→(∃v,v<inn.length∧gb r v=true)→FnB Tryz.prog tyT 161 (dSv x) [.c (.lst 4 (dB r))] (dSv x) [.c (.lst 4 (dB (wiM x inn.length r (Int.tmod (yK x r inn.length) 2)))), .c (.int .i64 (Int.tmod (yK x r inn.length) 2))]):FnB Tryz.prog tyT 161 (dSv x) [.c (.lst 4 (dB inn))] (dSv x) [.c (.lst 4 (dB (wiM x inn.length inn who))), .c (.int .i64 who)]:=by
 have hn1:=hx.hn
 have hn2:=hx.ho
 have hn3:=hx.hp
 have hn4:=hx.hx
 have hLi:=YT inn (by omega)
 have hg:(⟨⟨x.owner,x.next⟩,x.prio⟩:Pa).Ln 1048576:=ok_Ln hx
 have hil:=wH inn inn.length
 have hip:=zEe hne
 have hTp:=zGm ⟨⟨x.owner,x.next⟩,x.prio⟩ hg (yd inn inn.length) (by omega) (fun j hj=>by have h9:=Yz hj;show _∧_<(x.prio.length:Int);omega)
 rw [zIR hx,hT]at hTp
 have htop:0≤top∧top≤40:=by
  obtain⟨v9,hv9,hb9⟩:=hne
  have h1:=YA (x:=x) (inn:=inn) inn.length v9 hv9 hb9
  have h2:=hx.pr v9 hv9
  have h3:=Je hx inn inn.length (Nat.le_refl _)
  omega
 have hw2:who=0∨who=1:=by rw [←hW,Xy htop.1];omega
 have hmax: ∀v,inD inn.length inn v→gi x.prio v≤top:=fun v hv=>by rw [←hT];exact YA inn.length v hv.1 hv.2
 have hpar:top%2=who:=by rw [←hW,Xy htop.1]
 have hPu:=fun(now:List Bool) (w9:Int) (gl9:List Bool) (h1:now.length=inn.length) (h2:gl9.length=inn.length) h3=>zJi x h1 hx hed w9 gl9 h2 h3
 have hTk: ∀_:Unit,∀l:List Bool,l.length=inn.length→l.take inn.length=l:=fun _ l h=>List.take_of_length_le (by omega)
 replace hIH: ∀_:Unit,∀r:List Bool,_:=fun _=>hIH
 clear hne
 unfold dPa at hTp
 unfold dSv at hPu hIH⊢
 refine zDt (fn:=Tryz.f161) (rs:= [.tmp 4, .tmp 5]) zO zN Tryz.func161 (by kernel_rfl) rfl rfl (by rw [Tryz.ntmps161];exact Nat.le_of_ble_eq_true rfl) rfl (by simp only [szA,List.mem_cons,List.not_mem_nil,or_false,forall_eq_or_imp,forall_eq,false_implies,implies_true,VT.cells,szL];try decide) (Nat.le_of_ble_eq_true rfl) (by simp only [szL];decide) (Nat.le_of_ble_eq_true rfl) rfl ?_
 rw [Tryz.ntmps161]
 push_cast
 refine zL fun K hK=> ?_
 refine zM zO zN [] rfl ?_
 push_cast
 repeat' apply And.intro
 all_goals try exact gB
 refine hK _ ?_;clear hK K
 refine zL fun K hK=> ?_
 refine zM zO zN [] rfl ?_
 all_goals refine zl 2 fun K9 hK9=> ?_
 all_goals push_cast
 all_goals repeat'(first|(apply zP<;>(intro hg;push_cast at hg))|(refine⟨_,hLi,?_⟩;push_cast)|apply And.intro|(intro hg;push_cast at hg))
 all_goals try exact gA
 refine hK9 _ ?_;clear hK9 K9
 all_goals push_cast
 all_goals repeat'(first|(apply zP<;>(intro hg;push_cast at hg))|(refine⟨_,hLi,?_⟩;push_cast)|apply And.intro|(intro hg;push_cast at hg))
 all_goals try exact gA
 refine hK _ ?_;clear hK K
 refine zL fun K1 hK1=> ?_
 refine zL fun K hK=> ?_
 refine zM zO zN [] rfl ?_
 push_cast
 repeat' apply And.intro
 all_goals try exact gB
 refine hK _ ?_;clear hK K
 refine zT rfl (fun hc=> ?_) (fun hc=> ?_)
 skip
 ·exfalso;first|(cases hc;done)|(simp only [push_cast]at hc;done)|(simp only [push_cast]at hc;omega)|omega
 refine zU ?_
 refine hK1 _ ?_
 refine zL fun K hK=> ?_
 refine zM zO zN [] rfl ?_
 all_goals refine zl 6 fun K9 hK9=> ?_
 all_goals push_cast
 all_goals repeat'(first|(apply zP<;>(intro hg;push_cast at hg))|(refine⟨_,hTp,?_⟩;push_cast)|apply And.intro|(intro hg;push_cast at hg))
 all_goals try exact gA
 refine hK9 _ ?_;clear hK9 K9
 all_goals push_cast
 all_goals repeat'(first|(apply zP<;>(intro hg;push_cast at hg))|(refine⟨_,hTp,?_⟩;push_cast)|apply And.intro|(intro hg;push_cast at hg))
 all_goals try exact gA
 refine hK _ ?_;clear hK K
 refine zL fun K hK=> ?_
 refine zM zO zN [] rfl ?_
 push_cast
 repeat' apply And.intro
 all_goals try exact gB
 refine hK _ ?_;clear hK K
 (try rw [hW])
 refine zL fun K hK=> ?_
 refine zM zO zN [] rfl ?_
 push_cast
 repeat' apply And.intro
 all_goals try exact gB
 refine hK _ ?_;clear hK K
 refine zV ?_
 refine zh [4,5,9,10,11,12,13,14,15,33,34,35,36,37,38,39,40,41,42,43,44,45,46,47,48,49,50,51,52,53,54,55,56,57,58,59,60,61,62,63,64,65,66,67,68,69,70,71,72,73,74,75,76,77,78,79,80,81,82,83,84,85,86,87,88,89,90,91,92,93,94,95,96,97,98] [144] (fun(now:List Bool)=> [(9, .sl 144 [] 0 inn.length 4)]) (fun now=> []) (fun now=> [(144,⟨.ex,4,dB now,none⟩)]) (fun now=>WnI x inn.length inn who now∧(now=inn∨yk now inn.length<yk inn inn.length)) (fun now=>yk now inn.length) inn ?_ ⟨WnI.start rfl hlv, .inl rfl⟩ ?_
 ·
  refine zX rfl ?_ ?_ ?_<;>push_cast [zg,zf]
 ·rintro now ⟨hwn,hdn⟩ KL0 hL0
  push_cast
  refine zV ?_
  have hnl:=hwn.len
  refine zL fun K hK=> ?_
  refine zM zO zN [] rfl ?_
  push_cast
  repeat' apply And.intro
  all_goals try exact gB
  refine hK _ ?_;clear hK K
  refine zL fun K2 hK2=> ?_
  refine zL fun K hK=> ?_
  refine zM zO zN [] rfl ?_
  push_cast
  repeat' apply And.intro
  all_goals try exact gB
  refine hK _ ?_;clear hK K
  refine zV ?_
  refine zh [11,38,39,40,41,42,43,44,45,46,47,48,49,50,51,52,53,54,55,56,57,58,59,60] [160] (fun(v:Nat)=> [(38, .int .i64 v),(10, .sl 160 [] 0 inn.length 4)]) (fun v=> []) (fun v=> [(160,⟨.ex,4,dB (mkB inn.length (xF x now top) v),none⟩)]) (fun v=>v≤inn.length) (fun v=>inn.length - v) 0 ?_ (by omega) ?_
  ·
   rw [Xp]
   refine zX rfl ?_ ?_ ?_<;>push_cast [zg,zf]
  ·rintro v hv KL1 hL1
   have hml:=wa (f:=xF x now top) hv
   push_cast
   refine zL fun K hK=> ?_
   refine zM zO zN [] rfl ?_
   push_cast
   repeat' apply And.intro
   all_goals try exact gB
   refine hK _ ?_;clear hK K
   refine zL fun K3 hK3=> ?_
   refine zT rfl (fun hc=> ?_) (fun hc=> ?_)<;>(try simp only [push_cast]at hc)
   ·
    refine zU ?_
    refine hK3 _ ?_
    refine zL fun K4 hK4=> ?_
    refine zV ?_
    refine zL fun K hK=> ?_
    refine zM zO zN [] rfl ?_
    push_cast
    repeat' apply And.intro
    all_goals try exact gB
    refine hK _ ?_;clear hK K
    refine zj false zO zN ?_ rfl ?_
    ·kernel_rfl
    all_goals push_cast
    all_goals repeat'(first|(apply zP<;>(intro hg;push_cast at hg))|apply And.intro|(intro hg;push_cast at hg))
    all_goals try exact gA
    all_goals(
      refine hK4 _ ?_
      refine zM zO zN [] rfl ?_
      push_cast
      repeat' apply And.intro
      all_goals try exact gB
      refine hL1 _ ⟨v+1,by omega,by omega,?_⟩
      first|rw [zAp (k:=v) (n:=inn.length) (inn:=now) (by omega) (by with_reducible assumption)]|rw [zCd (k:=v) (n:=inn.length) (inn:=now) (by omega) (by with_reducible assumption)]
      refine zX rfl ?_ ?_ ?_<;>push_cast [zg,zf])
   ·
    refine zi ?_
    have hvv:v=inn.length:=by omega
    rw [hvv,Qp]
    refine hK2 _ ?_
    obtain⟨goal,hgd⟩: ∃g,yY inn.length (xF x now top)=g:=⟨_,rfl⟩
    rw [hgd]
    have hgl:goal.length=inn.length:=by rw [←hgd];exact qj _ _
    obtain⟨att,hat⟩: ∃a,yX x inn.length now who goal=a:=⟨_,rfl⟩
    obtain⟨rest,hrs⟩: ∃r,yJ now (yX x inn.length now who goal)=r:=⟨_,rfl⟩
    have hP1:=hPu now who goal hnl hgl (fun v hv hb=>by rw [←hgd]at hb;exact zHl hv hb)
    have hrr:=hwn.rest (goal:=goal) hx
    rw [hrs]at hrr
    have hlt:=zE5 hx rfl hnl hT htop.1 hgd hrs hdn
    have hal:=wC x inn.length now who goal
    have hrs2:=hrs
    rw [hat]at hP1 hal hrs2
    have hW1:=wg now att (by omega) (by omega)
    rw [hrs2]at hW1
    rw [←hTk () now hnl,←hTk () goal hgl]at hP1
    rw [←hTk () now hnl]at hW1
    obtain⟨lost,hld⟩: ∃l,yY inn.length (yP rest (yU x inn.length (inn.length+1) rest) who)=l:=⟨_,rfl⟩
    have hlol:lost.length=inn.length:=by rw [←hld];exact qj _ _
    have hlv2: ∀v,v<inn.length→gb lost v=yP rest (yU x inn.length (inn.length+1) rest) who v:=fun v hv=>by rw [←hld];exact yS hv
    refine zL fun K hK=> ?_
    refine zj false zO zN ?_ rfl ?_
    ·kernel_rfl
    all_goals refine yF 6 fun K9 hK9=> ?_
    all_goals push_cast
    all_goals repeat'(first|(apply zP<;>(intro hg;push_cast at hg))|(refine⟨_,_,hP1,?_⟩;push_cast)|apply And.intro|(intro hg;push_cast at hg))
    all_goals try exact gA
    refine hK9 _ ?_;clear hK9 K9
    all_goals refine yF 1 fun K9 hK9=> ?_
    all_goals push_cast
    all_goals repeat'(first|(apply zP<;>(intro hg;push_cast at hg))|(refine⟨_,hW1,?_⟩;push_cast)|apply And.intro|(intro hg;push_cast at hg))
    all_goals try exact gA
    refine hK9 _ ?_;clear hK9 K9
    all_goals push_cast
    all_goals repeat'(first|(apply zP<;>(intro hg;push_cast at hg))|(refine⟨_,_,hP1,?_⟩;push_cast)|(refine⟨_,hW1,?_⟩;push_cast)|apply And.intro|(intro hg;push_cast at hg))
    all_goals try exact gA
    refine hK _ ?_;clear hK K
    by_cases hre: ∃v,v<inn.length∧gb rest v=true
    ·
     refine vA 4 12 (Nat.le_of_ble_eq_true rfl) ?_
     push_cast
     have hrl:=hrr.1
     have hI:=hIH () rest hrl hlt hrr.2 hre
     obtain⟨ww,hww⟩: ∃w,Int.tmod (yK x rest inn.length) 2=w:=⟨_,rfl⟩
     have hww2:ww=0∨ww=1:=by
      have h3:=Je hx rest inn.length (Nat.le_refl _)
      obtain⟨v9,hv9,hb9⟩:=hre
      have h1:=YA (x:=x) (inn:=rest) inn.length v9 hv9 hb9
      have h2:=hx.pr v9 hv9
      rw [←hww,Xy (by omega)]
      omega
     rw [hww]at hI
     have hlo1:=fun h:ww=who=>(zJX (x:=x) hrl h).trans hld
     have hlo2:=fun h: ¬ww=who=>(zJY (x:=x) (rest:=rest) hw2 hww2 h).trans hld
     have hwl:=Qx x inn.length rest ww
     have hWo:=wg rest (wiM x inn.length rest ww) (by omega) (by omega)
     refine zL fun K hK=> ?_
     refine zj false zO zN ?_ rfl ?_
     ·kernel_rfl
     all_goals refine yF 3 fun K9 hK9=> ?_
     all_goals push_cast
     all_goals repeat'(first|(apply zP<;>(intro hg;push_cast at hg))|(refine⟨_,_,hI,?_⟩;push_cast)|apply And.intro|(intro hg;push_cast at hg))
     all_goals try exact gA
     refine hK9 _ ?_;clear hK9 K9
     all_goals push_cast
     all_goals repeat'(first|(apply zP<;>(intro hg;push_cast at hg))|(refine⟨_,_,hI,?_⟩;push_cast)|apply And.intro|(intro hg;push_cast at hg))
     all_goals try exact gA
     refine hK _ ?_;clear hK K
     refine vA 4 13 (Nat.le_of_ble_eq_true rfl) ?_
     push_cast
     refine zL fun K hK=> ?_
     refine zM zO zN [240] rfl ?_
     push_cast
     repeat' apply And.intro
     all_goals try exact gB
     refine hK _ ?_;clear hK K
     refine zL fun K5 hK5=> ?_
     refine zL fun K hK=> ?_
     refine zM zO zN [] rfl ?_
     push_cast
     repeat' apply And.intro
     all_goals try exact gB
     refine hK _ ?_;clear hK K
     refine zT rfl (fun hc=> ?_) (fun hc=> ?_)<;>(try simp only [push_cast]at hc)
     ·
      refine zM zO zN [] rfl ?_
      all_goals refine zl 3 fun K9 hK9=> ?_
      all_goals push_cast
      all_goals repeat'(first|(apply zP<;>(intro hg;push_cast at hg))|(refine⟨_,hWo,?_⟩;push_cast)|apply And.intro|(intro hg;push_cast at hg))
      all_goals try exact gA
      refine hK9 _ ?_;clear hK9 K9
      all_goals push_cast
      all_goals repeat'(first|(apply zP<;>(intro hg;push_cast at hg))|(refine⟨_,hWo,?_⟩;push_cast)|apply And.intro|(intro hg;push_cast at hg))
      all_goals try exact gA
      refine hK5 _ ?_
      refine zL fun K6 hK6=> ?_
      first|rw [hlo1 (by first|assumption|exact trivial)]|rw [hlo2 (by first|assumption|exact trivial)]
      have hCo:=vQ lost (by omega)
      refine zL fun K hK=> ?_
      refine zM zO zN [] rfl ?_
      all_goals refine zl 2 fun K9 hK9=> ?_
      all_goals push_cast
      all_goals repeat'(first|(apply zP<;>(intro hg;push_cast at hg))|(refine⟨_,hCo,?_⟩;push_cast)|apply And.intro|(intro hg;push_cast at hg))
      all_goals try exact gA
      refine hK9 _ ?_;clear hK9 K9
      all_goals push_cast
      all_goals repeat'(first|(apply zP<;>(intro hg;push_cast at hg))|(refine⟨_,hCo,?_⟩;push_cast)|apply And.intro|(intro hg;push_cast at hg))
      all_goals try exact gA
      refine hK _ ?_;clear hK K
      refine zT rfl (fun hc=> ?_) (fun hc=> ?_)<;>(try simp only [push_cast]at hc)
      ·
       refine zL fun K hK=> ?_
       refine zM zO zN [] rfl ?_
       push_cast
       repeat' apply And.intro
       all_goals try exact gB
       refine hK _ ?_;clear hK K
       refine zW ?_
       refine⟨Or.inl rfl,?_⟩
       push_cast [VC,za,vU,yB,yZ]
       have hfin:=hwn.all hx rfl hlv htop.1 hpar hmax hgd.symm hrs.symm hlv2 (fun v hv=>ZD (l:=lost) (by first|assumption|(simpa using hc)) v (by omega))
       rw [←hfin]
       all_goals first|rfl|exact⟨⟨rfl,rfl⟩,rfl⟩|(simp [hnl];done)|skip
      ·
       refine zU ?_
       refine hK6 _ ?_
       have hsm:anT lost=true:=by simpa using hc
       obtain⟨att2,ha2⟩: ∃a,yX x inn.length now (1 - who) lost=a:=⟨_,rfl⟩
       have hP2:=hPu now (1 - who) lost hnl hlol (fun v hv hb=>by rw [←hld]at hb;exact zA4 hnl hrs hv hb)
       have hnx:=hwn.next hx hw2 hrs.symm hlv2
       have hls:=hwn.lt hrs.symm hlv2 (by obtain⟨v9,h9,h8⟩:=vb.1 hsm;exact⟨v9,by omega,h8⟩)
       have hal2:=wC x inn.length now (1 - who) lost
       rw [ha2]at hP2 hnx hls hal2
       obtain⟨now2,hn2d⟩: ∃a,yJ now att2=a:=⟨_,rfl⟩
       have hW3:=wg now att2 (by omega) (by omega)
       rw [hn2d]at hW3 hnx hls
       rw [←hTk () now hnl]at hP2 hW3
       have hnl2:=hnx.len
       have hCn:=vQ now2 (by omega)
       refine zL fun K hK=> ?_
       refine zj false zO zN ?_ rfl ?_
       ·kernel_rfl
       all_goals refine yF 7 fun K9 hK9=> ?_
       all_goals push_cast
       all_goals repeat'(first|(apply zP<;>(intro hg;push_cast at hg))|(refine⟨_,_,hP2,?_⟩;push_cast)|apply And.intro|(intro hg;push_cast at hg))
       all_goals try exact gA
       refine hK9 _ ?_;clear hK9 K9
       all_goals refine yF 1 fun K9 hK9=> ?_
       all_goals push_cast
       all_goals repeat'(first|(apply zP<;>(intro hg;push_cast at hg))|(refine⟨_,hW3,?_⟩;push_cast)|apply And.intro|(intro hg;push_cast at hg))
       all_goals try exact gA
       refine hK9 _ ?_;clear hK9 K9
       all_goals push_cast
       all_goals repeat'(first|(apply zP<;>(intro hg;push_cast at hg))|(refine⟨_,_,hP2,?_⟩;push_cast)|(refine⟨_,hW3,?_⟩;push_cast)|apply And.intro|(intro hg;push_cast at hg))
       all_goals try exact gA
       refine hK _ ?_;clear hK K
       refine vA 4 9 (Nat.le_of_ble_eq_true rfl) ?_
       push_cast
       refine zL fun K hK=> ?_
       refine zM zO zN [] rfl ?_
       all_goals refine zl 2 fun K9 hK9=> ?_
       all_goals push_cast
       all_goals repeat'(first|(apply zP<;>(intro hg;push_cast at hg))|(refine⟨_,hCn,?_⟩;push_cast)|apply And.intro|(intro hg;push_cast at hg))
       all_goals try exact gA
       refine hK9 _ ?_;clear hK9 K9
       all_goals push_cast
       all_goals repeat'(first|(apply zP<;>(intro hg;push_cast at hg))|(refine⟨_,hCn,?_⟩;push_cast)|apply And.intro|(intro hg;push_cast at hg))
       all_goals try exact gA
       refine hK _ ?_;clear hK K
       refine zT rfl (fun hc=> ?_) (fun hc=> ?_)<;>(try simp only [push_cast]at hc)
       ·
        refine zL fun K hK=> ?_
        refine zM zO zN [] rfl ?_
        push_cast
        repeat' apply And.intro
        all_goals try exact gB
        refine hK _ ?_;clear hK K
        refine zW ?_
        refine⟨Or.inl rfl,?_⟩
        push_cast [VC,za,vU,yB,yZ]
        have hfin:=WnI.none hx rfl hlv hw2 hnx (fun v hv=>ZD (l:=now2) (by first|assumption|(simpa using hc)) v (by omega))
        rw [←hfin]
        all_goals first|rfl|(simp [hnl2];done)|skip
       ·
        refine zU ?_
        refine hL0 _ ⟨now2,⟨hnx, .inr (by
          rcases hdn with h9|h9
          ·have h8:yk now inn.length=yk inn inn.length:=congrArg (fun l=>yk l inn.length) h9
           omega
          ·omega)⟩,hls,?_⟩
        refine zX rfl ?_ ?_ ?_<;>push_cast [zg,zf]
        all_goals first|rfl|(rw [hnl2];done)|skip
     ·
      refine zU ?_
      refine hK5 _ ?_
      refine zL fun K6 hK6=> ?_
      first|rw [hlo1 (by first|assumption|exact trivial)]|rw [hlo2 (by first|assumption|exact trivial)]
      have hCo:=vQ lost (by omega)
      refine zL fun K hK=> ?_
      refine zM zO zN [] rfl ?_
      all_goals refine zl 2 fun K9 hK9=> ?_
      all_goals push_cast
      all_goals repeat'(first|(apply zP<;>(intro hg;push_cast at hg))|(refine⟨_,hCo,?_⟩;push_cast)|apply And.intro|(intro hg;push_cast at hg))
      all_goals try exact gA
      refine hK9 _ ?_;clear hK9 K9
      all_goals push_cast
      all_goals repeat'(first|(apply zP<;>(intro hg;push_cast at hg))|(refine⟨_,hCo,?_⟩;push_cast)|apply And.intro|(intro hg;push_cast at hg))
      all_goals try exact gA
      refine hK _ ?_;clear hK K
      refine zT rfl (fun hc=> ?_) (fun hc=> ?_)<;>(try simp only [push_cast]at hc)
      ·
       refine zL fun K hK=> ?_
       refine zM zO zN [] rfl ?_
       push_cast
       repeat' apply And.intro
       all_goals try exact gB
       refine hK _ ?_;clear hK K
       refine zW ?_
       refine⟨Or.inl rfl,?_⟩
       push_cast [VC,za,vU,yB,yZ]
       have hfin:=hwn.all hx rfl hlv htop.1 hpar hmax hgd.symm hrs.symm hlv2 (fun v hv=>ZD (l:=lost) (by first|assumption|(simpa using hc)) v (by omega))
       rw [←hfin]
       all_goals first|rfl|exact⟨⟨rfl,rfl⟩,rfl⟩|(simp [hnl];done)|skip
      ·
       refine zU ?_
       refine hK6 _ ?_
       have hsm:anT lost=true:=by simpa using hc
       obtain⟨att2,ha2⟩: ∃a,yX x inn.length now (1 - who) lost=a:=⟨_,rfl⟩
       have hP2:=hPu now (1 - who) lost hnl hlol (fun v hv hb=>by rw [←hld]at hb;exact zA4 hnl hrs hv hb)
       have hnx:=hwn.next hx hw2 hrs.symm hlv2
       have hls:=hwn.lt hrs.symm hlv2 (by obtain⟨v9,h9,h8⟩:=vb.1 hsm;exact⟨v9,by omega,h8⟩)
       have hal2:=wC x inn.length now (1 - who) lost
       rw [ha2]at hP2 hnx hls hal2
       obtain⟨now2,hn2d⟩: ∃a,yJ now att2=a:=⟨_,rfl⟩
       have hW3:=wg now att2 (by omega) (by omega)
       rw [hn2d]at hW3 hnx hls
       rw [←hTk () now hnl]at hP2 hW3
       have hnl2:=hnx.len
       have hCn:=vQ now2 (by omega)
       refine zL fun K hK=> ?_
       refine zj false zO zN ?_ rfl ?_
       ·kernel_rfl
       all_goals refine yF 7 fun K9 hK9=> ?_
       all_goals push_cast
       all_goals repeat'(first|(apply zP<;>(intro hg;push_cast at hg))|(refine⟨_,_,hP2,?_⟩;push_cast)|apply And.intro|(intro hg;push_cast at hg))
       all_goals try exact gA
       refine hK9 _ ?_;clear hK9 K9
       all_goals refine yF 1 fun K9 hK9=> ?_
       all_goals push_cast
       all_goals repeat'(first|(apply zP<;>(intro hg;push_cast at hg))|(refine⟨_,hW3,?_⟩;push_cast)|apply And.intro|(intro hg;push_cast at hg))
       all_goals try exact gA
       refine hK9 _ ?_;clear hK9 K9
       all_goals push_cast
       all_goals repeat'(first|(apply zP<;>(intro hg;push_cast at hg))|(refine⟨_,_,hP2,?_⟩;push_cast)|(refine⟨_,hW3,?_⟩;push_cast)|apply And.intro|(intro hg;push_cast at hg))
       all_goals try exact gA
       refine hK _ ?_;clear hK K
       refine vA 4 9 (Nat.le_of_ble_eq_true rfl) ?_
       push_cast
       refine zL fun K hK=> ?_
       refine zM zO zN [] rfl ?_
       all_goals refine zl 2 fun K9 hK9=> ?_
       all_goals push_cast
       all_goals repeat'(first|(apply zP<;>(intro hg;push_cast at hg))|(refine⟨_,hCn,?_⟩;push_cast)|apply And.intro|(intro hg;push_cast at hg))
       all_goals try exact gA
       refine hK9 _ ?_;clear hK9 K9
       all_goals push_cast
       all_goals repeat'(first|(apply zP<;>(intro hg;push_cast at hg))|(refine⟨_,hCn,?_⟩;push_cast)|apply And.intro|(intro hg;push_cast at hg))
       all_goals try exact gA
       refine hK _ ?_;clear hK K
       refine zT rfl (fun hc=> ?_) (fun hc=> ?_)<;>(try simp only [push_cast]at hc)
       ·
        refine zL fun K hK=> ?_
        refine zM zO zN [] rfl ?_
        push_cast
        repeat' apply And.intro
        all_goals try exact gB
        refine hK _ ?_;clear hK K
        refine zW ?_
        refine⟨Or.inl rfl,?_⟩
        push_cast [VC,za,vU,yB,yZ]
        have hfin:=WnI.none hx rfl hlv hw2 hnx (fun v hv=>ZD (l:=now2) (by first|assumption|(simpa using hc)) v (by omega))
        rw [←hfin]
        all_goals first|rfl|(simp [hnl2];done)|skip
       ·
        refine zU ?_
        refine hL0 _ ⟨now2,⟨hnx, .inr (by
          rcases hdn with h9|h9
          ·have h8:yk now inn.length=yk inn inn.length:=congrArg (fun l=>yk l inn.length) h9
           omega
          ·omega)⟩,hls,?_⟩
        refine zX rfl ?_ ?_ ?_<;>push_cast [zg,zf]
        all_goals first|rfl|(rw [hnl2];done)|skip
    ·
     refine vA 4 12 (Nat.le_of_ble_eq_true rfl) ?_
     push_cast
     have hrl:=hrr.1
     obtain⟨hno,hq1,hq2,hq3⟩:=zGO (x:=x) (who:=who) hrl hre
     rw [hld]at hq1 hq2 hq3
     have hlo1:=fun h:True=>hq1
     have hlo2:=fun h:True=>hq2
     have hAe:=zIW rest (by omega) hno
     have hWo:=wg rest rest (by omega) rfl
     refine zL fun K hK=> ?_
     refine XP (jC Tryz.prog tyT) Ux (some 71) zO zN [208] rfl ?_
     all_goals push_cast
     repeat'(first|exact hAe|apply And.intro)
     all_goals first|exact True.intro|exact rfl|omega|skip
     refine hK _ ?_;clear hK K
     refine zL fun K hK=> ?_
     refine zM zO zN [240] rfl ?_
     push_cast
     repeat' apply And.intro
     all_goals try exact gB
     refine hK _ ?_;clear hK K
     refine zL fun K5 hK5=> ?_
     refine zL fun K hK=> ?_
     refine zM zO zN [] rfl ?_
     push_cast
     repeat' apply And.intro
     all_goals try exact gB
     refine hK _ ?_;clear hK K
     refine zT rfl (fun hc=> ?_) (fun hc=> ?_)<;>(try simp only [push_cast]at hc)
     ·
      refine zM zO zN [] rfl ?_
      all_goals refine zl 3 fun K9 hK9=> ?_
      all_goals push_cast
      all_goals repeat'(first|(apply zP<;>(intro hg;push_cast at hg))|(refine⟨_,hWo,?_⟩;push_cast)|apply And.intro|(intro hg;push_cast at hg))
      all_goals try exact gA
      refine hK9 _ ?_;clear hK9 K9
      all_goals push_cast
      all_goals repeat'(first|(apply zP<;>(intro hg;push_cast at hg))|(refine⟨_,hWo,?_⟩;push_cast)|apply And.intro|(intro hg;push_cast at hg))
      all_goals try exact gA
      refine hK5 _ ?_
      refine zL fun K6 hK6=> ?_
      first|rw [hlo1 (by first|assumption|exact trivial)]|rw [hlo2 (by first|assumption|exact trivial)]
      have hCo:=vQ lost (by omega)
      refine zL fun K hK=> ?_
      refine zM zO zN [] rfl ?_
      all_goals refine zl 2 fun K9 hK9=> ?_
      all_goals push_cast
      all_goals repeat'(first|(apply zP<;>(intro hg;push_cast at hg))|(refine⟨_,hCo,?_⟩;push_cast)|apply And.intro|(intro hg;push_cast at hg))
      all_goals try exact gA
      refine hK9 _ ?_;clear hK9 K9
      all_goals push_cast
      all_goals repeat'(first|(apply zP<;>(intro hg;push_cast at hg))|(refine⟨_,hCo,?_⟩;push_cast)|apply And.intro|(intro hg;push_cast at hg))
      all_goals try exact gA
      refine hK _ ?_;clear hK K
      refine zT rfl (fun hc=> ?_) (fun hc=> ?_)
      rotate_left
      ·exfalso;(rw [hq3]at hc;exact absurd hc (by decide))
      refine zL fun K hK=> ?_
      refine zM zO zN [] rfl ?_
      push_cast
      repeat' apply And.intro
      all_goals try exact gB
      refine hK _ ?_;clear hK K
      refine zW ?_
      refine⟨Or.inl rfl,?_⟩
      push_cast [VC,za,vU,yB,yZ]
      have hfin:=hwn.all hx rfl hlv htop.1 hpar hmax hgd.symm hrs.symm hlv2 (fun v hv=>ZD (l:=lost) (by first|assumption|(simpa using hc)) v (by omega))
      rw [←hfin]
      all_goals first|rfl|exact⟨⟨rfl,rfl⟩,rfl⟩|(simp [hnl];done)|skip
     ·
      refine zU ?_
      refine hK5 _ ?_
      refine zL fun K6 hK6=> ?_
      first|rw [hlo1 (by first|assumption|exact trivial)]|rw [hlo2 (by first|assumption|exact trivial)]
      have hCo:=vQ lost (by omega)
      refine zL fun K hK=> ?_
      refine zM zO zN [] rfl ?_
      all_goals refine zl 2 fun K9 hK9=> ?_
      all_goals push_cast
      all_goals repeat'(first|(apply zP<;>(intro hg;push_cast at hg))|(refine⟨_,hCo,?_⟩;push_cast)|apply And.intro|(intro hg;push_cast at hg))
      all_goals try exact gA
      refine hK9 _ ?_;clear hK9 K9
      all_goals push_cast
      all_goals repeat'(first|(apply zP<;>(intro hg;push_cast at hg))|(refine⟨_,hCo,?_⟩;push_cast)|apply And.intro|(intro hg;push_cast at hg))
      all_goals try exact gA
      refine hK _ ?_;clear hK K
      refine zT rfl (fun hc=> ?_) (fun hc=> ?_)
      rotate_left
      ·exfalso;(rw [hq3]at hc;exact absurd hc (by decide))
      refine zL fun K hK=> ?_
      refine zM zO zN [] rfl ?_
      push_cast
      repeat' apply And.intro
      all_goals try exact gB
      refine hK _ ?_;clear hK K
      refine zW ?_
      refine⟨Or.inl rfl,?_⟩
      push_cast [VC,za,vU,yB,yZ]
      have hfin:=hwn.all hx rfl hlv htop.1 hpar hmax hgd.symm hrs.symm hlv2 (fun v hv=>ZD (l:=lost) (by first|assumption|(simpa using hc)) v (by omega))
      rw [←hfin]
      all_goals first|rfl|exact⟨⟨rfl,rfl⟩,rfl⟩|(simp [hnl];done)|skip
end Go.Proofs.YthepmdkpbjfdcaaGreat
