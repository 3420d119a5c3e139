/- the memory of the game of records: the reference's side -/
import Derived.Test.YtcleaokoimhedaaGreatB20zmo
import Derived.Test.YtcleaokoimhedaaGreatB19zmo
import Derived.Test.YtcleaokoimhedaaGreatB23zmo
import Derived.Test.YtcleaokoimhedaaGreatB14zmo
namespace Go.Proofs.YtcleaokoimhedaaGreat
open Nat renaming reduceMod → zA, reduceMul → zB, reduceDiv → zC, reduceAdd → zD, reduceSub → zE, reduceEqDiff → zF, reduceBEq → zG, reduceLT → zH, reduceLeDiff → zI
open Go.RowKit
set_option linter.unusedVariables false
set_option linter.unusedSimpArgs false
set_option maxRecDepth 20000 in
set_option maxHeartbeats 4000000 in
theorem wz (rs:List (List Int))(hrs:qV 1048576 rs)(r:List Int)(hr:r.length≤1048576):Fn Tryz.prog tyT 22 [.c (DII rs), .c (DI r)] [.c (.int .i64 (qe rs r:Nat))]:=by
 have h1:=hrs.1
 have hrw: ∀v,(gl rs v).length≤1048576:=fun v=>Xs hrs v
 refine θH (ts:= [4]) Tryz.func22 Tryz.ntmps22 ?_
 push_cast
 refine θA ?_
 refine zL fun K1 hK1=> ?_
 refine θA ?_
 refine zV ?_
 refine zg [4,5,6,7,8,9,10,11,12,13,14,15,16,17,18] [] (fun(k:Nat)=> [(5, .int .i64 k)]) (fun k=> []) (fun k=> []) (fun k=>k≤rs.length∧∀j,j<k→¬gl rs j=r) (fun k=>rs.length - k) 0 ?_ ⟨Nat.zero_le _,fun j hj=>absurd hj (Nat.not_lt_zero j)⟩ ?_
 ·
  exact θX
 ·rintro k ⟨hk,hall⟩ KL0 hL0
  have hrk:=hrw k
  push_cast
  refine zL fun K2 hK2=> ?_
  refine θA ?_
  refine θU (fun hc=> ?_) fun hc=> ?_
  ·
   refine zU (hK2 _ ?_)
   refine zL fun K3 hK3=> ?_
   refine zV ?_
   refine θL fun K hK=> ?_
   all_goals refine zm 6 fun K9 hK9=> ?_
   all_goals push_cast
   all_goals repeat'(first|(apply zP<;>(intro hg;push_cast at hg))|(refine⟨_,ZV (gl rs k) r (hrw k) hr,?_⟩;push_cast)|apply And.intro|(intro hg;push_cast at hg))
   all_goals first|exact gA|(exact zQ (by omega))|skip
   refine hK9 _ ?_;clear hK9 K9
   all_goals push_cast
   all_goals repeat'(first|(apply zP<;>(intro hg;push_cast at hg))|(refine⟨_,ZV (gl rs k) r (hrw k) hr,?_⟩;push_cast)|apply And.intro|(intro hg;push_cast at hg))
   all_goals first|exact gA|(exact zQ (by omega))|skip
   refine hK _ ?_;clear hK K
   refine θU (fun hc=> ?_) fun hc=> ?_
   ·
    refine θA ?_
    refine zZ ⟨Or.inl rfl,?_⟩
    push_cast [zd]
    rw [zLq (by omega) hall (by first|exact of_decide_eq_true hc|exact hc|(simpa using hc))]
   ·
    refine zU (hK3 _ ?_)
    refine θB ?_
    refine hL0 _ ⟨k+1,⟨by omega,fun j hj=>by
     by_cases e:j=k
     ·subst e;first|exact of_decide_eq_false hc|exact hc|(simpa using hc)
     ·exact hall j (by omega)⟩,by omega,?_⟩
    exact θX
  ·
   refine zh (hK1 _ ?_)
   refine θA ?_
   refine zZ ⟨Or.inl rfl,?_⟩
   push_cast [zd]
   rw [zLr (fun j hj=>hall j (by omega))]
set_option maxRecDepth 20000 in
set_option maxHeartbeats 8000000 in
theorem zCA (a:Ar)(ha:a.Ln 1048576)(ps:List Pr)(hp:PLn 1048576 ps)(s:Int):Fn Tryz.prog tyT 6 [.agg (dAr a), .c (.lst 64 (dII (ilv ps))), .c (.int .i64 s)] [.agg (dMe (Vr a ps s)), .c (.bool (Zd a ps s))]:=by
 have hno:=ha.owner
 have hnn:=ha.next.1
 unfold LnI at hno
 have hpl0:=hp.1
 have hli:=yq ps
 have hRc:=zCD a ha ps hp s
 have hGl:=zFc (a:=a) (ps:=ps) (s:=s)
 have hQl:=zFd (a:=a) (ps:=ps) (s:=s)
 have hgl1:=hGl.a.owner
 have hgl2:=hGl.a.next.1
 have hgl3:=hGl.prio
 have hql1:=hQl.1
 unfold LnI at hgl1 hgl3
 unfold dPa dAr at hRc
 unfold dAr dMe
 refine qm (fn:=Tryz.f6) (rs:= [.cell 6 30, .tmp 7]) zO zN Tryz.func6 (by kernel_rfl) rfl rfl (by rw [Tryz.ntmps6];exact Nat.le_of_ble_eq_true rfl) rfl (by simp only [szA,List.mem_cons,List.not_mem_nil,or_false,forall_eq_or_imp,forall_eq,VT.cells,szL];try decide) ?_
 rw [Tryz.ntmps6]
 push_cast
 refine θA ?_
 refine θL fun K hK=> ?_
 refine θD 4 ?_
 refine θE hK ?_
 refine zL fun K1 hK1=> ?_
 refine θA ?_
 refine θU (fun hc=> ?_) fun hc=> ?_
 ·
  refine θA ?_
  refine zZ ⟨Or.inl rfl,?_⟩
  push_cast [zd,zo,yA]
  rw [jX (zAV (by first|exact hc|(simpa using hc))),zAV (by first|exact hc|(simpa using hc))]
  all_goals first|rfl|exact⟨⟨rfl,rfl⟩,⟨rfl,rfl⟩,rfl⟩|exact⟨rfl,rfl⟩|exact⟨⟨rfl,rfl⟩,rfl,rfl⟩|(simp;done)|skip
 ·
  refine zU (hK1 _ ?_)
  have hb1:rgB a ps s=true:=by first|assumption|(simpa using hc)
  have hSv:=zGw (rgG a ps s) hGl (ZE hb1)
  obtain⟨o1,o2,o3⟩:=Ug hb1
  have hWl:=qL (rgG a ps s)
  have hPll:=VR (rgG a ps s)
  have hPlr:=fun u hu=>zDd (ZE hb1) (u:=u) hu
  have hpos:=(yQ (yJ (ZE hb1)).1).1
  have hRl:=fun{j:Nat} h=>zFX (ps:=rgP a ps s) hQl (j:=j) h
  have hRle:=fun{j:Nat} h=>Wc (ps:=rgP a ps s) (j:=j) h
  have hal:=yQ (xz (wH hb1).1).1
  have hpk:=(xz (wH hb1).1).2.1
  have hmy:=fun h=>zFP (a:=a) (prs:=ps) (s:=s) hb1 h
  have hmn:=fun h=>zFO (a:=a) (prs:=ps) (s:=s) h
  have hmm:mofM a ps s=⟨mfN ps (xH (rgP a ps s) (rgP a ps s).length) a.owner.length (rgP a ps s) (rgP a ps s).length,mfC a (vK (rgG a ps s)) (xH (rgP a ps s) (rgP a ps s).length) a.owner.length (rgP a ps s) (rgP a ps s).length⟩:=rfl
  have hmR:=fun h=>ky (a:=a) (prs:=ps) (s:=s) h
  have hmN:=fun h=>jX (a:=a) (prs:=ps) (s:=s) h
  unfold dPa at hSv
  generalize Zd a ps s=MB at*
  generalize Vr a ps s=MR at*
  rw [hmm]at hmR
  generalize rgP a ps s=PS at*
  generalize vK (rgG a ps s)=PL at*
  generalize zj (rgG a ps s)=WO at*
  generalize rgG a ps s=G at*
  refine θL fun K hK=> ?_
  refine θD 2 ?_
  refine θE hK ?_
  refine zL fun K2 hK2=> ?_
  refine θA ?_
  refine θU (fun hc=> ?_) fun hc=> ?_
  ·
   refine θA ?_
   refine zZ ⟨Or.inl rfl,?_⟩
   push_cast [zd,zo,yA]
   have hMB:=hmn (by omega)
   have hMR:=hmN hMB
   rw [hMR,hMB]
   all_goals first|rfl|exact⟨⟨rfl,rfl⟩,⟨rfl,rfl⟩,rfl⟩|exact⟨rfl,rfl⟩|exact⟨⟨rfl,rfl⟩,rfl,rfl⟩|(simp;done)|skip
  ·
   refine zU (hK2 _ ?_)
   have hw0:gi WO 0=0:=by omega
   have hMB:=hmy hw0
   have hMR:=hmR hMB
   refine θN ?_
   refine zL fun K3 hK3=> ?_
   refine θA ?_
   refine zV ?_
   refine zF4 22 12 192 (Nat.le_of_ble_eq_true rfl) ?_
   push_cast
   refine Uv 192 ?_
   refine Uv 144 ?_
   push_cast
   refine zg [8,11,12,13,38,39,40,41,42,43,44,45,46,47,48,49,50,51,52,53,54,55,56,57,58,59,60,61] [192,144,128,129,130,176,177] (fun(q:Nat)=> [(13, .int .i64 q),(12, .sl 192 [] 0 (xH PS q).length 22),(8, .bp 8 0),(11, .bp 11 0)]) (fun q=> [(8,[.sl 128 [] 0 G.a.owner.length 2, .sl 129 [] 0 G.a.next.length 22, .sl 130 [] 0 G.prio.length 2]),(11,[.sl 176 [] 0 WO.length 2, .sl 177 [] 0 PL.length 2])]) (fun q=> [(192,⟨.top,22,dII (xH PS q),none⟩),(144,⟨.top,59,xF PS,none⟩),(128,⟨.ex,2,dI G.a.owner,none⟩),(129,⟨.ex,22,dII G.a.next,none⟩),(130,⟨.ex,2,dI G.prio,none⟩),(176,⟨.ex,2,dI WO,none⟩),(177,⟨.ex,2,dI PL,none⟩)]) (fun q=>q≤PS.length) (fun q=>PS.length - q) 0 ?_ (by omega) ?_
   ·
    rw [Uc,show dII []= []from rfl]
    exact θX
    all_goals first|rfl|exact⟨⟨rfl,rfl⟩,⟨rfl,rfl⟩,rfl⟩|exact⟨rfl,rfl⟩|exact⟨⟨rfl,rfl⟩,rfl,rfl⟩|(simp;done)|skip
   ·rintro q hq KL0 hL0
    push_cast
    refine zL fun K4 hK4=> ?_
    refine θA ?_
    refine θU (fun hc=> ?_) fun hc=> ?_
    ·
     refine zU (hK4 _ ?_)
     refine zL fun K5 hK5=> ?_
     refine zV ?_
     have hP:=o3 _ (qH (ps:=PS) (k:=q) (by omega))
     obtain⟨⟨hP1,hP2⟩,hP3⟩:=hP
     have hPl:=(xB hP3).1
     have hrle:=hRle (j:=q) (by omega)
     by_cases hb:qe (xH PS q) (gq PS q).record=(xH PS q).length
     ·
      have hP:=o3 _ (qH (ps:=PS) (k:=q) (by omega))
      obtain⟨⟨hP1,hP2⟩,hP3⟩:=hP
      have hPl:=(xB hP3).1
      have hrle:=hRle (j:=q) (by omega)
      refine θL fun K hK=> ?_
      all_goals refine zm 7 fun K9 hK9=> ?_
      all_goals push_cast
      all_goals repeat'(first|(apply zP<;>(intro hg;push_cast at hg))|(refine⟨_,wz (xH PS q) (hRl (by omega)) (gq PS q).record (by omega),?_⟩;push_cast)|apply And.intro|(intro hg;push_cast at hg))
      all_goals first|exact gA|(exact zX (by omega))|(exact zQ (by omega))|skip
      refine hK9 _ ?_;clear hK9 K9
      all_goals push_cast
      all_goals repeat'(first|(apply zP<;>(intro hg;push_cast at hg))|(refine⟨_,wz (xH PS q) (hRl (by omega)) (gq PS q).record (by omega),?_⟩;push_cast)|apply And.intro|(intro hg;push_cast at hg))
      all_goals first|exact gA|(exact zX (by omega))|(exact zQ (by omega))|skip
      refine hK _ ?_;clear hK K
      refine zT rfl (fun hc=> ?_) (fun hc=> ?_)
      rotate_left
      ·exfalso;first|(cases hc;done)|(simp only [push_cast]at hc;done)|(simp only [push_cast]at hc;omega)|omega
      have hrle:=hRle (j:=q) (by omega)
      refine jy 6 [] zO zN ?_ rfl rfl fun K9 hK9=> ?_
      ·kernel_rfl
      all_goals push_cast
      all_goals repeat'(first|(apply zP<;>(intro hg;push_cast at hg))|apply And.intro|(intro hg;push_cast at hg))
      all_goals first|exact gA|(exact zX (by omega))|(exact zQ (by omega))|skip
      refine hK9 _ ?_;clear hK9 K9
      all_goals push_cast
      all_goals repeat'(first|(apply zP<;>(intro hg;push_cast at hg))|apply And.intro|(intro hg;push_cast at hg))
      all_goals first|exact gA|(exact zX (by omega))|(exact zQ (by omega))|skip
      refine hK5 _ ?_
      refine θB ?_
      refine hL0 _ ⟨q+1,by omega,by omega,?_⟩
      rw [Wd (by omega),Wv hb]
      refine zY rfl ?_ ?_ ?_<;>push_cast [zb,za]
      all_goals first|rfl|(rw [List.length_append];rfl)|skip
     ·
      have hP:=o3 _ (qH (ps:=PS) (k:=q) (by omega))
      obtain⟨⟨hP1,hP2⟩,hP3⟩:=hP
      have hPl:=(xB hP3).1
      have hrle:=hRle (j:=q) (by omega)
      refine θL fun K hK=> ?_
      all_goals refine zm 7 fun K9 hK9=> ?_
      all_goals push_cast
      all_goals repeat'(first|(apply zP<;>(intro hg;push_cast at hg))|(refine⟨_,wz (xH PS q) (hRl (by omega)) (gq PS q).record (by omega),?_⟩;push_cast)|apply And.intro|(intro hg;push_cast at hg))
      all_goals first|exact gA|(exact zX (by omega))|(exact zQ (by omega))|skip
      refine hK9 _ ?_;clear hK9 K9
      all_goals push_cast
      all_goals repeat'(first|(apply zP<;>(intro hg;push_cast at hg))|(refine⟨_,wz (xH PS q) (hRl (by omega)) (gq PS q).record (by omega),?_⟩;push_cast)|apply And.intro|(intro hg;push_cast at hg))
      all_goals first|exact gA|(exact zX (by omega))|(exact zQ (by omega))|skip
      refine hK _ ?_;clear hK K
      refine zT rfl (fun hc=> ?_) (fun hc=> ?_)
      skip
      ·exfalso;first|(cases hc;done)|(simp only [push_cast]at hc;done)|(simp only [push_cast]at hc;omega)|omega
      refine zU (hK5 _ ?_)
      refine θB ?_
      refine hL0 _ ⟨q+1,by omega,by omega,?_⟩
      rw [Wd (by omega),Ww hb]
      exact θX
      all_goals first|rfl|(rw [List.length_append];rfl)|skip
    ·
     refine zh ?_
     have hqq:q=PS.length:=by omega
     subst hqq
     have hRh:=fun q (hq:q<PS.length)=>zDj hq
     have hR0:=hRl (Nat.le_refl _)
     have hR1:=hRle (Nat.le_refl _)
     generalize xH PS PS.length=R at*
     have hNm:=fun r hr=>wz R hR0 r hr
     have hEm:=zET R.length a.owner.length (by omega) (by omega)
     unfold dMe emM at hEm
     refine hK3 _ ?_
     refine θL fun K hK=> ?_
     refine θD 6 ?_
     refine θE hK ?_
     refine zL fun K6 hK6=> ?_
     refine qE [.sl 22, .sl 22] 14 ?_
     push_cast
     refine θA ?_
     refine zV ?_
     refine zg [14,15,16,17,68,69,70,71,72,73,74,75,76,77,78,79,80,81,82,83,84,85,86,87,88,89,90,91,92,93,94,95,96,97,98,99,100,101,102,103,104,105,106,107,108,109,110,111,112,113,114,115,116,117,118,119,120,121,122,123,124,125,126,127,128,129] [224,225] (fun(q:Nat)=> [(15, .int .i64 q),(14, .bp 14 0)]) (fun q=> [(14,[.sl 224 [] 0 R.length 22, .sl 225 [] 0 R.length 22])]) (fun q=> [(224,⟨.ex,22,dII (mfN ps R a.owner.length PS q),none⟩),(225,⟨.ex,22,dII (mfC a PL R a.owner.length PS q),none⟩)]) (fun q=>q≤PS.length) (fun q=>PS.length - q) 0 ?_ (by omega) ?_
     ·
      rw [zKX,zKW]
      refine zY rfl ?_ ?_ ?_<;>push_cast [zb,za]
      all_goals first|rfl|exact⟨rfl,rfl⟩|(rw [List.length_replicate,List.length_replicate])|skip
     ·rintro q hq KL1 hL1
      push_cast
      refine zL fun K7 hK7=> ?_
      refine θA ?_
      refine θU (fun hc=> ?_) fun hc=> ?_
      ·
       refine zU (hK7 _ ?_)
       refine zL fun K8 hK8=> ?_
       refine zV ?_
       have hP:=o3 _ (qH (ps:=PS) (k:=q) (by omega))
       obtain⟨⟨hP1,hP2⟩,hP3⟩:=hP
       have hPl:=(xB hP3).1
       have hs1:=WX (prs:=ps) (R:=R) (n:=a.owner.length) (ps:=PS) (j:=q) (by omega)
       have hs2:=Qu (a:=a) (pl:=PL) (R:=R) (n:=a.owner.length) (ps:=PS) q
       have hh:=hRh q (by omega)
       have hs5:=hs1.1
       have hs6:=hs2.1
       have hs7:=hs1.2 _ hh
       have hs8:=hs2.2 _ hh
       have hNx:=Vm ps hp (gq PS q).record (gq PS q).at_ hP3
       have hNr:=uG (ps:=ps) (v:=(gq PS q).at_) hP3
       have hNl:=(xB hNr).1
       have hNm2:=hNm (nxL ps (gq PS q).record (gq PS q).at_) (by omega)
       have hnle:=jc R (nxL ps (gq PS q).record (gq PS q).at_)
       refine θA ?_
       refine θL fun K hK=> ?_
       all_goals refine zm 4 fun K9 hK9=> ?_
       all_goals push_cast
       all_goals repeat'(first|(apply zP<;>(intro hg;push_cast at hg))|(refine⟨_,hNm (gq PS q).record (by omega),?_⟩;push_cast)|apply And.intro|(intro hg;push_cast at hg))
       all_goals first|exact gA|(exact zX (by omega))|(exact zQ (by omega))|skip
       refine hK9 _ ?_;clear hK9 K9
       all_goals push_cast
       all_goals repeat'(first|(apply zP<;>(intro hg;push_cast at hg))|(refine⟨_,hNm (gq PS q).record (by omega),?_⟩;push_cast)|apply And.intro|(intro hg;push_cast at hg))
       all_goals first|exact gA|(exact zX (by omega))|(exact zQ (by omega))|skip
       refine hK _ ?_;clear hK K
       refine zL fun K hK=> ?_
       refine zx false zO zN ya ?_ rfl ?_
       ·kernel_rfl
       intro E hE
       all_goals refine yb 14 (by decide) fun K9 hK9=> ?_
       all_goals push_cast
       all_goals repeat'(first|(apply zP<;>(intro hg;push_cast at hg))|(refine⟨_,hNx,?_⟩;push_cast)|apply And.intro|(intro hg;push_cast at hg))
       all_goals first|exact gA|(exact zX (by omega))|(exact zQ (by omega))|skip
       refine hK9 _ _ ?_;clear hK9 K9
       all_goals refine yb 1 (by decide) fun K9 hK9=> ?_
       all_goals push_cast
       all_goals repeat'(first|(apply zP<;>(intro hg;push_cast at hg))|(refine⟨_,hNm2,?_⟩;push_cast)|apply And.intro|(intro hg;push_cast at hg))
       all_goals first|exact gA|(exact zX (by omega))|(exact zQ (by omega))|skip
       refine hK9 _ _ ?_;clear hK9 K9
       all_goals push_cast
       all_goals repeat'(first|(apply zP<;>(intro hg;push_cast at hg))|(refine⟨_,hNx,?_⟩;push_cast)|(refine⟨_,hNm2,?_⟩;push_cast)|apply And.intro|(intro hg;push_cast at hg))
       all_goals first|exact gA|(refine hE _ _ ?_ ?_;kernel_rfl)|(exact zX (by omega))|(exact zQ (by omega))|skip
       all_goals clear hE E
       refine hK _ ?_;clear hK K
       all_goals(try rw [VW _ _ _ _ (by omega)])
       have hu1:=hPlr q (by omega)
       rcases(show ¬0≤gi PL q∨(0≤gi PL q∧gi a.owner (gq PS q).at_.toNat=0)∨(0≤gi PL q∧¬gi a.owner (gq PS q).at_.toNat=0)from by omega)with hpl|⟨hpl,how⟩|⟨hpl,how⟩
       ·
        refine zL fun K hK=> ?_
        refine zf false zO zN ?_ rfl ?_
        ·kernel_rfl
        all_goals push_cast
        all_goals repeat'(first|(apply zP<;>(intro hg;push_cast at hg))|apply And.intro|(intro hg;push_cast at hg))
        all_goals first|exact gA|(exact zX (by omega))|(exact zQ (by omega))|skip
        refine hK _ ?_;clear hK K
        all_goals(
          refine zT rfl (fun hc=> ?_) (fun hc=> ?_)
          skip
          ·exfalso;first|(cases hc;done)|(simp only [push_cast]at hc;done)|(simp only [push_cast]at hc;omega)|omega
          refine zU (hK8 _ ?_)
          refine θB ?_
          refine hL1 _ ⟨q+1,by omega,by omega,?_⟩
          rw [JQ (by omega),Kg (fun h9=>hpl h9.1)]
          unfold Qy
          exact θX
          all_goals first|rfl|exact⟨rfl,rfl⟩|(simp only [List.length_set];done)|(simp;done)|skip)
       ·
        refine zL fun K hK=> ?_
        refine zf false zO zN ?_ rfl ?_
        ·kernel_rfl
        all_goals push_cast
        all_goals repeat'(first|(apply zP<;>(intro hg;push_cast at hg))|apply And.intro|(intro hg;push_cast at hg))
        all_goals first|exact gA|(exact zX (by omega))|(exact zQ (by omega))|skip
        refine hK _ ?_;clear hK K
        all_goals(
          refine zT rfl (fun hc=> ?_) (fun hc=> ?_)
          rotate_left
          ·exfalso;first|(cases hc;done)|(simp only [push_cast]at hc;done)|(simp only [push_cast]at hc;omega)|omega
          refine zx false zO zN ya ?_ rfl ?_
          ·kernel_rfl
          intro E hE
          all_goals push_cast
          all_goals repeat'(first|(apply zP<;>(intro hg;push_cast at hg))|apply And.intro|(intro hg;push_cast at hg))
          all_goals first|exact gA|(refine hE _ _ ?_ ?_;kernel_rfl)|(exact zX (by omega))|(exact zQ (by omega))|skip
          all_goals clear hE E
          all_goals(try rw [VW _ _ _ _ (by omega)])
          refine hK8 _ ?_
          refine θB ?_
          refine hL1 _ ⟨q+1,by omega,by omega,?_⟩
          rw [JQ (by omega),zAR ⟨hpl,how⟩]
          unfold Qy
          exact θX
          all_goals first|rfl|exact⟨rfl,rfl⟩|(simp only [List.length_set];done)|(simp;done)|skip)
       ·
        refine zL fun K hK=> ?_
        refine zf false zO zN ?_ rfl ?_
        ·kernel_rfl
        all_goals push_cast
        all_goals repeat'(first|(apply zP<;>(intro hg;push_cast at hg))|apply And.intro|(intro hg;push_cast at hg))
        all_goals first|exact gA|(exact zX (by omega))|(exact zQ (by omega))|skip
        refine hK _ ?_;clear hK K
        all_goals(
          refine zT rfl (fun hc=> ?_) (fun hc=> ?_)
          skip
          ·exfalso;first|(cases hc;done)|(simp only [push_cast]at hc;done)|(simp only [push_cast]at hc;omega)|omega
          refine zU (hK8 _ ?_)
          refine θB ?_
          refine hL1 _ ⟨q+1,by omega,by omega,?_⟩
          rw [JQ (by omega),Kg (fun h9=>how h9.2)]
          unfold Qy
          exact θX
          all_goals first|rfl|exact⟨rfl,rfl⟩|(simp only [List.length_set];done)|(simp;done)|skip)
      ·
       refine zh ?_
       have hqq:q=PS.length:=by omega
       subst hqq
       refine hK6 _ ?_
       refine θA ?_
       refine zZ ⟨Or.inl rfl,?_⟩
       push_cast [zd,zo,yA]
       rw [hMR,hMB]
       all_goals first|exact⟨⟨rfl,(WX (Nat.le_refl _)).1.symm⟩,⟨rfl,(Qu _).1.symm⟩,rfl⟩|rfl|exact⟨⟨rfl,rfl⟩,⟨rfl,rfl⟩,rfl⟩|exact⟨rfl,rfl⟩|exact⟨⟨rfl,rfl⟩,rfl,rfl⟩|(simp;done)|skip
theorem uI {R:Nat→Nat→Prop}{pr:Nat→Nat}{f:Nat→Nat}(h: ∀t,R (f t) (f (t+1))): ∀d i,∃p,Wk R pr (f i) (f (i+d+1)) p∧(∃T,i≤T∧T≤i+d∧pr (f T)=p)∧∀T,i≤T→T≤i+d→pr (f T)≤p
 |0,i=>⟨pr (f i), .one (h i),⟨i,by omega,by omega,rfl⟩,fun T h1 h2=>by rw [show T=i by omega];exact Nat.le_refl _⟩
 |d+1,i=>by
  obtain⟨p,a,⟨T,b1,b2,b3⟩,c⟩:=uI h d (i+1)
  rw [show i+1+d+1=i+(d+1)+1 by omega]at a
  refine⟨max (pr (f i)) p, .cons (h i) a,?_,fun T' h1 h2=> ?_⟩
  ·rcases Nat.le_total (pr (f i)) p with hp|hp
   ·exact⟨T,by omega,by omega,by omega⟩
   ·exact⟨i,by omega,by omega,by omega⟩
  ·by_cases e:T'=i
   ·rw [e];omega
   ·have :=c T' (by omega) (by omega);omega
theorem zJ4 {α:Type}{it:Nat→α}{c:α→Nat}{N:Nat}(hc: ∀k,c (it k)<N)(hi: ∀i j,c (it i)=c (it j)→it i=it j): ∃i d,it (i+d+1)=it i:=by
 refine Classical.byContradiction fun hno=> ?_
 have hnd:((List.range (N+1)).map fun k=>c (it k)).Nodup:=by
  rw [List.nodup_iff_pairwise_ne,List.pairwise_map]
  refine List.Pairwise.imp_of_mem ?_ (List.pairwise_lt_range)
  intro a b ha hb hab e
  exact hno ⟨a,b - a - 1,by rw [show a+(b - a - 1)+1=b by omega];exact(hi _ _ e).symm⟩
 have :=List.Nodup.length_le_of_subset (l₂:=List.range N) hnd (fun x hx=>by
  obtain⟨k,-,rfl⟩:=List.mem_map.1 hx
  exact List.mem_range.2 (hc k))
 simp at this
 omega
section
variable {a:Ar} {rc:Plc→List Int} {pr:Plc→Int} {p0:Plc} {V:List Int→Prop} {B:Nat}
theorem zAZ (hok:okQ (usA a) rc p0=true){v:Nat}(hv:v<(plA a rc p0).length):plQ (usA a) rc p0 v=gq (plA a rc p0) v:=by
 obtain⟨h1,h2,h3,h4⟩:=Wi (n:=(plA a rc p0).length) hok rfl
 exact(Ku (i:=v) (by omega) (h4 v hv)).symm
theorem JG (hok:okQ (usA a) rc p0=true){v u:Nat}(h:(qW (gmA a rc pr p0 (plA a rc p0).length)).E v u):
  v<(plA a rc p0).length∧u<(plA a rc p0).length∧(gq (plA a rc p0) u).record=rc (gq (plA a rc p0) v)∧yI (gl a.next (gq (plA a rc p0) v).at_.toNat) (gq (plA a rc p0) u).at_=true:=by
 obtain⟨h1,j,hj,e⟩:=h
 rw [zC7]at h1
 rw [zGG h1]at hj e
 have hx:yI (nxQ (usA a) rc p0 v) (gi (nxQ (usA a) rc p0 v) j)=true:=(xe _ _).2 (by rw [Xr hj];exact List.getElem_mem hj)
 obtain⟨k1,k2,k3⟩:=Ua hok h1 hx
 rw [e]at k2 k3
 exact⟨h1,by omega,k2,k3⟩
theorem zC5 (hok:okQ (usA a) rc p0=true){v:Nat}(hv:v<(plA a rc p0).length){w:Int}(hw:yI (gl a.next (gq (plA a rc p0) v).at_.toNat) w=true):
  ∃u,(qW (gmA a rc pr p0 (plA a rc p0).length)).E v u∧(gq (plA a rc p0) u).at_=w:=by
 obtain⟨h1,h2,h3,h4⟩:=Wi (n:=(plA a rc p0).length) hok rfl
 have hv2:=h4 v hv
 have hpv:=zAZ hok hv
 rw [←hpv]at hw
 obtain⟨j,hj,e⟩:=jO ((xe _ _).1 hw)
 have h5:=Wh (r:=rc (plQ (usA a) rc p0 v)) (us:=usA a (plQ (usA a) rc p0 v)) (ps:=stQ (usA a) rc p0 v) (Nat.le_refl _) j hj
 have hlen:=(qK (r:=rc (plQ (usA a) rc p0 v)) (us:=usA a (plQ (usA a) rc p0 v)) (ps:=stQ (usA a) rc p0 v) (Nat.le_refl _)).1
 obtain⟨x,hxe⟩: ∃x,gi (zu (rc (plQ (usA a) rc p0 v)) (usA a (plQ (usA a) rc p0 v)) (stQ (usA a) rc p0 v) (usA a (plQ (usA a) rc p0 v)).length).2 j=x:=⟨_,rfl⟩
 have hj2:j<(zu (rc (plQ (usA a) rc p0 v)) (usA a (plQ (usA a) rc p0 v)) (stQ (usA a) rc p0 v) (usA a (plQ (usA a) rc p0 v)).length).2.length:=by rw [hlen];exact hj
 have hmem:x∈nxQ (usA a) rc p0 v:=by
  refine(vm _).mem_iff.2 ?_
  rw [←hxe,Xr hj2]
  exact List.getElem_mem hj2
 have hx:=Ua hok hv ((xe _ _).2 hmem)
 rw [hxe]at h5
 have h7:stQ (usA a) rc p0 (v+1)=(zu (rc (plQ (usA a) rc p0 v)) (usA a (plQ (usA a) rc p0 v)) (stQ (usA a) rc p0 v) (usA a (plQ (usA a) rc p0 v)).length).1:=XP hv2
 rw [←h7]at h5
 have h9:gq (plA a rc p0) x.toNat=⟨gi (usA a (plQ (usA a) rc p0 v)) j,rc (plQ (usA a) rc p0 v)⟩:=by
  rw [←h5.2]
  exact Ku (i:=v+1) (by omega) (by omega)
 obtain⟨m,hm,em⟩:=jO hmem
 refine⟨x.toNat,⟨by rw [zC7];exact hv,m,by rw [zGG hv];exact hm,by rw [zGG hv,em]⟩,?_⟩
 rw [h9]
 exact e
theorem zJD {n v:Nat}(hv:v<n):(qW (gmA a rc pr p0 n)).own v=gi a.owner (plQ (usA a) rc p0 v).at_.toNat:=by
 show(if v<(qC a rc p0 n).length then gi (qC a rc p0 n) v else 0)=_
 rw [if_pos (by rw [vB];exact hv)]
 unfold qC
 rw [ZR (by simp;exact hv)]
 simp
theorem zFD (hok:okQ (usA a) rc p0=true){v:Nat}(hv:v<(plA a rc p0).length):(qW (gmA a rc pr p0 (plA a rc p0).length)).own v=gi a.owner (gq (plA a rc p0) v).at_.toNat:=by
 rw [zJD hv,zAZ hok hv]
theorem zLV {n v:Nat}(hv:v<n):(qW (gmA a rc pr p0 n)).pr v=(pr (plQ (usA a) rc p0 v)).toNat:=by
 show(gi (gmA a rc pr p0 n).prio v).toNat=_
 rw [gm_pr hv]
theorem zHX (hok:okQ (usA a) rc p0=true){v:Nat}(hv:v<(plA a rc p0).length):(qW (gmA a rc pr p0 (plA a rc p0).length)).pr v=(pr (gq (plA a rc p0) v)).toNat:=by
 rw [zLV hv,zAZ hok hv]
theorem zFT :gq (plA a rc p0) 0=p0:=by
 have :=Ku (a:=a) (rc:=rc) (p0:=p0) (i:=0) (j:=257) (by omega) (k:=0) (by show 0< [p0].length;simp)
 rw [this]
 rfl
end
structure Joint (a1 a2:Ar)(rc1 rc2:Plc→List Int)(pr1 pr2:Plc→Int)(p1 p2:Plc)(w1 w2:Int)(L:Nat)(q1 q2:Nat→Plc):Prop where
 pos:0<L
 in1: ∀t,q1 t∈plA a1 rc1 p1
 in2: ∀t,q2 t∈plA a2 rc2 p2
 at_: ∀t,(q1 t).at_=(q2 t).at_
 nx1: ∀t,(q1 (t+1)).record=rc1 (q1 t)
 nx2: ∀t,(q2 (t+1)).record=rc2 (q2 t)
 per1: ∀t,q1 (t+L)=q1 t
 per2: ∀t,q2 (t+L)=q2 t
 top1: ∃M:Int,M%2=w1∧(∃T,T<L∧pr1 (q1 T)=M)∧∀t,t<L→pr1 (q1 t)≤M
 top2: ∃M:Int,M%2=w2∧(∃T,T<L∧pr2 (q2 T)=M)∧∀t,t<L→pr2 (q2 t)≤M
theorem joint {a1 a2:Ar}{rc1 rc2:Plc→List Int}{pr1 pr2:Plc→Int}{p1 p2:Plc}{w1 w2:Int}(hnx:a2.next=a1.next)(hok1:okQ (usA a1) rc1 p1=true)(hok2:okQ (usA a2) rc2 p2=true)(hat:p1.at_=p2.at_)
  (hpr1: ∀v,v<(plA a1 rc1 p1).length→0≤pr1 (gq (plA a1 rc1 p1) v)) (hpr2: ∀v,v<(plA a2 rc2 p2).length→0≤pr2 (gq (plA a2 rc2 p2) v))
  (hin: ∀p∈plA a1 rc1 p1,p.at_.toNat<a1.owner.length) (hsplit: ∀v,v<a1.owner.length→(gi a2.owner v=w2↔¬gi a1.owner v=w1))
  {U1 U2:Nat→Prop} {s1 s2:Nat→Nat} (h1:xi (qW (gmA a1 rc1 pr1 p1 (plA a1 rc1 p1).length)) w1 (fun v=>v<(plA a1 rc1 p1).length) U1 s1) (h2:xi (qW (gmA a2 rc2 pr2 p2 (plA a2 rc2 p2).length)) w2 (fun v=>v<(plA a2 rc2 p2).length) U2 s2) (hU1:U1 0) (hU2:U2 0):
  ∃L q1 q2,Joint a1 a2 rc1 rc2 pr1 pr2 p1 p2 w1 w2 L q1 q2:=by
 have step: ∀x:Nat×Nat,∃y:Nat×Nat,(U1 x.1∧U2 x.2∧(gq (plA a1 rc1 p1) x.1).at_=(gq (plA a2 rc2 p2) x.2).at_)→
   (U1 y.1∧U2 y.2∧(gq (plA a1 rc1 p1) y.1).at_=(gq (plA a2 rc2 p2) y.2).at_)∧SR (qW (gmA a1 rc1 pr1 p1 (plA a1 rc1 p1).length)) w1 U1 s1 x.1 y.1∧SR (qW (gmA a2 rc2 pr2 p2 (plA a2 rc2 p2).length)) w2 U2 s2 x.2 y.2:=fun⟨i,j⟩=>by
  by_cases hJ:U1 i∧U2 j∧(gq (plA a1 rc1 p1) i).at_=(gq (plA a2 rc2 p2) j).at_
  ·obtain⟨u1,u2,e⟩:=hJ
   have hi:=h1.sub i u1
   have hj:=h2.sub j u2
   have o1:=zFD (pr:=pr1) hok1 hi
   have o2:=zFD (pr:=pr2) hok2 hj
   rw [←e]at o2
   have hs:=hsplit (gq (plA a1 rc1 p1) i).at_.toNat (hin _ (qH hi))
   rw [←o1,←o2]at hs
   by_cases ho:(qW (gmA a1 rc1 pr1 p1 (plA a1 rc1 p1).length)).own i=w1
   ·have ho2: ¬(qW (gmA a2 rc2 pr2 p2 (plA a2 rc2 p2).length)).own j=w2:=fun h=>hs.1 h ho
    obtain⟨b1,b2⟩:=h1.own i u1 ho
    obtain⟨-,c2,c3,c4⟩:=JG hok1 b1
    rw [e,←hnx]at c4
    obtain⟨j',d1,d2⟩:=zC5 (pr:=pr2) hok2 hj c4
    have d3:=(JG hok2 d1).2.1
    have d4:=h2.opp j j' u2 ho2 d1 d3
    exact⟨(s1 i,j'),fun _=>⟨⟨b2,d4,d2.symm⟩,⟨u1,b2,b1,fun _=>rfl⟩,⟨u2,d4,d1,fun h=>absurd h ho2⟩⟩⟩
   ·have ho2:(qW (gmA a2 rc2 pr2 p2 (plA a2 rc2 p2).length)).own j=w2:=hs.2 ho
    obtain⟨b1,b2⟩:=h2.own j u2 ho2
    obtain⟨-,c2,c3,c4⟩:=JG hok2 b1
    rw [←e,hnx]at c4
    obtain⟨i',d1,d2⟩:=zC5 (pr:=pr1) hok1 hi c4
    have d3:=(JG hok1 d1).2.1
    have d4:=h1.opp i i' u1 ho d1 d3
    exact⟨(i',s2 j),fun _=>⟨⟨d4,b2,d2⟩,⟨u1,d4,d1,fun h=>absurd h ho⟩,⟨u2,b2,b1,fun _=>rfl⟩⟩⟩
  ·exact⟨(0,0),fun h=>absurd h hJ⟩
 obtain⟨f,hf⟩:=Classical.axiomOfChoice step
 obtain⟨it,hit0,hits⟩: ∃it:Nat→Nat×Nat,it 0=(0,0)∧∀k,it (k+1)=f (it k):=⟨fun k=>Nat.rec (0,0) (fun _ x=>f x) k,rfl,fun k=>rfl⟩
 have hJ: ∀k,U1 (it k).1∧U2 (it k).2∧(gq (plA a1 rc1 p1) (it k).1).at_=(gq (plA a2 rc2 p2) (it k).2).at_:=fun k=>by
  induction k with
  |zero=>rw [hit0];exact⟨hU1,hU2,by rw [zFT,zFT];exact hat⟩
  |succ k ih=>rw [hits];exact(hf _ ih).1
 have hS1: ∀k,SR (qW (gmA a1 rc1 pr1 p1 (plA a1 rc1 p1).length)) w1 U1 s1 (it k).1 (it (k+1)).1:=fun k=>by rw [hits];exact(hf _ (hJ k)).2.1
 have hS2: ∀k,SR (qW (gmA a2 rc2 pr2 p2 (plA a2 rc2 p2).length)) w2 U2 s2 (it k).2 (it (k+1)).2:=fun k=>by rw [hits];exact(hf _ (hJ k)).2.2
 have hl1: ∀k,(it k).1<(plA a1 rc1 p1).length:=fun k=>h1.sub _ (hJ k).1
 have hl2: ∀k,(it k).2<(plA a2 rc2 p2).length:=fun k=>h2.sub _ (hJ k).2.1
 obtain⟨n1,hn1⟩: ∃n,(plA a1 rc1 p1).length=n:=⟨_,rfl⟩
 obtain⟨n2,hn2⟩: ∃n,(plA a2 rc2 p2).length=n:=⟨_,rfl⟩
 have hl1': ∀k,(it k).1<n1:=fun k=>by rw [←hn1];exact hl1 k
 have hl2': ∀k,(it k).2<n2:=fun k=>by rw [←hn2];exact hl2 k
 obtain⟨i,d,hrep⟩:=zJ4 (it:=it) (c:=fun x=>x.1*n2+x.2) (N:=n1*n2) (fun k=>by
  have h5:=Nat.mul_le_mul_right n2 (show(it k).1+1≤n1 from hl1' k)
  rw [Nat.add_mul,Nat.one_mul]at h5
  have :=hl2' k
  show(it k).1*n2+(it k).2<n1*n2
  omega) (fun i j e=>by
  have e:(it i).1*n2+(it i).2=(it j).1*n2+(it j).2:=e
  have a1:=hl2' i
  have a2:=hl2' j
  have b1:((it i).1*n2+(it i).2) / n2=(it i).1:=by rw [Nat.add_comm,Nat.add_mul_div_right _ _ (by omega),Nat.div_eq_of_lt a1,Nat.zero_add]
  have b2:((it j).1*n2+(it j).2) / n2=(it j).1:=by rw [Nat.add_comm,Nat.add_mul_div_right _ _ (by omega),Nat.div_eq_of_lt a2,Nat.zero_add]
  have c1:(it i).1=(it j).1:=by rw [←b1,←b2,e]
  rw [c1]at e
  exact Prod.ext c1 (by omega))
 have hper: ∀t,it (i+(t+(d+1)))=it (i+t):=fun t=>by
  induction t with
  |zero=>rw [Nat.zero_add,←Nat.add_assoc];exact hrep
  |succ t ih=>rw [show i+(t+1+(d+1))=(i+(t+(d+1)))+1 by omega,hits,ih,show i+(t+1)=i+t+1 by omega,hits]
 refine⟨d+1,fun t=>gq (plA a1 rc1 p1) (it (i+t)).1,fun t=>gq (plA a2 rc2 p2) (it (i+t)).2,by omega,fun t=>qH (hl1 _),fun t=>qH (hl2 _),fun t=>(hJ _).2.2,fun t=>(JG hok1 (hS1 (i+t)).2.2.1).2.2.1,fun t=>(JG hok2 (hS2 (i+t)).2.2.1).2.2.1,fun t=>by rw [hper],fun t=>by rw [hper],?_,?_⟩
 ·obtain⟨p,a,⟨T,b1,b2,b3⟩,c⟩:=uI (R:=SR (qW (gmA a1 rc1 pr1 p1 (plA a1 rc1 p1).length)) w1 U1 s1) (pr:=(qW (gmA a1 rc1 pr1 p1 (plA a1 rc1 p1).length)).pr) (f:=fun k=>(it k).1) hS1 d i
  rw [hrep]at a
  have hg:=h1.good _ _ a
  have hq: ∀T,pr1 (gq (plA a1 rc1 p1) (it T).1)=((qW (gmA a1 rc1 pr1 p1 (plA a1 rc1 p1).length)).pr (it T).1:Int):=fun T=>by
   rw [zHX hok1 (hl1 T)]
   have :=hpr1 _ (hl1 T)
   omega
  refine⟨p,hg,⟨T - i,by omega,by rw [show i+(T - i)=T by omega,hq,b3]⟩,fun t ht=> ?_⟩
  have :=c (i+t) (by omega) (by omega)
  rw [hq]
  omega
 ·obtain⟨p,a,⟨T,b1,b2,b3⟩,c⟩:=uI (R:=SR (qW (gmA a2 rc2 pr2 p2 (plA a2 rc2 p2).length)) w2 U2 s2) (pr:=(qW (gmA a2 rc2 pr2 p2 (plA a2 rc2 p2).length)).pr) (f:=fun k=>(it k).2) hS2 d i
  rw [hrep]at a
  have hg:=h2.good _ _ a
  have hq: ∀T,pr2 (gq (plA a2 rc2 p2) (it T).2)=((qW (gmA a2 rc2 pr2 p2 (plA a2 rc2 p2).length)).pr (it T).2:Int):=fun T=>by
   rw [zHX hok2 (hl2 T)]
   have :=hpr2 _ (hl2 T)
   omega
  refine⟨p,hg,⟨T - i,by omega,by rw [show i+(T - i)=T by omega,hq,b3]⟩,fun t ht=> ?_⟩
  have :=c (i+t) (by omega) (by omega)
  rw [hq]
  omega
attribute [local irreducible] okQ stQ gmR plR
theorem zNr {a:Ar}{ps:List Pr}{s:Int}(h:rgC a ps s=false):rgB a ps s=false:=by unfold rgB;rw [h];rfl
end Go.Proofs.YtcleaokoimhedaaGreat
