/- the memory of the game of records: the program's side -/
import Derived.Test.YtcleaokoimhedaaGreatB24zmo
import Derived.Test.YtcleaokoimhedaaGreatB25zmo
import Derived.Test.YtcleaokoimhedaaGreatB8zmo
namespace Go.Proofs.YtcleaokoimhedaaGreat
open Nat renaming reduceMod → zA, reduceMul → zB, reduceDiv → zC, reduceAdd → zD, reduceSub → zE, reduceEqDiff → zF, reduceBEq → zG, reduceLT → zH, reduceLeDiff → zI
open Go.RowKit
set_option linter.unusedVariables false
set_option linter.unusedSimpArgs false
theorem zAK {rs:List (List Int)}{r:List Int}(h:qe rs r<rs.length):ixF (fun x=>decide (x=r)) rs=(qe rs r:Nat):=by
 unfold ixF
 exact if_pos h
theorem zLc {rs:List (List Int)}{r:List Int}(h:qe rs r=rs.length):ixF (fun x=>decide (x=r)) rs= -1:=by
 unfold ixF
 exact if_neg (by unfold qe at h;omega)
theorem zJd {a:Ar}{ps:List Pr}{s:Int}(h:rgB a ps s=true){q:Nat}(hq:q<(rgP a ps s).length):nxL ps (gq (rgP a ps s) q).record (gq (rgP a ps s) q).at_∈xH (rgP a ps s) (rgP a ps s).length:=by
 obtain⟨h1,h2⟩:=wH h
 obtain⟨k1,k2,k3⟩:=xz h1
 have o3:=(Ug h).2.2 _ (qH hq)
 rw [(Uf h).2]at hq o3⊢
 have hrow:=yl k1 (v:=(gq (plA a (rcR ps) ⟨s,zW ps.length⟩) q).at_.toNat) (by omega)
 obtain⟨u,hE,-⟩:=zC5 (pr:=prR ps) h2 hq (xt.2 ⟨0,by omega,rfl⟩)
 obtain⟨-,hu,hr,-⟩:=JG h2 hE
 exact(Jb (Nat.le_refl _) _).2 ⟨u,hu,hr⟩
set_option maxRecDepth 20000 in
set_option maxHeartbeats 4000000 in
theorem zFv (g:Pa)(hg:g.Ln 1048576)(hok:yL g=true):Fn Tryz.prog tyT 35 [.agg (dPa g)] [.agg [DI (zj g),DI (vK g)]]:=by
 have h1:=hg.a.owner
 have h3:=hg.prio
 unfold LnI at h1 h3
 have hP:=zCC g hg
 rw [hok]at hP
 have hN:=UN g.a hg.a
 have hW:=Uo g hg hok
 have hF:=zEd g hg hok
 have hnp:List.replicate g.a.owner.length (-1)=noP g.a.owner.length:=rfl
 rw [hnp]at hN
 have hnl:=xy g.a.owner.length
 have hWl:=qL g
 have hPl:=VR g
 unfold dPa at hP hW hF
 unfold dAr at hN
 unfold dPa
 generalize noP g.a.owner.length=NP at*
 generalize zj g=WO at*
 generalize vK g=PL at*
 refine qm (fn:=Tryz.f35) (rs:= [.cell 2 55]) zO zN Tryz.func35 (by kernel_rfl) rfl rfl (by rw [Tryz.ntmps35];exact Nat.le_of_ble_eq_true rfl) rfl (by simp only [szA,List.mem_cons,List.not_mem_nil,or_false,forall_eq_or_imp,forall_eq,VT.cells,szL];try decide) ?_
 rw [Tryz.ntmps35]
 push_cast
 refine θA ?_
 refine zL fun K1 hK1=> ?_
 refine θL fun K hK=> ?_
 refine θD 2 ?_
 refine θE hK ?_
 refine zT rfl (fun hc=> ?_) (fun hc=> ?_)
 skip
 ·exfalso;first|(cases hc;done)|(simp only [push_cast]at hc;done)|(simp only [push_cast]at hc;omega)|omega
 refine zU (hK1 _ ?_)
 refine zL fun K hK=> ?_
 refine zx false zO zN ya ?_ rfl ?_
 ·kernel_rfl
 intro E hE
 all_goals refine yb 4 (by decide) fun K9 hK9=> ?_
 all_goals push_cast
 all_goals repeat'(first|(apply zP<;>(intro hg;push_cast at hg))|(refine⟨_,hN,?_⟩;push_cast)|apply And.intro|(intro hg;push_cast at hg))
 all_goals try exact gA
 refine hK9 _ _ ?_;clear hK9 K9
 all_goals refine yb 2 (by decide) fun K9 hK9=> ?_
 all_goals push_cast
 all_goals repeat'(first|(apply zP<;>(intro hg;push_cast at hg))|(refine⟨_,hW,?_⟩;push_cast)|apply And.intro|(intro hg;push_cast at hg))
 all_goals try exact gA
 refine hK9 _ _ ?_;clear hK9 K9
 all_goals refine yb 1 (by decide) fun K9 hK9=> ?_
 all_goals push_cast
 all_goals repeat'(first|(apply zP<;>(intro hg;push_cast at hg))|(refine⟨_,hF,?_⟩;push_cast)|apply And.intro|(intro hg;push_cast at hg))
 all_goals try exact gA
 refine hK9 _ _ ?_;clear hK9 K9
 all_goals push_cast
 all_goals repeat'(first|(apply zP<;>(intro hg;push_cast at hg))|(refine⟨_,hN,?_⟩;push_cast)|(refine⟨_,hW,?_⟩;push_cast)|(refine⟨_,hF,?_⟩;push_cast)|apply And.intro|(intro hg;push_cast at hg))
 all_goals first|exact gA|(refine hE _ _ ?_ ?_;kernel_rfl)|skip
 all_goals clear hE E
 refine hK _ ?_;clear hK K
 refine zZ ⟨Or.inl rfl,?_⟩
 push_cast [zd,zo,yA]
 all_goals first|rfl|exact⟨⟨rfl,rfl⟩,⟨rfl,rfl⟩,rfl⟩|exact⟨rfl,rfl⟩|(simp;done)|skip
set_option maxRecDepth 20000 in
set_option maxHeartbeats 4000000 in
theorem Js (s t:List Int)(h1:s.length≤1048576)(h2:t.length≤1048576):FnX Tryz.prog tyT 63 [.v (.c (DI s)), .ref (.lst 2 [DI t])] [.c (.bool (decide (s=t)))]:=by
 refine QW (fn:=Tryz.f63) (rs:= [.tmp 3]) zO zN Tryz.func63 (by kernel_rfl) rfl rfl (by rw [Tryz.ntmps63];exact Nat.le_of_ble_eq_true rfl) rfl (by simp only [szX,List.mem_cons,List.not_mem_nil,or_false,forall_eq_or_imp,forall_eq,XT.cells,VT.cells,szL];try decide) ?_
 rw [Tryz.ntmps63]
 push_cast
 refine θA ?_
 refine θL fun K hK=> ?_
 all_goals refine zm 3 fun K9 hK9=> ?_
 all_goals push_cast
 all_goals repeat'(first|(apply zP<;>(intro hg;push_cast at hg))|(refine⟨_,ka s t h1 h2,?_⟩;push_cast)|apply And.intro|(intro hg;push_cast at hg))
 all_goals try exact gA
 refine hK9 _ ?_;clear hK9 K9
 all_goals push_cast
 all_goals repeat'(first|(apply zP<;>(intro hg;push_cast at hg))|(refine⟨_,ka s t h1 h2,?_⟩;push_cast)|apply And.intro|(intro hg;push_cast at hg))
 all_goals try exact gA
 refine hK _ ?_;clear hK K
 refine zZ ⟨Or.inl rfl,?_⟩
 push_cast [zd,zo,yA]
set_option maxRecDepth 20000 in
set_option maxHeartbeats 4000000 in
theorem Qt (rs:List (List Int))(hrs:qV 1048576 rs)(r:List Int)(hr:r.length≤1048576):FnX Tryz.prog tyT 61 [.v (.c (DI r)), .ref (.lst 2 [DII rs])] [.c (.int .i64 (ixF (fun x=>decide (x=r)) rs))]:=by
 have h1:=hrs.1
 have hrw: ∀v,(gl rs v).length≤1048576:=fun v=>Xs hrs v
 refine QW (fn:=Tryz.f61) (rs:= [.tmp 3]) zO zN Tryz.func61 (by kernel_rfl) rfl rfl (by rw [Tryz.ntmps61];exact Nat.le_of_ble_eq_true rfl) rfl (by simp only [szX,List.mem_cons,List.not_mem_nil,or_false,forall_eq_or_imp,forall_eq,XT.cells,VT.cells,szL];try decide) ?_
 rw [Tryz.ntmps61]
 push_cast [↓zK,↓zJ]
 refine θA ?_
 refine zL fun K hK=> ?_
 refine qh 6 2 rfl zO zN [] rfl ?_
 push_cast [↓zK,↓zJ]
 repeat' apply And.intro
 all_goals(try push_cast [↓zK,↓zJ])
 all_goals repeat'(first|(apply zP<;>(intro hg;(try push_cast at hg)))|(refine⟨_,Jw rs h1 hrw _ (DI r) [] (fun x=>decide (x=r)) (fun k hk=>Js (gl rs k) r (hrw k) hr),?_⟩;push_cast [↓zK,↓zJ])|apply And.intro|(intro hg;(try push_cast at hg)))
 all_goals first|exact gA|decide|skip
 all_goals(refine hK _ ?_;clear hK K)
 refine zZ ⟨Or.inl rfl,?_⟩
 push_cast [zd,zo,yA,↓zK,↓zJ]
set_option maxRecDepth 20000 in
set_option maxHeartbeats 8000000 in
theorem zEY (a:Ar)(ha:a.Ln 1048576)(ps:List Pr)(hp:PLn 1048576 ps)(PS:List Plc)(WO PL:List Int)(hao:yi a=true)(hpk:ps.length≤4)(o1:PS.length≤256)(hWO:WO.length≤1048576)(hPll:PL.length=PS.length)(hPlr: ∀u,u<PS.length→ -1≤gi PL u∧gi PL u<PS.length)(o3: ∀p∈PS,(0≤p.at_∧p.at_<a.owner.length)∧vZ p.record ps.length=true)(hcl: ∀q,q<PS.length→nxL ps (gq PS q).record (gq PS q).at_∈xH PS PS.length):Fn Tryz.prog tyT 34 [.agg (dAr a), .c (.lst 64 (dII (ilv ps))), .c (.lst 59 (xF PS)), .agg [DI WO,DI PL]] [.agg (dMe ⟨mfN ps (xH PS PS.length) a.owner.length PS PS.length,mfC a PL (xH PS PS.length) a.owner.length PS PS.length⟩)]:=by
 have hno:=ha.owner
 have hnn:=ha.next.1
 unfold LnI at hno
 have hpl0:=hp.1
 have hli:=yq ps
 have hal:=yQ hao
 have hQl:QLn 1048576 PS:=⟨by omega,fun p hp=>by have :=(xB (o3 p hp).2).1;omega⟩
 have hRl:=fun{j:Nat} h=>zFX (ps:=PS) hQl (j:=j) h
 have hRle:=fun{j:Nat} h=>Wc (ps:=PS) (j:=j) h
 unfold dAr dMe
 refine qm (fn:=Tryz.f34) (rs:= [.cell 8 30]) zO zN Tryz.func34 (by kernel_rfl) rfl rfl (by rw [Tryz.ntmps34];exact Nat.le_of_ble_eq_true rfl) rfl (by simp only [szA,List.mem_cons,List.not_mem_nil,or_false,forall_eq_or_imp,forall_eq,VT.cells,szL];try decide) ?_
 rw [Tryz.ntmps34]
 push_cast [↓zK,↓zJ]
 refine θA ?_
 refine θN ?_
 refine zL fun K hK=> ?_
 refine qh 99 2 rfl zO zN [] rfl ?_
 push_cast [↓zK,↓zJ]
 repeat' apply And.intro
 all_goals(try push_cast [↓zK,↓zJ])
 all_goals repeat'(first|(apply zP<;>(intro hg;(try push_cast at hg)))|apply And.intro|(intro hg;(try push_cast at hg)))
 all_goals first|exact gA|(exact zX (by omega))|(exact zQ (by omega))|skip
 all_goals(refine hK _ ?_;clear hK K)
 refine zL fun K1 hK1=> ?_
 refine qE [.sl 22] 9 ?_
 push_cast [↓zK,↓zJ]
 refine θA ?_
 refine zV ?_
 refine Uv 144 ?_
 push_cast [↓zK,↓zJ]
 refine zg [9,12,21,22,23,24,25,26,27,28,29,30,31,32,33,34,35] [144] (fun(q:Nat)=> [(21, .int .i64 q),(9, .bp 9 0)]) (fun q=> [(9,[.sl 144 [] 0 (xH PS q).length 22])]) (fun q=> [(144,⟨.top,22,dII (xH PS q),none⟩)]) (fun q=>q≤PS.length) (fun q=>PS.length - q) 0 ?_ (by omega) ?_
 ·
  rw [Uc,show dII []= []from rfl]
  exact θX
  all_goals first|rfl|exact⟨⟨rfl,rfl⟩,⟨rfl,rfl⟩,rfl⟩|exact⟨rfl,rfl⟩|(simp;done)|skip
 ·rintro q hq KL0 hL0
  push_cast [↓zK,↓zJ]
  refine θA ?_
  refine zL fun K2 hK2=> ?_
  refine θU (fun hc=> ?_) fun hc=> ?_
  ·
   refine zU (hK2 _ ?_)
   refine zL fun K3 hK3=> ?_
   refine zV ?_
   refine θA ?_
   have hP:=o3 _ (qH (ps:=PS) (k:=q) (by omega))
   obtain⟨⟨hP1,hP2⟩,hP3⟩:=hP
   have hPl:=(xB hP3).1
   have hrle:=hRle (j:=q) (by omega)
   by_cases hb:qe (xH PS q) (gq PS q).record=(xH PS q).length
   ·
    have hix:=zLc hb
    refine zL fun K hK=> ?_
    refine qh 28 2 rfl zO zN [] rfl ?_
    push_cast [↓zK,↓zJ]
    repeat' apply And.intro
    all_goals(try push_cast [↓zK,↓zJ])
    all_goals repeat'(first|(apply zP<;>(intro hg;(try push_cast at hg)))|(refine⟨_,Qt (xH PS q) (hRl (by omega)) (gq PS q).record (by omega),?_⟩;push_cast [↓zK,↓zJ])|apply And.intro|(intro hg;(try push_cast at hg)))
    all_goals first|exact gA|(exact zX (by omega))|(exact zQ (by omega))|skip
    all_goals(refine hK _ ?_;clear hK K)
    all_goals(
      refine zT rfl (fun hc=> ?_) (fun hc=> ?_)
      rotate_left
      ·exfalso;first|(cases hc;done)|(simp only [push_cast]at hc;done)|(simp only [push_cast]at hc;omega)|omega
      have hrle:=hRle (j:=q) (by omega)
      refine jy 3 [] zO zN ?_ rfl rfl fun K9 hK9=> ?_
      ·kernel_rfl
      all_goals push_cast [↓zK,↓zJ]
      all_goals repeat'(first|(apply zP<;>(intro hg;(try push_cast at hg)))|apply And.intro|(intro hg;(try push_cast at hg)))
      all_goals first|exact gA|(exact zX (by omega))|(exact zQ (by omega))|skip
      all_goals(refine hK9 _ ?_;clear hK9 K9)
      all_goals push_cast [↓zK,↓zJ]
      all_goals repeat'(first|(apply zP<;>(intro hg;(try push_cast at hg)))|apply And.intro|(intro hg;(try push_cast at hg)))
      all_goals first|exact gA|(exact zX (by omega))|(exact zQ (by omega))|skip
      refine hK3 _ ?_
      refine θB ?_
      refine hL0 _ ⟨q+1,by omega,by omega,?_⟩
      rw [Wd (by omega),Wv hb]
      refine zY rfl ?_ ?_ ?_<;>push_cast [zb,za,↓zK,↓zJ]
      all_goals first|rfl|(rw [List.length_append];rfl)|skip)
   ·
    have hix:=zAK (show qe (xH PS q) (gq PS q).record<(xH PS q).length by have :=jc (xH PS q) (gq PS q).record;omega)
    refine zL fun K hK=> ?_
    refine qh 28 2 rfl zO zN [] rfl ?_
    push_cast [↓zK,↓zJ]
    repeat' apply And.intro
    all_goals(try push_cast [↓zK,↓zJ])
    all_goals repeat'(first|(apply zP<;>(intro hg;(try push_cast at hg)))|(refine⟨_,Qt (xH PS q) (hRl (by omega)) (gq PS q).record (by omega),?_⟩;push_cast [↓zK,↓zJ])|apply And.intro|(intro hg;(try push_cast at hg)))
    all_goals first|exact gA|(exact zX (by omega))|(exact zQ (by omega))|skip
    all_goals(refine hK _ ?_;clear hK K)
    all_goals(
      refine zT rfl (fun hc=> ?_) (fun hc=> ?_)
      skip
      ·exfalso;first|(cases hc;done)|(simp only [push_cast]at hc;done)|(simp only [push_cast]at hc;omega)|omega
      refine zU (hK3 _ ?_)
      refine θB ?_
      refine hL0 _ ⟨q+1,by omega,by omega,?_⟩
      rw [Wd (by omega),Ww hb]
      exact θX
      all_goals first|rfl|(rw [List.length_append];rfl)|skip)
  ·
   refine zh ?_
   have hqq:q=PS.length:=by omega
   subst hqq
   have hRh:=fun q (hq:q<PS.length)=>zDj hq
   have hcl2:=fun q (hq:q<PS.length)=>jd.2 (hcl q hq)
   have hR0:=hRl (Nat.le_refl _)
   have hR1:=hRle (Nat.le_refl _)
   clear hcl
   generalize xH PS PS.length=R at*
   have hSt:=fun r hr=>Qt R hR0 r hr
   have hEm:=zAA a ha R.length (by omega)
   unfold dMe emM dAr at hEm
   refine hK1 _ ?_
   refine θL fun K hK=> ?_
   refine θD 4 ?_
   refine θE hK ?_
   refine zL fun K4 hK4=> ?_
   refine qE [.sl 22, .sl 22] 13 ?_
   push_cast [↓zK,↓zJ]
   refine θA ?_
   refine zV ?_
   refine zg [13,14,15,16,42,43,44,45,46,47,48,49,50,51,52,53,54,55,56,57,58,59,60,61,62,63,64,65,66,67,68,69,70,71,72,73,74,75,76,77,78,79,80,81,82,83,84,85,86,87,88,89,90,91,92,93,94,95,96,97,98,99] [208,209] (fun(q:Nat)=> [(42, .int .i64 q),(13, .bp 13 0)]) (fun q=> [(13,[.sl 208 [] 0 R.length 22, .sl 209 [] 0 R.length 22])]) (fun q=> [(208,⟨.ex,22,dII (mfN ps R a.owner.length PS q),none⟩),(209,⟨.ex,22,dII (mfC a PL R a.owner.length PS q),none⟩)]) (fun q=>q≤PS.length) (fun q=>PS.length - q) 0 ?_ (by omega) ?_
   ·
    rw [zKX,zKW]
    refine zY rfl ?_ ?_ ?_<;>push_cast [zb,za,↓zK,↓zJ]
    all_goals first|rfl|exact⟨rfl,rfl⟩|(rw [List.length_replicate,List.length_replicate])|skip
   ·rintro q hq KL1 hL1
    push_cast [↓zK,↓zJ]
    refine θA ?_
    refine zL fun K5 hK5=> ?_
    refine θU (fun hc=> ?_) fun hc=> ?_
    ·
     refine zU (hK5 _ ?_)
     refine zL fun K6 hK6=> ?_
     refine zV ?_
     have hP:=o3 _ (qH (ps:=PS) (k:=q) (by omega))
     obtain⟨⟨hP1,hP2⟩,hP3⟩:=hP
     have hPl:=(xB hP3).1
     have hs1:=WX (prs:=ps) (R:=R) (n:=a.owner.length) (ps:=PS) (j:=q) (by omega)
     have hs2:=Qu (a:=a) (pl:=PL) (R:=R) (n:=a.owner.length) (ps:=PS) q
     have hh:=hRh q (by omega)
     have hs5:=hs1.1
     have hs6:=hs2.1
     have hs7:=hs1.2 _ hh
     have hs8:=hs2.2 _ hh
     have hNx:=kL ps hp (gq PS q).record (gq PS q).at_ hP3
     have hNr:=uG (ps:=ps) (v:=(gq PS q).at_) hP3
     have hNl:=(xB hNr).1
     have hn2:=hcl2 q (by omega)
     have hSt1:=hSt (gq PS q).record (by omega)
     rw [zAK hh]at hSt1
     have hSt2:=hSt (nxL ps (gq PS q).record (gq PS q).at_) (by omega)
     rw [zAK hn2]at hSt2
     have hu1:=hPlr q (by omega)
     refine θA ?_
     refine zL fun K hK=> ?_
     refine qh 50 2 rfl zO zN [] rfl ?_
     push_cast [↓zK,↓zJ]
     repeat' apply And.intro
     all_goals(try push_cast [↓zK,↓zJ])
     all_goals repeat'(first|(apply zP<;>(intro hg;(try push_cast at hg)))|(refine⟨_,hSt1,?_⟩;push_cast [↓zK,↓zJ])|apply And.intro|(intro hg;(try push_cast at hg)))
     all_goals first|exact gA|(exact zX (by omega))|(exact zQ (by omega))|skip
     all_goals(refine hK _ ?_;clear hK K)
     refine zL fun K hK=> ?_
     refine YX false (uc Tryz.prog tyT 2) [65] (fun _ _ _ h=>zAu rfl h) zO zN ya ?_ rfl ?_
     ·kernel_rfl
     intro E hE
     all_goals refine Zx 14 (by decide) fun K9 hK9=> ?_
     all_goals push_cast [↓zK,↓zJ]
     all_goals repeat'(first|(apply zP<;>(intro hg;(try push_cast at hg)))|(refine⟨_,hNx,?_⟩;push_cast [↓zK,↓zJ])|(refine⟨_,_,hSt2,?_⟩;(try push_cast [↓zK,↓zJ]))|apply And.intro|(intro hg;(try push_cast at hg)))
     all_goals first|exact gA|(exact zX (by omega))|(exact zQ (by omega))|skip
     all_goals(refine hK9 _ _ ?_;clear hK9 K9)
     all_goals refine Zx 1 (by decide) fun K9 hK9=> ?_
     all_goals push_cast [↓zK,↓zJ]
     all_goals repeat'(first|(apply zP<;>(intro hg;(try push_cast at hg)))|(refine⟨_,_,hSt2,?_⟩;(try push_cast [↓zK,↓zJ]))|apply And.intro|(intro hg;(try push_cast at hg)))
     all_goals first|exact gA|(exact zX (by omega))|(exact zQ (by omega))|skip
     all_goals(refine hK9 _ _ ?_;clear hK9 K9)
     all_goals push_cast [↓zK,↓zJ]
     all_goals repeat'(first|(apply zP<;>(intro hg;(try push_cast at hg)))|(refine⟨_,hNx,?_⟩;push_cast [↓zK,↓zJ])|(refine⟨_,_,hSt2,?_⟩;(try push_cast [↓zK,↓zJ]))|apply And.intro|(intro hg;(try push_cast at hg)))
     all_goals first|exact gA|(refine hE _ _ ?_ ?_;kernel_rfl)|(exact zX (by omega))|(exact zQ (by omega))|skip
     all_goals clear hE E
     all_goals(refine hK _ ?_;clear hK K)
     all_goals(try rw [VW _ _ _ _ (by omega)])
     rcases(show ¬0≤gi PL q∨(0≤gi PL q∧gi a.owner (gq PS q).at_.toNat=0)∨(0≤gi PL q∧¬gi a.owner (gq PS q).at_.toNat=0)from by omega)with hpl|⟨hpl,how⟩|⟨hpl,how⟩
     ·
      refine zL fun K hK=> ?_
      refine zf false zO zN ?_ rfl ?_
      ·kernel_rfl
      all_goals push_cast [↓zK,↓zJ]
      all_goals repeat'(first|(apply zP<;>(intro hg;(try simp only [push_cast]at hg)))|apply And.intro|(intro hg;(try simp only [push_cast]at hg)))
      all_goals first|exact gA|(exact zX (by omega))|(exact zQ (by omega))|skip
      all_goals(refine hK _ ?_;clear hK K)
      all_goals(
        refine zT rfl (fun hc=> ?_) (fun hc=> ?_)
        skip
        ·exfalso;first|(cases hc;done)|(simp only [push_cast]at hc;done)|(simp only [push_cast]at hc;omega)|omega
        refine zU (hK6 _ ?_)
        refine θB ?_
        refine hL1 _ ⟨q+1,by omega,by omega,?_⟩
        rw [JQ (by omega),Kg (fun h9=>hpl h9.1)]
        unfold Qy
        exact θX
        all_goals first|rfl|exact⟨rfl,rfl⟩|(simp only [List.length_set];done)|(simp;done)|skip)
     ·
      refine zL fun K hK=> ?_
      refine zf false zO zN ?_ rfl ?_
      ·kernel_rfl
      all_goals push_cast [↓zK,↓zJ]
      all_goals repeat'(first|(apply zP<;>(intro hg;(try simp only [push_cast]at hg)))|apply And.intro|(intro hg;(try simp only [push_cast]at hg)))
      all_goals first|exact gA|(exact zX (by omega))|(exact zQ (by omega))|skip
      all_goals(refine hK _ ?_;clear hK K)
      all_goals(
        refine zT rfl (fun hc=> ?_) (fun hc=> ?_)
        rotate_left
        ·exfalso;first|(cases hc;done)|(simp only [push_cast]at hc;done)|(simp only [push_cast]at hc;omega)|omega
        refine zx false zO zN ya ?_ rfl ?_
        ·kernel_rfl
        intro E hE
        all_goals push_cast [↓zK,↓zJ]
        all_goals repeat'(first|(apply zP<;>(intro hg;(try push_cast at hg)))|apply And.intro|(intro hg;(try push_cast at hg)))
        all_goals first|exact gA|(refine hE _ _ ?_ ?_;kernel_rfl)|(exact zX (by omega))|(exact zQ (by omega))|skip
        all_goals clear hE E
        all_goals(try rw [VW _ _ _ _ (by omega)])
        refine hK6 _ ?_
        refine θB ?_
        refine hL1 _ ⟨q+1,by omega,by omega,?_⟩
        rw [JQ (by omega),zAR ⟨hpl,how⟩]
        unfold Qy
        exact θX
        all_goals first|rfl|exact⟨rfl,rfl⟩|(simp only [List.length_set];done)|(simp;done)|skip)
     ·
      refine zL fun K hK=> ?_
      refine zf false zO zN ?_ rfl ?_
      ·kernel_rfl
      all_goals push_cast [↓zK,↓zJ]
      all_goals repeat'(first|(apply zP<;>(intro hg;(try simp only [push_cast]at hg)))|apply And.intro|(intro hg;(try simp only [push_cast]at hg)))
      all_goals first|exact gA|(exact zX (by omega))|(exact zQ (by omega))|skip
      all_goals(refine hK _ ?_;clear hK K)
      all_goals(
        refine zT rfl (fun hc=> ?_) (fun hc=> ?_)
        skip
        ·exfalso;first|(cases hc;done)|(simp only [push_cast]at hc;done)|(simp only [push_cast]at hc;omega)|omega
        refine zU (hK6 _ ?_)
        refine θB ?_
        refine hL1 _ ⟨q+1,by omega,by omega,?_⟩
        rw [JQ (by omega),Kg (fun h9=>how h9.2)]
        unfold Qy
        exact θX
        all_goals first|rfl|exact⟨rfl,rfl⟩|(simp only [List.length_set];done)|(simp;done)|skip)
    ·
     refine zh ?_
     have hqq:q=PS.length:=by omega
     subst hqq
     refine hK4 _ ?_
     refine θA ?_
     refine zZ ⟨Or.inl rfl,?_⟩
     push_cast [zd,zo,yA,↓zK,↓zJ]
     all_goals first|exact⟨(WX (Nat.le_refl _)).1.symm,(Qu _).1.symm⟩|rfl|exact⟨⟨rfl,rfl⟩,⟨rfl,rfl⟩,rfl⟩|exact⟨rfl,rfl⟩|(simp;done)|skip
set_option maxRecDepth 20000 in
set_option maxHeartbeats 8000000 in
theorem zB9 (a:Ar)(ha:a.Ln 1048576)(ps:List Pr)(hp:PLn 1048576 ps)(s:Int):Fn Tryz.prog tyT 9 [.agg (dAr a), .c (.lst 64 (dII (ilv ps))), .c (.int .i64 s)] [.agg (dMe (Vr a ps s)), .c (.bool (Zd a ps s))]:=by
 have hno:=ha.owner
 have hnn:=ha.next.1
 unfold LnI at hno
 have hA:=jt a ha
 have hF:=zEJ ps hp (a.owner.length:Int)
 have hSz:=zAc a
 have hV:=zC9 a s
 unfold dAr at hA hSz hV
 have hpl0:=hp.1
 have hli:=yq ps
 have hRec:=fun h=>zEj a ha ps hp s h
 have hGl:=zFc (a:=a) (ps:=ps) (s:=s)
 have hQl:=zFd (a:=a) (ps:=ps) (s:=s)
 have hgl1:=hGl.a.owner
 have hgl2:=hGl.a.next.1
 have hgl3:=hGl.prio
 have hql1:=hQl.1
 unfold LnI at hgl1 hgl3
 have hWl:=qL (rgG a ps s)
 have hPll:=VR (rgG a ps s)
 have hn1:=fun h=>zAV (a:=a) (prs:=ps) (s:=s) h
 have hn2:=fun h=>zFO (a:=a) (prs:=ps) (s:=s) h
 have hmy:=fun h1 h2=>zFP (a:=a) (prs:=ps) (s:=s) h1 h2
 have hmN:=fun h=>jX (a:=a) (prs:=ps) (s:=s) h
 have hmR:=fun h=>ky (a:=a) (prs:=ps) (s:=s) h
 have hmm:mofM a ps s=⟨mfN ps (xH (rgP a ps s) (rgP a ps s).length) a.owner.length (rgP a ps s) (rgP a ps s).length,mfC a (vK (rgG a ps s)) (xH (rgP a ps s) (rgP a ps s).length) a.owner.length (rgP a ps s) (rgP a ps s).length⟩:=rfl
 rw [hmm]at hmR
 have hMl:=zDT (a:=a) (prs:=ps) (s:=s)
 have hWn:=fun h:rgB a ps s=true=>Uo (rgG a ps s) hGl (ZE h)
 have hSv:=fun h:rgB a ps s=true=>zFv (rgG a ps s) hGl (ZE h)
 have hpos:=fun h:rgB a ps s=true=>(yQ (yJ (ZE h)).1).1
 have hPlr:=fun(h:rgB a ps s=true) u hu=>zDd (ZE h) (u:=u) hu
 have hok:=fun h:rgB a ps s=true=>Ug h
 have hcl:=fun(h:rgB a ps s=true) q (hq:q<(rgP a ps s).length)=>zJd h hq
 have har:=fun h:rgB a ps s=true=>(xz (wH h).1)
 have hMo:=fun(h:rgB a ps s=true) h1 h2 h3 h4 h5 h6=>zEY a ha ps hp (rgP a ps s) (zj (rgG a ps s)) (vK (rgG a ps s)) (har h).1 (har h).2.1 h1 h2 h3 h4 h5 h6
 generalize Zd a ps s=MB at*
 generalize Vr a ps s=MR at*
 generalize vK (rgG a ps s)=PL at*
 generalize zj (rgG a ps s)=WO at*
 generalize rgP a ps s=PS at*
 generalize rgG a ps s=G at*
 unfold dPa dAr at hRec
 unfold dPa at hWn hSv
 unfold dAr dMe at hMo
 unfold dAr dMe
 refine qm (fn:=Tryz.f9) (rs:= [.cell 6 30, .tmp 7]) zO zN Tryz.func9 (by kernel_rfl) rfl rfl (by rw [Tryz.ntmps9];exact Nat.le_of_ble_eq_true rfl) rfl (by simp only [szA,List.mem_cons,List.not_mem_nil,or_false,forall_eq_or_imp,forall_eq,VT.cells,szL];try decide) ?_
 rw [Tryz.ntmps9]
 push_cast [↓zK,↓zJ]
 refine θA ?_
 refine zL fun K1 hK1=> ?_
 refine zL fun K hK=> ?_
 refine zf false zO zN ?_ rfl ?_
 ·kernel_rfl
 all_goals refine yD 2 fun K9 hK9=> ?_
 all_goals push_cast [↓zK,↓zJ]
 all_goals repeat'(first|(apply zP<;>(intro hg;(try push_cast at hg)))|(refine⟨_,hA,?_⟩;push_cast [↓zK,↓zJ])|apply And.intro|(intro hg;(try push_cast at hg)))
 all_goals try exact gA
 all_goals(refine hK9 _ ?_;clear hK9 K9)
 all_goals refine yD 5 fun K9 hK9=> ?_
 all_goals push_cast [↓zK,↓zJ]
 all_goals repeat'(first|(apply zP<;>(intro hg;(try push_cast at hg)))|(refine⟨_,hSz,?_⟩;push_cast [↓zK,↓zJ])|apply And.intro|(intro hg;(try push_cast at hg)))
 all_goals try exact gA
 all_goals(refine hK9 _ ?_;clear hK9 K9)
 all_goals refine yD 1 fun K9 hK9=> ?_
 all_goals push_cast [↓zK,↓zJ]
 all_goals repeat'(first|(apply zP<;>(intro hg;(try push_cast at hg)))|(refine⟨_,hF,?_⟩;push_cast [↓zK,↓zJ])|apply And.intro|(intro hg;(try push_cast at hg)))
 all_goals try exact gA
 all_goals(refine hK9 _ ?_;clear hK9 K9)
 all_goals refine yD 6 fun K9 hK9=> ?_
 all_goals push_cast [↓zK,↓zJ]
 all_goals repeat'(first|(apply zP<;>(intro hg;(try push_cast at hg)))|(refine⟨_,hV,?_⟩;push_cast [↓zK,↓zJ])|apply And.intro|(intro hg;(try push_cast at hg)))
 all_goals try exact gA
 all_goals(refine hK9 _ ?_;clear hK9 K9)
 all_goals push_cast [↓zK,↓zJ]
 all_goals repeat'(first|(apply zP<;>(intro hg;(try push_cast at hg)))|(refine⟨_,hA,?_⟩;push_cast [↓zK,↓zJ])|(refine⟨_,hSz,?_⟩;push_cast [↓zK,↓zJ])|(refine⟨_,hF,?_⟩;push_cast [↓zK,↓zJ])|(refine⟨_,hV,?_⟩;push_cast [↓zK,↓zJ])|apply And.intro|(intro hg;(try push_cast at hg)))
 all_goals try exact gA
 all_goals(refine hK _ ?_;clear hK K)
 all_goals refine zT rfl (fun hc=> ?_) (fun hc=> ?_)
 all_goals(first|(cases hc;done)|skip)
 all_goals(try simp only [push_cast]at hc)
 all_goals try(
   refine θA ?_
   refine zZ ⟨Or.inl rfl,?_⟩
   push_cast [zd,zo,yA,↓zK,↓zJ]
   have hB0:rgB a ps s=false:=zNr (by first|exact zFY (by with_reducible assumption)|exact zFZ (by with_reducible assumption)|exact zFa (by omega))
   have hMB:=hn1 hB0
   have hMR:=hmN hMB
   rw [hMR,hMB]
   all_goals first|rfl|exact⟨⟨rfl,rfl⟩,⟨rfl,rfl⟩,rfl⟩|exact⟨rfl,rfl⟩|(simp;done)|skip
   done)
 refine zU (hK1 _ ?_)
 have hC:rgC a ps s=true:=zFb (by with_reducible assumption) (by with_reducible assumption) (by omega)
 have hRc:=hRec hC
 refine θL fun K hK=> ?_
 refine θD 4 ?_
 refine θE hK ?_
 refine zL fun K2 hK2=> ?_
 generalize hBd:rgB a ps s=b9 at*
 rcases(show b9=false∨(b9=true∧gi WO 0=0)∨(b9=true∧¬gi WO 0=0)from by cases b9<;>simp;omega)with rfl|⟨rfl,hw0⟩|⟨rfl,hw0⟩
 ·
  refine zL fun K hK=> ?_
  refine zf false zO zN ?_ rfl ?_
  ·kernel_rfl
  all_goals refine yD 5 fun K9 hK9=> ?_
  all_goals push_cast [↓zK,↓zJ]
  all_goals repeat'(first|(apply zP<;>(intro hg;(try push_cast at hg)))|(refine⟨_,hWy,?_⟩;push_cast [↓zK,↓zJ])|apply And.intro|(intro hg;(try push_cast at hg)))
  all_goals try exact gA
  all_goals(refine hK9 _ ?_;clear hK9 K9)
  all_goals push_cast [↓zK,↓zJ]
  all_goals repeat'(first|(apply zP<;>(intro hg;(try push_cast at hg)))|(refine⟨_,hWy,?_⟩;push_cast [↓zK,↓zJ])|apply And.intro|(intro hg;(try push_cast at hg)))
  all_goals try exact gA
  all_goals(refine hK _ ?_;clear hK K)
  all_goals(
    refine zT rfl (fun hc=> ?_) (fun hc=> ?_)
    rotate_left
    ·exfalso;first|(cases hc;done)|(simp only [push_cast]at hc;done)|(simp only [push_cast]at hc;omega)|omega
    refine θA ?_
    refine zZ ⟨Or.inl rfl,?_⟩
    push_cast [zd,zo,yA,↓zK,↓zJ]
    have hMB:MB=false:=by first|exact hn1 rfl|exact hn2 hw0
    have hMR:=hmN hMB
    rw [hMR,hMB]
    all_goals first|rfl|exact⟨⟨rfl,rfl⟩,⟨rfl,rfl⟩,rfl⟩|exact⟨rfl,rfl⟩|(simp;done)|skip)
 ·
  have hWy:=hWn rfl
  have hp9:=hpos rfl
  refine zL fun K hK=> ?_
  refine zf false zO zN ?_ rfl ?_
  ·kernel_rfl
  all_goals refine yD 5 fun K9 hK9=> ?_
  all_goals push_cast [↓zK,↓zJ]
  all_goals repeat'(first|(apply zP<;>(intro hg;(try push_cast at hg)))|(refine⟨_,hWy,?_⟩;push_cast [↓zK,↓zJ])|apply And.intro|(intro hg;(try push_cast at hg)))
  all_goals try exact gA
  all_goals(refine hK9 _ ?_;clear hK9 K9)
  all_goals push_cast [↓zK,↓zJ]
  all_goals repeat'(first|(apply zP<;>(intro hg;(try push_cast at hg)))|(refine⟨_,hWy,?_⟩;push_cast [↓zK,↓zJ])|apply And.intro|(intro hg;(try push_cast at hg)))
  all_goals try exact gA
  all_goals(refine hK _ ?_;clear hK K)
  all_goals(
    refine zT rfl (fun hc=> ?_) (fun hc=> ?_)
    skip
    ·exfalso;first|(cases hc;done)|(simp only [push_cast]at hc;done)|(simp only [push_cast]at hc;omega)|omega
    refine zU (hK2 _ ?_)
    have hSy:=hSv rfl
    obtain⟨o1,o2,o3⟩:=hok rfl
    have hMy:=hMo rfl o1 (by omega) (by omega) (fun u hu=>by have :=hPlr rfl u (by omega);omega) o3 (fun q hq=>hcl rfl q hq)
    have hMB:=hmy rfl hw0
    have hMR:=hmR hMB
    refine zL fun K hK=> ?_
    refine zx false zO zN ya ?_ rfl ?_
    ·kernel_rfl
    intro E hE
    all_goals refine yb 5 (by decide) fun K9 hK9=> ?_
    all_goals push_cast [↓zK,↓zJ]
    all_goals repeat'(first|(apply zP<;>(intro hg;(try push_cast at hg)))|(refine⟨_,hSy,?_⟩;push_cast [↓zK,↓zJ])|apply And.intro|(intro hg;(try push_cast at hg)))
    all_goals try exact gA
    all_goals(refine hK9 _ _ ?_;clear hK9 K9)
    all_goals refine yb 1 (by decide) fun K9 hK9=> ?_
    all_goals push_cast [↓zK,↓zJ]
    all_goals repeat'(first|(apply zP<;>(intro hg;(try push_cast at hg)))|(refine⟨_,hMy,?_⟩;push_cast [↓zK,↓zJ])|apply And.intro|(intro hg;(try push_cast at hg)))
    all_goals try exact gA
    all_goals(refine hK9 _ _ ?_;clear hK9 K9)
    all_goals push_cast [↓zK,↓zJ]
    all_goals repeat'(first|(apply zP<;>(intro hg;(try push_cast at hg)))|(refine⟨_,hSy,?_⟩;push_cast [↓zK,↓zJ])|(refine⟨_,hMy,?_⟩;push_cast [↓zK,↓zJ])|apply And.intro|(intro hg;(try push_cast at hg)))
    all_goals first|exact gA|(refine hE _ _ ?_ ?_;kernel_rfl)|skip
    all_goals clear hE E
    all_goals(refine hK _ ?_;clear hK K)
    refine zZ ⟨Or.inl rfl,?_⟩
    push_cast [zd,zo,yA,↓zK,↓zJ]
    rw [hMR,hMB]
    rw [hMR]at hMl
    obtain⟨hM1,hM2⟩:=hMl
    all_goals first|exact⟨⟨rfl,rfl⟩,⟨rfl,rfl⟩,rfl⟩|trace_state)
 ·
  have hWy:=hWn rfl
  have hp9:=hpos rfl
  refine zL fun K hK=> ?_
  refine zf false zO zN ?_ rfl ?_
  ·kernel_rfl
  all_goals refine yD 5 fun K9 hK9=> ?_
  all_goals push_cast [↓zK,↓zJ]
  all_goals repeat'(first|(apply zP<;>(intro hg;(try push_cast at hg)))|(refine⟨_,hWy,?_⟩;push_cast [↓zK,↓zJ])|apply And.intro|(intro hg;(try push_cast at hg)))
  all_goals try exact gA
  all_goals(refine hK9 _ ?_;clear hK9 K9)
  all_goals push_cast [↓zK,↓zJ]
  all_goals repeat'(first|(apply zP<;>(intro hg;(try push_cast at hg)))|(refine⟨_,hWy,?_⟩;push_cast [↓zK,↓zJ])|apply And.intro|(intro hg;(try push_cast at hg)))
  all_goals try exact gA
  all_goals(refine hK _ ?_;clear hK K)
  all_goals(
    refine zT rfl (fun hc=> ?_) (fun hc=> ?_)
    rotate_left
    ·exfalso;first|(cases hc;done)|(simp only [push_cast]at hc;done)|(simp only [push_cast]at hc;omega)|omega
    refine θA ?_
    refine zZ ⟨Or.inl rfl,?_⟩
    push_cast [zd,zo,yA,↓zK,↓zJ]
    have hMB:MB=false:=by first|exact hn1 rfl|exact hn2 hw0
    have hMR:=hmN hMB
    rw [hMR,hMB]
    all_goals first|rfl|exact⟨⟨rfl,rfl⟩,⟨rfl,rfl⟩,rfl⟩|exact⟨rfl,rfl⟩|(simp;done)|skip)
end Go.Proofs.YtcleaokoimhedaaGreat
