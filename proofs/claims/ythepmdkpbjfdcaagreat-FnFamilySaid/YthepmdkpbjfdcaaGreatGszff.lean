/- Recorded: the reference's side -/
import Derived.Test.YthepmdkpbjfdcaaGreatB16zff
import Derived.Test.YthepmdkpbjfdcaaGreatB11zff
namespace Go.Proofs.YthepmdkpbjfdcaaGreat
open Nat renaming reduceMod → zA, reduceMul → zB, reduceDiv → zC, reduceAdd → zD, reduceSub → zE, reduceEqDiff → zF, reduceBEq → zG, reduceLT → zH, reduceLeDiff → zI
open Go.RowKit
set_option linter.unusedVariables false
set_option linter.unusedSimpArgs false
set_option maxRecDepth 20000 in
set_option maxHeartbeats 4000000 in
theorem zGo (ps:List Pr)(ha:PLn 1048576 ps)(r:List Int)(hr:r.length≤1048576)(hrr: ∀i,i<r.length→0≤gi r i∧gi r i<(ps.length:Int))(v:Int):Fn Tryz.prog tyT 81 [.c (.lst 93 (dII (ilv ps))), .c (DI r), .c (.int .i64 v)] [.c (DI (nrF ps r v r.length++nrR ps r v r.length))]:=by
 have hl:=ha.1
 have hg:=fun k=>Xy ha k
 have hgg: ∀k,(gp ps k).give.length≤1048576:=fun k=>(hg k).give
 have hli:=xV ps
 have hnl:=zDo ps r v
 refine θH (ts:= [6]) Tryz.func81 Tryz.ntmps81 ?_
 push_cast
 refine θA ?_
 refine θA ?_
 refine θA ?_
 refine zL fun K1 hK1=> ?_
 refine θA ?_
 refine zV ?_
 refine zh [7,8,9,12,13,14,15,16,17,18,19,20,21,22,23,24,25,26,27,28,29,30,31,32,33,34,35,36,37,38,39,40,41] [112,128] (fun(k:Nat)=> [(9, .int .i64 k),(7, .sl 112 [] 0 (nrF ps r v k).length 2),(8, .sl 128 [] 0 (nrR ps r v k).length 2)]) (fun k=> []) (fun k=> [(112,⟨.ex,2,dI (nrF ps r v k),none⟩),(128,⟨.ex,2,dI (nrR ps r v k),none⟩)]) (fun k=>k≤r.length) (fun k=>r.length - k) 0 ?_ (by omega) ?_
 ·
  rw [show nrF ps r v 0= []from rfl,show nrR ps r v 0= []from rfl,show dI ([]:List Int)= []from rfl]
  exact θX
 ·rintro k hk KL0 hL0
  push_cast
  refine zL fun K2 hK2=> ?_
  refine θA ?_
  refine θU (fun hc=> ?_) fun hc=> ?_
  ·
   refine zW (hK2 _ ?_)
   refine zL fun K3 hK3=> ?_
   refine zV ?_
   have hrk:=hrr k (by omega)
   have hnk:=hnl k
   refine θL fun K hK=> ?_
   all_goals refine zj 10 fun K9 hK9=> ?_
   all_goals push_cast
   all_goals repeat'(first|(apply zO<;>(intro hg;push_cast at hg))|(refine⟨_,vM (gp ps (gi r k).toNat).give v (hgg _),?_⟩;push_cast)|apply And.intro|(intro hg;push_cast at hg))
   all_goals first|exact gA|(exact zP (by simp only [push_cast];omega))|(exact zP (by omega))|skip
   refine hK9 _ ?_;clear hK9 K9
   all_goals push_cast
   all_goals repeat'(first|(apply zO<;>(intro hg;push_cast at hg))|(refine⟨_,vM (gp ps (gi r k).toNat).give v (hgg _),?_⟩;push_cast)|apply And.intro|(intro hg;push_cast at hg))
   all_goals first|exact gA|(exact zP (by simp only [push_cast];omega))|(exact zP (by omega))|skip
   refine hK _ ?_;clear hK K
   refine θU (fun hc=> ?_) fun hc=> ?_
   ·
    refine θB ?_
    refine hK3 _ ?_
    refine θB ?_
    refine hL0 _ ⟨k+1,by omega,by omega,?_⟩
    rw [ja (by unfold gvB;with_reducible assumption),jb (by unfold gvB;with_reducible assumption)]
    refine zX rfl ?_ ?_ ?_<;>push_cast [zf,ze]
    all_goals(try(rw [List.length_append];rfl))
   ·
    refine θB ?_
    refine hK3 _ ?_
    refine θB ?_
    refine hL0 _ ⟨k+1,by omega,by omega,?_⟩
    rw [UR (by unfold gvB;with_reducible assumption),US (by unfold gvB;with_reducible assumption)]
    refine zX rfl ?_ ?_ ?_<;>push_cast [zf,ze]
    all_goals(try(rw [List.length_append];rfl))
  ·
   refine zi ?_
   have hkk:k=r.length:=by omega
   subst hkk
   have hnk9:=hnl r.length
   refine hK1 _ ?_
   refine θA ?_
   refine zY ⟨Or.inl rfl,?_⟩
   push_cast [zd]
   first|exact List.length_append.symm|exact⟨rfl,List.length_append.symm⟩|skip
theorem kD (ps:List Pr)(ha:PLn 1048576 ps)(r:List Int)(v:Int)(h:vh r ps.length=true):Fn Tryz.prog tyT 81 [.c (.lst 93 (dII (ilv ps))), .c (DI r), .c (.int .i64 v)] [.c (DI (nxL ps r v))]:=by
 have hf:=qU h
 have h1:=zGo ps ha r (by omega) (fun i hi=>(hf.2 i hi).1) v
 unfold nxL
 exact h1
theorem zEq (ps:List Pr)(ha:PLn 1048576 ps)(r:List Int)(v:Int)(h:vh r ps.length=true):Fn Tryz.prog tyT 129 [.c (.lst 93 (dII (ilv ps))), .c (DI r), .c (.int .i64 v)] [.c (.int .i64 (qD ps r v))]:=by
 have hf:=qU h
 have h1:=zGp ps ha r (by omega) (fun i hi=>(hf.2 i hi).1) v
 unfold qD
 exact h1
theorem zEv (ps:List Pr)(ha:PLn 1048576 ps)(r:List Int)(v:Int)(h:vh r ps.length=true):Fn Tryz.prog tyT 122 [.c (.lst 93 (dII (ilv ps))), .c (DI r), .c (.int .i64 v)] [.c (DI (nxL ps r v))]:=by
 have hf:=qU h
 have h1:=zEu ps ha r (by omega) (fun i hi=>(hf.2 i hi).1) v
 unfold nxL
 exact h1
theorem zFA (ps:List Pr)(ha:PLn 1048576 ps)(r:List Int)(v:Int)(h:vh r ps.length=true):Fn Tryz.prog tyT 124 [.c (.lst 93 (dII (ilv ps))), .c (DI r), .c (.int .i64 v)] [.c (.int .i64 (qD ps r v))]:=by
 have hf:=qU h
 have h1:=zE9 ps ha r (by omega) (fun i hi=>(hf.2 i hi).1) v
 unfold qD
 exact h1
set_option maxRecDepth 20000 in
set_option maxHeartbeats 8000000 in
theorem zCV (a:Ar)(ha:a.Ln 1048576)(ps:List Pr)(hp:PLn 1048576 ps)(s:Int):Fn Tryz.prog tyT 74 [.agg (dAr a), .c (.lst 93 (dII (ilv ps))), .c (.int .i64 s)] [.agg (dPa (rgG a ps s)), .c (.lst 112 (yy (rgP a ps s))), .c (.bool (rgB a ps s))]:=by
 have hno:=ha.owner
 have hnn:=ha.next.1
 have hrr: ∀v,(gl a.next v).length≤1048576:=fun v=>ZP ha.next v
 unfold LnI at hno
 have hA:=jo a ha
 have hF:=zEc ps hp (a.owner.length:Int)
 have hI:=xH s 0 ((a.owner.length:Int) - 1)
 have hpl0:=hp.1
 have hli:=xV ps
 unfold dAr at hA
 unfold dAr dPa
 refine XQ (fn:=Tryz.f74) (rs:= [.cell 6 80, .tmp 7, .tmp 8]) zQ zN Tryz.func74 (by kernel_rfl) rfl rfl (by rw [Tryz.ntmps74];exact Nat.le_of_ble_eq_true rfl) rfl (by simp only [szA,List.mem_cons,List.not_mem_nil,or_false,forall_eq_or_imp,forall_eq,VT.cells,szL];try decide) ?_
 rw [Tryz.ntmps74]
 push_cast [↓zK,↓zJ]
 refine θA ?_
 refine θA ?_
 refine zL fun K1 hK1=> ?_
 refine zL fun K hK=> ?_
 refine zc false zQ zN ?_ rfl ?_
 ·kernel_rfl
 all_goals refine zm 2 fun K9 hK9=> ?_
 all_goals push_cast [↓zK,↓zJ]
 all_goals repeat'(first|(apply zO<;>(intro hg;(try push_cast at hg)))|(refine⟨_,hA,?_⟩;push_cast [↓zK,↓zJ])|apply And.intro|(intro hg;(try push_cast at hg)))
 all_goals first|exact gA|(exact zZ (by omega))|skip
 all_goals(refine hK9 _ ?_;clear hK9 K9)
 all_goals refine zm 5 fun K9 hK9=> ?_
 all_goals push_cast [↓zK,↓zJ]
 all_goals repeat'(first|(apply zO<;>(intro hg;(try push_cast at hg)))|(refine⟨_,hF,?_⟩;push_cast [↓zK,↓zJ])|apply And.intro|(intro hg;(try push_cast at hg)))
 all_goals first|exact gA|(exact zZ (by omega))|skip
 all_goals(refine hK9 _ ?_;clear hK9 K9)
 all_goals refine zm 7 fun K9 hK9=> ?_
 all_goals push_cast [↓zK,↓zJ]
 all_goals repeat'(first|(apply zO<;>(intro hg;(try push_cast at hg)))|(refine⟨_,hI,?_⟩;push_cast [↓zK,↓zJ])|apply And.intro|(intro hg;(try push_cast at hg)))
 all_goals first|exact gA|(exact zZ (by omega))|skip
 all_goals(refine hK9 _ ?_;clear hK9 K9)
 all_goals push_cast [↓zK,↓zJ]
 all_goals repeat'(first|(apply zO<;>(intro hg;(try push_cast at hg)))|(refine⟨_,hA,?_⟩;push_cast [↓zK,↓zJ])|(refine⟨_,hF,?_⟩;push_cast [↓zK,↓zJ])|(refine⟨_,hI,?_⟩;push_cast [↓zK,↓zJ])|apply And.intro|(intro hg;(try push_cast at hg)))
 all_goals first|exact gA|(exact zZ (by omega))|skip
 all_goals(refine hK _ ?_;clear hK K)
 all_goals refine zU rfl (fun hc=> ?_) (fun hc=> ?_)
 all_goals(first|(cases hc;done)|skip)
 all_goals(try simp only [push_cast]at hc)
 all_goals try(
   refine θN ?_
   refine zY ⟨Or.inl rfl,?_⟩
   push_cast [zd,zt,yH,↓zK,↓zJ]
   obtain⟨e1,e2,e3⟩:=zN3 (a:=a) (ps:=ps) (s:=s) (by first|exact zFx (by with_reducible assumption)|exact zFy (by have hln9:=yO (a:=a) (by with_reducible assumption);rw [←JV (by omega)];with_reducible assumption)|exact zFz (by omega))
   rw [e1,e2,e3]
   all_goals first|rfl|exact⟨rfl,rfl⟩|(simp [dI,dII,yy];done)
   done)
 refine zW (hK1 _ ?_)
 have hC:rgC a ps s=true:=zAf (by with_reducible assumption) (by have hln9:=yO (a:=a) (by with_reducible assumption);rw [←JV (by omega)];with_reducible assumption) (by omega)
 obtain⟨h1,h2,h3⟩:=vN hC
 have hln:=yO h1
 refine θA ?_
 refine zL fun K2 hK2=> ?_
 refine θA ?_
 refine zV ?_
 refine zh [10,11,27,33,43,44,45,46,47,48,49,50,51,52] [160] (fun(k:Nat)=> [(11, .int .i64 k),(10, .sl 160 [] 0 k 2)]) (fun k=> []) (fun k=> [(160,⟨.ex,2,dI (zT k),none⟩)]) (fun k=>k≤ps.length) (fun k=>ps.length - k) 0 ?_ (by omega) ?_
 ·
  rw [show zT 0= []from rfl,show dI ([]:List Int)= []from rfl]
  exact θX
 ·rintro k hk KL0 hL0
  have hio:=Ww k
  push_cast [↓zK,↓zJ]
  refine zL fun K3 hK3=> ?_
  refine θA ?_
  refine θU (fun hc=> ?_) fun hc=> ?_
  ·
   refine zW (hK3 _ ?_)
   refine zL fun K4 hK4=> ?_
   refine zV ?_
   refine θB ?_
   refine hK4 _ ?_
   refine θB ?_
   refine hL0 _ ⟨k+1,by omega,by omega,?_⟩
   (try rw [List.take_of_length_le (l:=zT k) (by omega)])
   rw [zIM]
   exact θX
   all_goals first|rfl|skip
  ·
   refine zi ?_
   have hkk:k=ps.length:=by omega
   subst hkk
   refine hK2 _ ?_
   refine θN ?_
   refine xm 112 12 (Nat.le_of_ble_eq_true rfl) ?_
   push_cast [↓zK,↓zJ]
   refine θA ?_
   refine zL fun K5 hK5=> ?_
   refine θA ?_
   refine zV ?_
   refine zh [7,8,12,13,14,15,16,17,18,19,20,27,33,58,59,60,61,62,63,64,65,66,67,68,69,70,71,72,73,74,75,76,77,78,79,80,81,82,83,84,85,86,87,88,89,90,91,92,93,94,95,96,97,98,99,100,101,102,103,104,105,106,107,108,109,110,111,112,113,114,115,116,117,118,119,120,121,122,123,124,125,126,127,128,129,130,131,132,133,134,135,136,137,138,139,140,141,142,143,144,145,146,147,148,149,150,151] [] (fun(i:Nat)=> [(14, .int .i64 i),(12, .sl 192 [] 0 (stQ (usA a) (rcR ps) ⟨s,zT ps.length⟩ i).length 112),(13, .bp 13 0)]) (fun i=> [(13,[.sl 208 [] 0 i 2, .sl 209 [] 0 i 22, .sl 210 [] 0 i 2])]) (fun i=> [(192,⟨.ex,112,yy (stQ (usA a) (rcR ps) ⟨s,zT ps.length⟩ i),none⟩),(208,⟨.ex,2,dI (xT a (rcR ps) ⟨s,zT ps.length⟩ i),none⟩),(209,⟨.ex,22,dII (nxG a (rcR ps) ⟨s,zT ps.length⟩ i),none⟩),(210,⟨.ex,2,dI (prG a (rcR ps) (prR ps) ⟨s,zT ps.length⟩ i),none⟩)]) (fun i=>i≤256∧i≤(stQ (usA a) (rcR ps) ⟨s,zT ps.length⟩ i).length∧(stQ (usA a) (rcR ps) ⟨s,zT ps.length⟩ i).length≤256) (fun i=>257 - i) 0 ?_ ⟨by omega,Nat.zero_le _,(by show 1≤256;decide)⟩ ?_
   ·
    rw [show stQ (usA a) (rcR ps) ⟨s,zT ps.length⟩ 0= [⟨s,zT ps.length⟩]from rfl,zDs,zG1,zG8]
    refine zX rfl ?_ ?_ ?_<;>push_cast [zf,ze,↓zK,↓zJ]
    all_goals first|rfl|exact⟨rfl,rfl,rfl,rfl⟩|(rw [List.take_of_length_le (l:=zT ps.length) (by omega)];exact⟨rfl,rfl,rfl,rfl⟩)|skip
   ·rintro i ⟨hi,hil,hsl⟩ KL1 hL1
    have hall:=vD h1 h3 i
    have hq:QLn 1048576 (stQ (usA a) (rcR ps) ⟨s,zT ps.length⟩ i):=⟨by omega,fun p hp=>by have :=h3.small _ (hall p hp).2.2;omega⟩
    have hgl:=fun k=>Wu hq k
    have ho1:=qO (a:=a) (rc:=rcR ps) (p0:=⟨s,zT ps.length⟩) i
    have ho2:=Yy (a:=a) (rc:=rcR ps) (p0:=⟨s,zT ps.length⟩) i
    have ho3:=YF (a:=a) (rc:=rcR ps) (pr:=prR ps) (p0:=⟨s,zT ps.length⟩) i
    push_cast [↓zK,↓zJ]
    refine zL fun K6 hK6=> ?_
    refine θA ?_
    refine θU (fun hc=> ?_) fun hc=> ?_
    ·
     refine zW (hK6 _ ?_)
     refine zL fun K7 hK7=> ?_
     refine zV ?_
     have hP:=hall _ (vC (k:=i) (by omega))
     have hU:1≤(gl a.next (gq (stQ (usA a) (rcR ps) ⟨s,zT ps.length⟩ i) i).at_.toNat).length∧(gl a.next (gq (stQ (usA a) (rcR ps) ⟨s,zT ps.length⟩ i) i).at_.toNat).length≤16∧∀u∈(gl a.next (gq (stQ (usA a) (rcR ps) ⟨s,zT ps.length⟩ i) i).at_.toNat),0≤u∧u<(a.owner.length:Int):=Je h1 ⟨hP.1,hP.2.1⟩
     have hpl:=h3.small _ hP.2.2
     have hnl:(nxL ps (gq (stQ (usA a) (rcR ps) ⟨s,zT ps.length⟩ i) i).record (gq (stQ (usA a) (rcR ps) ⟨s,zT ps.length⟩ i) i).at_).length≤4:=h3.small _ (h3.next _ hP.1 hP.2.1 hP.2.2)
     refine θA ?_
     refine θL fun K hK=> ?_
     all_goals refine zj 6 fun K9 hK9=> ?_
     all_goals push_cast [↓zK,↓zJ]
     all_goals repeat'(first|(apply zO<;>(intro hg;(try simp only [push_cast]at hg)))|(refine⟨_,kD ps hp (gq (stQ (usA a) (rcR ps) ⟨s,zT ps.length⟩ i) i).record (gq (stQ (usA a) (rcR ps) ⟨s,zT ps.length⟩ i) i).at_ hP.2.2,?_⟩;push_cast [↓zK,↓zJ])|apply And.intro|(intro hg;(try simp only [push_cast]at hg)))
     all_goals first|exact gA|(exact zZ (by omega))|skip
     all_goals(refine hK9 _ ?_;clear hK9 K9)
     all_goals push_cast [↓zK,↓zJ]
     all_goals repeat'(first|(apply zO<;>(intro hg;(try simp only [push_cast]at hg)))|(refine⟨_,kD ps hp (gq (stQ (usA a) (rcR ps) ⟨s,zT ps.length⟩ i) i).record (gq (stQ (usA a) (rcR ps) ⟨s,zT ps.length⟩ i) i).at_ hP.2.2,?_⟩;push_cast [↓zK,↓zJ])|apply And.intro|(intro hg;(try simp only [push_cast]at hg)))
     all_goals first|exact gA|(exact zZ (by omega))|skip
     all_goals(refine hK _ ?_;clear hK K)
     refine θA ?_
     refine zL fun K8 hK8=> ?_
     refine θA ?_
     refine zV ?_
     refine zh [7,8,12,15,17,18,19,20,27,33,59,64,66,67,68,69,70,71,72,75,76,77,78,79,80,81,82,83,84,85,86,87,88,89,90,91,92,93,94,95,96,97,98,99,100,101,102,103,104,105,106,107,108,109,110,111,112,113,114,115,116,117,118] [272,240,241] (fun(k:Nat)=> [(18, .int .i64 k),(12, .sl 192 [] 0 (zn (nxL ps (gq (stQ (usA a) (rcR ps) ⟨s,zT ps.length⟩ i) i).record (gq (stQ (usA a) (rcR ps) ⟨s,zT ps.length⟩ i) i).at_) (gl a.next (gq (stQ (usA a) (rcR ps) ⟨s,zT ps.length⟩ i) i).at_.toNat) (stQ (usA a) (rcR ps) ⟨s,zT ps.length⟩ i) k).1.length 112),(17, .sl 272 [] 0 k 2),(15, .bp 15 0)]) (fun k=> [(15,[.int .i64 (gq (stQ (usA a) (rcR ps) ⟨s,zT ps.length⟩ i) i).at_, .sl 192 [i*2+1] 0 (gq (stQ (usA a) (rcR ps) ⟨s,zT ps.length⟩ i) i).record.length 2])]) (fun k=> [(192,⟨.ex,112,yy (zn (nxL ps (gq (stQ (usA a) (rcR ps) ⟨s,zT ps.length⟩ i) i).record (gq (stQ (usA a) (rcR ps) ⟨s,zT ps.length⟩ i) i).at_) (gl a.next (gq (stQ (usA a) (rcR ps) ⟨s,zT ps.length⟩ i) i).at_.toNat) (stQ (usA a) (rcR ps) ⟨s,zT ps.length⟩ i) k).1,none⟩),(272,⟨.ex,2,dI (zn (nxL ps (gq (stQ (usA a) (rcR ps) ⟨s,zT ps.length⟩ i) i).record (gq (stQ (usA a) (rcR ps) ⟨s,zT ps.length⟩ i) i).at_) (gl a.next (gq (stQ (usA a) (rcR ps) ⟨s,zT ps.length⟩ i) i).at_.toNat) (stQ (usA a) (rcR ps) ⟨s,zT ps.length⟩ i) k).2,none⟩)]) (fun k=>k≤(gl a.next (gq (stQ (usA a) (rcR ps) ⟨s,zT ps.length⟩ i) i).at_.toNat).length∧(zn (nxL ps (gq (stQ (usA a) (rcR ps) ⟨s,zT ps.length⟩ i) i).record (gq (stQ (usA a) (rcR ps) ⟨s,zT ps.length⟩ i) i).at_) (gl a.next (gq (stQ (usA a) (rcR ps) ⟨s,zT ps.length⟩ i) i).at_.toNat) (stQ (usA a) (rcR ps) ⟨s,zT ps.length⟩ i) k).1.length≤256) (fun k=>(gl a.next (gq (stQ (usA a) (rcR ps) ⟨s,zT ps.length⟩ i) i).at_.toNat).length - k) 0 ?_ ⟨by omega,hsl⟩ ?_
     ·
      rw [Ud]
      refine zX rfl ?_ ?_ ?_<;>push_cast [zf,ze,↓zK,↓zJ]
      all_goals rfl
     ·rintro k ⟨hk,hkl⟩ KL2 hL2
      have hrl:=xw (r:=(nxL ps (gq (stQ (usA a) (rcR ps) ⟨s,zT ps.length⟩ i) i).record (gq (stQ (usA a) (rcR ps) ⟨s,zT ps.length⟩ i) i).at_)) (us:=(gl a.next (gq (stQ (usA a) (rcR ps) ⟨s,zT ps.length⟩ i) i).at_.toNat)) (ps:=(stQ (usA a) (rcR ps) ⟨s,zT ps.length⟩ i)) (k:=k) hk
      have hQr:QLn 1048576 (zn (nxL ps (gq (stQ (usA a) (rcR ps) ⟨s,zT ps.length⟩ i) i).record (gq (stQ (usA a) (rcR ps) ⟨s,zT ps.length⟩ i) i).at_) (gl a.next (gq (stQ (usA a) (rcR ps) ⟨s,zT ps.length⟩ i) i).at_.toNat) (stQ (usA a) (rcR ps) ⟨s,zT ps.length⟩ i) k).1:=⟨by omega,fun p hp=>by have :=h3.small _ (zDy h1 h3 (i:=i) (k:=k) (by omega) hk p hp).2.2;omega⟩
      have hx:=zDX (yw (gi (gl a.next (gq (stQ (usA a) (rcR ps) ⟨s,zT ps.length⟩ i) i).at_.toNat) k) (nxL ps (gq (stQ (usA a) (rcR ps) ⟨s,zT ps.length⟩ i) i).record (gq (stQ (usA a) (rcR ps) ⟨s,zT ps.length⟩ i) i).at_)) (zn (nxL ps (gq (stQ (usA a) (rcR ps) ⟨s,zT ps.length⟩ i) i).record (gq (stQ (usA a) (rcR ps) ⟨s,zT ps.length⟩ i) i).at_) (gl a.next (gq (stQ (usA a) (rcR ps) ⟨s,zT ps.length⟩ i) i).at_.toNat) (stQ (usA a) (rcR ps) ⟨s,zT ps.length⟩ i) k).1
      push_cast [↓zK,↓zJ]
      refine zL fun K9 hK9=> ?_
      refine θA ?_
      refine θU (fun hc=> ?_) fun hc=> ?_
      ·
       refine zW (hK9 _ ?_)
       refine zL fun K10 hK10=> ?_
       refine zV ?_
       refine θA ?_
       refine θL fun K hK=> ?_
       all_goals refine zj 4 fun K9 hK9=> ?_
       all_goals push_cast [↓zK,↓zJ]
       all_goals repeat'(first|(apply zO<;>(intro hg;(try simp only [push_cast]at hg)))|(refine⟨_,UM (zn (nxL ps (gq (stQ (usA a) (rcR ps) ⟨s,zT ps.length⟩ i) i).record (gq (stQ (usA a) (rcR ps) ⟨s,zT ps.length⟩ i) i).at_) (gl a.next (gq (stQ (usA a) (rcR ps) ⟨s,zT ps.length⟩ i) i).at_.toNat) (stQ (usA a) (rcR ps) ⟨s,zT ps.length⟩ i) k).1 hQr (gi (gl a.next (gq (stQ (usA a) (rcR ps) ⟨s,zT ps.length⟩ i) i).at_.toNat) k) (nxL ps (gq (stQ (usA a) (rcR ps) ⟨s,zT ps.length⟩ i) i).record (gq (stQ (usA a) (rcR ps) ⟨s,zT ps.length⟩ i) i).at_) (by omega),?_⟩;push_cast [↓zK,↓zJ])|apply And.intro|(intro hg;(try simp only [push_cast]at hg)))
       all_goals first|exact gA|(exact zZ (by omega))|skip
       all_goals(refine hK9 _ ?_;clear hK9 K9)
       all_goals push_cast [↓zK,↓zJ]
       all_goals repeat'(first|(apply zO<;>(intro hg;(try simp only [push_cast]at hg)))|(refine⟨_,UM (zn (nxL ps (gq (stQ (usA a) (rcR ps) ⟨s,zT ps.length⟩ i) i).record (gq (stQ (usA a) (rcR ps) ⟨s,zT ps.length⟩ i) i).at_) (gl a.next (gq (stQ (usA a) (rcR ps) ⟨s,zT ps.length⟩ i) i).at_.toNat) (stQ (usA a) (rcR ps) ⟨s,zT ps.length⟩ i) k).1 hQr (gi (gl a.next (gq (stQ (usA a) (rcR ps) ⟨s,zT ps.length⟩ i) i).at_.toNat) k) (nxL ps (gq (stQ (usA a) (rcR ps) ⟨s,zT ps.length⟩ i) i).record (gq (stQ (usA a) (rcR ps) ⟨s,zT ps.length⟩ i) i).at_) (by omega),?_⟩;push_cast [↓zK,↓zJ])|apply And.intro|(intro hg;(try simp only [push_cast]at hg)))
       all_goals first|exact gA|(exact zZ (by omega))|skip
       all_goals(refine hK _ ?_;clear hK K)
       refine zL fun K11 hK11=> ?_
       refine θA ?_
       refine θU (fun hc=> ?_) fun hc=> ?_
       ·
        refine θA ?_
        refine zL fun K12 hK12=> ?_
        refine θA ?_
        refine θU (fun hc=> ?_) fun hc=> ?_
        ·
         refine θN ?_
         refine zY ⟨Or.inl rfl,?_⟩
         push_cast [zd,zt,yH,↓zK,↓zJ]
         obtain⟨e1,e2,e3⟩:=zIm (a:=a) (ps:=ps) (s:=s) (zL8 (i:=i) (k:=k) (by omega) (by omega) (by show k<(gl a.next (gq (stQ (usA a) (rcR ps) ⟨s,zT ps.length⟩ i) i).at_.toNat).length;omega) (by show ixQ (yw (gi (gl a.next (gq (stQ (usA a) (rcR ps) ⟨s,zT ps.length⟩ i) i).at_.toNat) k) (nxL ps (gq (stQ (usA a) (rcR ps) ⟨s,zT ps.length⟩ i) i).record (gq (stQ (usA a) (rcR ps) ⟨s,zT ps.length⟩ i) i).at_)) (zn (nxL ps (gq (stQ (usA a) (rcR ps) ⟨s,zT ps.length⟩ i) i).record (gq (stQ (usA a) (rcR ps) ⟨s,zT ps.length⟩ i) i).at_) (gl a.next (gq (stQ (usA a) (rcR ps) ⟨s,zT ps.length⟩ i) i).at_.toNat) (stQ (usA a) (rcR ps) ⟨s,zT ps.length⟩ i) k).1<0;with_reducible assumption) (by show 256≤(zn (nxL ps (gq (stQ (usA a) (rcR ps) ⟨s,zT ps.length⟩ i) i).record (gq (stQ (usA a) (rcR ps) ⟨s,zT ps.length⟩ i) i).at_) (gl a.next (gq (stQ (usA a) (rcR ps) ⟨s,zT ps.length⟩ i) i).at_.toNat) (stQ (usA a) (rcR ps) ⟨s,zT ps.length⟩ i) k).1.length;omega))
         rw [e1,e2,e3]
         all_goals first|rfl|exact⟨rfl,rfl⟩|(simp [dI,dII,yy];done)
        ·
         refine zW (hK12 _ ?_)
         refine Vi 7 15 1 1824 192 [192] zQ zN ?_ rfl rfl rfl fun K9 hK9=> ?_
         ·kernel_rfl
         all_goals push_cast [↓zK,↓zJ]
         all_goals repeat'(first|(apply zO<;>(intro hg;(try push_cast at hg)))|apply And.intro|(intro hg;(try push_cast at hg)))
         all_goals first|exact gA|(exact zZ (by omega))|skip
         all_goals(refine hK9 _ ?_;clear hK9 K9)
         all_goals push_cast [↓zK,↓zJ]
         all_goals repeat'(first|(apply zO<;>(intro hg;(try push_cast at hg)))|apply And.intro|(intro hg;(try push_cast at hg)))
         all_goals first|exact gA|(exact zZ (by omega))|skip
         refine hK11 _ ?_
         refine θB ?_
         refine hK10 _ ?_
         refine θB ?_
         refine hL2 _ ⟨k+1,⟨by omega,(by rw [va (by omega) (by with_reducible assumption),List.length_append,List.length_singleton];omega)⟩,by omega,?_⟩
         (try rw [List.take_of_length_le (l:=(zn (nxL ps (gq (stQ (usA a) (rcR ps) ⟨s,zT ps.length⟩ i) i).record (gq (stQ (usA a) (rcR ps) ⟨s,zT ps.length⟩ i) i).at_) (gl a.next (gq (stQ (usA a) (rcR ps) ⟨s,zT ps.length⟩ i) i).at_.toNat) (stQ (usA a) (rcR ps) ⟨s,zT ps.length⟩ i) k).2) (by omega)])
         rw [va (by omega) (by with_reducible assumption)]
         refine zX rfl ?_ ?_ ?_<;>push_cast [zf,ze,↓zK,↓zJ]
         all_goals first|rfl|(rw [List.length_append];rfl)|exact⟨rfl,rfl⟩|skip
       ·
        refine zW (hK11 _ ?_)
        refine θB ?_
        refine hK10 _ ?_
        refine θB ?_
        refine hL2 _ ⟨k+1,⟨by omega,(by rw [wA (by omega) (by with_reducible assumption)];omega)⟩,by omega,?_⟩
        (try rw [List.take_of_length_le (l:=(zn (nxL ps (gq (stQ (usA a) (rcR ps) ⟨s,zT ps.length⟩ i) i).record (gq (stQ (usA a) (rcR ps) ⟨s,zT ps.length⟩ i) i).at_) (gl a.next (gq (stQ (usA a) (rcR ps) ⟨s,zT ps.length⟩ i) i).at_.toNat) (stQ (usA a) (rcR ps) ⟨s,zT ps.length⟩ i) k).2) (by omega)])
        rw [wA (by omega) (by with_reducible assumption)]
        exact θX
        all_goals first|rfl|(rw [List.length_append];rfl)|exact⟨rfl,rfl⟩|skip
      ·
       refine zi ?_
       have hkk:k=(gl a.next (gq (stQ (usA a) (rcR ps) ⟨s,zT ps.length⟩ i) i).at_.toNat).length:=by omega
       subst hkk
       refine hK8 _ ?_
       refine zL fun K hK=> ?_
       refine yN false zQ zN xR ?_ rfl ?_
       ·kernel_rfl
       intro E hE
       all_goals push_cast [↓zK,↓zJ]
       all_goals repeat'(first|(apply zO<;>(intro hg;(try push_cast at hg)))|apply And.intro|(intro hg;(try push_cast at hg)))
       all_goals first|exact gA|(refine hE _ _ ?_ ?_;kernel_rfl)|(exact zZ (by omega))|skip
       all_goals clear hE E
       all_goals(refine hK _ ?_;clear hK K)
       have hSo:Fn Tryz.prog tyT 104 [.c (DI (List.take (gl a.next (gq (stQ (usA a) (rcR ps) ⟨s,zT ps.length⟩ i) i).at_.toNat).length (zn (nxL ps (gq (stQ (usA a) (rcR ps) ⟨s,zT ps.length⟩ i) i).record (gq (stQ (usA a) (rcR ps) ⟨s,zT ps.length⟩ i) i).at_) (gl a.next (gq (stQ (usA a) (rcR ps) ⟨s,zT ps.length⟩ i) i).at_.toNat) (stQ (usA a) (rcR ps) ⟨s,zT ps.length⟩ i) (gl a.next (gq (stQ (usA a) (rcR ps) ⟨s,zT ps.length⟩ i) i).at_.toNat).length).2))] [.c (DI (zz (zn (nxL ps (gq (stQ (usA a) (rcR ps) ⟨s,zT ps.length⟩ i) i).record (gq (stQ (usA a) (rcR ps) ⟨s,zT ps.length⟩ i) i).at_) (gl a.next (gq (stQ (usA a) (rcR ps) ⟨s,zT ps.length⟩ i) i).at_.toNat) (stQ (usA a) (rcR ps) ⟨s,zT ps.length⟩ i) (gl a.next (gq (stQ (usA a) (rcR ps) ⟨s,zT ps.length⟩ i) i).at_.toNat).length).2))]:=by rw [List.take_of_length_le (l:=(zn (nxL ps (gq (stQ (usA a) (rcR ps) ⟨s,zT ps.length⟩ i) i).record (gq (stQ (usA a) (rcR ps) ⟨s,zT ps.length⟩ i) i).at_) (gl a.next (gq (stQ (usA a) (rcR ps) ⟨s,zT ps.length⟩ i) i).at_.toNat) (stQ (usA a) (rcR ps) ⟨s,zT ps.length⟩ i) (gl a.next (gq (stQ (usA a) (rcR ps) ⟨s,zT ps.length⟩ i) i).at_.toNat).length).2) (by omega)];exact zDY _ (by omega)
       refine zL fun K hK=> ?_
       refine yN false zQ zN xR ?_ rfl ?_
       ·kernel_rfl
       intro E hE
       all_goals refine yb 5 (by decide) fun K9 hK9=> ?_
       all_goals push_cast [↓zK,↓zJ]
       all_goals repeat'(first|(apply zO<;>(intro hg;(try push_cast at hg)))|(refine⟨_,hSo,?_⟩;push_cast [↓zK,↓zJ])|apply And.intro|(intro hg;(try push_cast at hg)))
       all_goals first|exact gA|(exact zZ (by omega))|skip
       all_goals(refine hK9 _ _ ?_;clear hK9 K9)
       all_goals push_cast [↓zK,↓zJ]
       all_goals repeat'(first|(apply zO<;>(intro hg;(try push_cast at hg)))|(refine⟨_,hSo,?_⟩;push_cast [↓zK,↓zJ])|apply And.intro|(intro hg;(try push_cast at hg)))
       all_goals first|exact gA|(refine hE _ _ ?_ ?_;kernel_rfl)|(exact zZ (by omega))|skip
       all_goals clear hE E
       all_goals(refine hK _ ?_;clear hK K)
       have hgi:gq (zn (nxL ps (gq (stQ (usA a) (rcR ps) ⟨s,zT ps.length⟩ i) i).record (gq (stQ (usA a) (rcR ps) ⟨s,zT ps.length⟩ i) i).at_) (gl a.next (gq (stQ (usA a) (rcR ps) ⟨s,zT ps.length⟩ i) i).at_.toNat) (stQ (usA a) (rcR ps) ⟨s,zT ps.length⟩ i) (gl a.next (gq (stQ (usA a) (rcR ps) ⟨s,zT ps.length⟩ i) i).at_.toNat).length).1 i=(gq (stQ (usA a) (rcR ps) ⟨s,zT ps.length⟩ i) i):=WW (by omega) (Nat.le_refl _)
       have hPq:Fn Tryz.prog tyT 129 [.c (.lst 93 (dII (ilv ps))), .c (DI (List.take (gq (stQ (usA a) (rcR ps) ⟨s,zT ps.length⟩ i) i).record.length (gq (zn (nxL ps (gq (stQ (usA a) (rcR ps) ⟨s,zT ps.length⟩ i) i).record (gq (stQ (usA a) (rcR ps) ⟨s,zT ps.length⟩ i) i).at_) (gl a.next (gq (stQ (usA a) (rcR ps) ⟨s,zT ps.length⟩ i) i).at_.toNat) (stQ (usA a) (rcR ps) ⟨s,zT ps.length⟩ i) (gl a.next (gq (stQ (usA a) (rcR ps) ⟨s,zT ps.length⟩ i) i).at_.toNat).length).1 i).record)), .c (.int .i64 (gq (stQ (usA a) (rcR ps) ⟨s,zT ps.length⟩ i) i).at_)] [.c (.int .i64 (qD ps (gq (stQ (usA a) (rcR ps) ⟨s,zT ps.length⟩ i) i).record (gq (stQ (usA a) (rcR ps) ⟨s,zT ps.length⟩ i) i).at_))]:=by rw [hgi,List.take_length];exact zEq ps hp _ _ hP.2.2
       refine yN false zQ zN xR ?_ rfl ?_
       ·kernel_rfl
       intro E hE
       all_goals refine yb 8 (by decide) fun K9 hK9=> ?_
       all_goals push_cast [↓zK,↓zJ]
       all_goals repeat'(first|(apply zO<;>(intro hg;(try push_cast at hg)))|(refine⟨_,hPq,?_⟩;push_cast [↓zK,↓zJ])|apply And.intro|(intro hg;(try push_cast at hg)))
       all_goals first|exact gA|(exact zZ (by omega))|skip
       all_goals(refine hK9 _ _ ?_;clear hK9 K9)
       all_goals push_cast [↓zK,↓zJ]
       all_goals repeat'(first|(apply zO<;>(intro hg;(try push_cast at hg)))|(refine⟨_,hPq,?_⟩;push_cast [↓zK,↓zJ])|apply And.intro|(intro hg;(try push_cast at hg)))
       all_goals first|exact gA|(refine hE _ _ ?_ ?_;kernel_rfl)|(exact zZ (by omega))|skip
       all_goals clear hE E
       refine hK7 _ ?_
       refine yx [.sl 2, .sl 22, .sl 2] 13 ?_
       push_cast [↓zK,↓zJ]
       refine θB ?_
       have hst:(stQ (usA a) (rcR ps) ⟨s,zT ps.length⟩ (i+1))=(zn (nxL ps (gq (stQ (usA a) (rcR ps) ⟨s,zT ps.length⟩ i) i).record (gq (stQ (usA a) (rcR ps) ⟨s,zT ps.length⟩ i) i).at_) (gl a.next (gq (stQ (usA a) (rcR ps) ⟨s,zT ps.length⟩ i) i).at_.toNat) (stQ (usA a) (rcR ps) ⟨s,zT ps.length⟩ i) (gl a.next (gq (stQ (usA a) (rcR ps) ⟨s,zT ps.length⟩ i) i).at_.toNat).length).1:=ZV (by omega)
       refine hL1 _ ⟨i+1,⟨by omega,(by rw [hst];omega),(by rw [hst];omega)⟩,by omega,?_⟩
       (try rw [List.take_of_length_le (l:=xT a (rcR ps) ⟨s,zT ps.length⟩ i) (by omega)])
       (try rw [List.take_of_length_le (l:=nxG a (rcR ps) ⟨s,zT ps.length⟩ i) (by omega)])
       (try rw [List.take_of_length_le (l:=prG a (rcR ps) (prR ps) ⟨s,zT ps.length⟩ i) (by omega)])
       rw [hst,zDt,zG2,zG9,show plQ (usA a) (rcR ps) ⟨s,zT ps.length⟩ i=(gq (stQ (usA a) (rcR ps) ⟨s,zT ps.length⟩ i) i)from rfl,show nxQ (usA a) (rcR ps) ⟨s,zT ps.length⟩ i=zz (zn (nxL ps (gq (stQ (usA a) (rcR ps) ⟨s,zT ps.length⟩ i) i).record (gq (stQ (usA a) (rcR ps) ⟨s,zT ps.length⟩ i) i).at_) (gl a.next (gq (stQ (usA a) (rcR ps) ⟨s,zT ps.length⟩ i) i).at_.toNat) (stQ (usA a) (rcR ps) ⟨s,zT ps.length⟩ i) (gl a.next (gq (stQ (usA a) (rcR ps) ⟨s,zT ps.length⟩ i) i).at_.toNat).length).2 from rfl,show prR ps (gq (stQ (usA a) (rcR ps) ⟨s,zT ps.length⟩ i) i)=(qD ps (gq (stQ (usA a) (rcR ps) ⟨s,zT ps.length⟩ i) i).record (gq (stQ (usA a) (rcR ps) ⟨s,zT ps.length⟩ i) i).at_)from rfl]
       exact θX
       all_goals first|rfl|exact⟨rfl,rfl,rfl,rfl⟩|skip
    ·
     refine zi (hK5 _ ?_)
     refine θA ?_
     refine zY ⟨Or.inl rfl,?_⟩
     push_cast [zd,zt,yH,↓zK,↓zJ]
     obtain⟨e1,e2,e3⟩:=zAL (a:=a) (rc:=rcR ps) (pr:=prR ps) (p0:=⟨s,zT ps.length⟩) (i:=i) hC hi (by omega) hil
     unfold rgG rgP rgB
     rw [e1,e2,e3]
     simp only [gmA,ho1,ho2,ho3]
     all_goals first|rfl|exact⟨⟨⟨rfl,rfl⟩,⟨rfl,rfl⟩,⟨rfl,rfl⟩⟩,rfl,rfl⟩|exact⟨rfl,rfl⟩|(simp;done)
end Go.Proofs.YthepmdkpbjfdcaaGreat
