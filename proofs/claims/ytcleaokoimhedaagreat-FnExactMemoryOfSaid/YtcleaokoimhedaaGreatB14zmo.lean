/- Recorded: the program's side -/
import Derived.Test.YtcleaokoimhedaaGreatB11zmo
import Derived.Test.YtcleaokoimhedaaGreatB13zmo
import Derived.Test.YtcleaokoimhedaaGreatGDzmo
namespace Go.Proofs.YtcleaokoimhedaaGreat
open Nat renaming reduceMod → zA, reduceMul → zB, reduceDiv → zC, reduceAdd → zD, reduceSub → zE, reduceEqDiff → zF, reduceBEq → zG, reduceLT → zH, reduceLeDiff → zI
open Go.RowKit
set_option linter.unusedVariables false
set_option linter.unusedSimpArgs false
set_option maxRecDepth 20000 in
set_option maxHeartbeats 4000000 in
theorem zDh (ps:List Pr)(hp:PLn 1048576 ps)(p:Plc)(hv:vZ p.record ps.length=true):FnX Tryz.prog tyT 55 [.v (.agg [.int .i64 p.at_,DI p.record]), .ref (.lst 2 [.lst 64 (dII (ilv ps))])] [.c (DI (nxL ps p.record p.at_))]:=by
 have hl:=hp.1
 have hli:=yq ps
 have hrf:=(xB hv).1
 have hN:=kL ps hp p.record p.at_ hv
 refine QW (fn:=Tryz.f55) (rs:= [.tmp 3]) zO zN Tryz.func55 (by kernel_rfl) rfl rfl (by rw [Tryz.ntmps55];exact Nat.le_of_ble_eq_true rfl) rfl (by simp only [szX,List.mem_cons,List.not_mem_nil,or_false,forall_eq_or_imp,forall_eq,XT.cells,VT.cells,szL];try decide) ?_
 rw [Tryz.ntmps55]
 push_cast
 refine θA ?_
 refine θL fun K hK=> ?_
 refine θD 6 ?_
 refine θE hK ?_
 refine zZ ⟨Or.inl rfl,?_⟩
 push_cast [zd,zo,yA]
set_option maxRecDepth 20000 in
set_option maxHeartbeats 4000000 in
theorem zDi (ps:List Pr)(hp:PLn 1048576 ps)(p:Plc)(hv:vZ p.record ps.length=true):FnX Tryz.prog tyT 57 [.v (.agg [.int .i64 p.at_,DI p.record]), .ref (.lst 2 [.lst 64 (dII (ilv ps))])] [.c (.int .i64 (vl ps p.record p.at_))]:=by
 have hl:=hp.1
 have hli:=yq ps
 have hrf:=(xB hv).1
 have hN:=zEi ps hp p.record p.at_ hv
 refine QW (fn:=Tryz.f57) (rs:= [.tmp 3]) zO zN Tryz.func57 (by kernel_rfl) rfl rfl (by rw [Tryz.ntmps57];exact Nat.le_of_ble_eq_true rfl) rfl (by simp only [szX,List.mem_cons,List.not_mem_nil,or_false,forall_eq_or_imp,forall_eq,XT.cells,VT.cells,szL];try decide) ?_
 rw [Tryz.ntmps57]
 push_cast
 refine θA ?_
 refine θL fun K hK=> ?_
 refine θD 6 ?_
 refine θE hK ?_
 refine zZ ⟨Or.inl rfl,?_⟩
 push_cast [zd,zo,yA]
set_option maxRecDepth 20000 in
set_option maxHeartbeats 16000000 in
theorem zAa (a:Ar)(ha:a.Ln 1048576)(ps:List Pr)(hp:PLn 1048576 ps)(hp4:ps.length≤4)(s:Int)(hPre:yi a=true∧Wr a (rcR ps) ⟨s,zW ps.length⟩ (fun r=>vZ r ps.length=true) 4)(K0:AV→List AV→List (Nat×zq)→Prop)(hKA:okQ (usA a) (rcR ps) ⟨s,zW ps.length⟩=false→K0 (.tup [.agg [.sl 128 [] 0 0 2, .sl 129 [] 0 0 22, .sl 130 [] 0 0 2], .sl 144 [] 0 0 59, .bool false]) [.sl 96 [] 0 0 2, .sl 97 [] 0 0 22, .sl 98 [] 0 0 2] [(128,⟨.ex,2,[],none⟩),(129,⟨.ex,22,[],none⟩),(130,⟨.ex,2,[],none⟩),(144,⟨.ex,59,[],none⟩)])(hKB: ∀i,i≤256→¬i<(stQ (usA a) (rcR ps) ⟨s,zW ps.length⟩ i).length→i≤(stQ (usA a) (rcR ps) ⟨s,zW ps.length⟩ i).length→K0 (.tup [.agg [.sl 128 [] 0 i 2, .sl 129 [] 0 i 22, .sl 130 [] 0 i 2], .sl 144 [] 0 (stQ (usA a) (rcR ps) ⟨s,zW ps.length⟩ i).length 59, .bool true]) [.sl 96 [] 0 0 2, .sl 97 [] 0 0 22, .sl 98 [] 0 0 2] [(128,⟨.ex,2,dI (qC a (rcR ps) ⟨s,zW ps.length⟩ i),none⟩),(129,⟨.ex,22,dII (nxG a (rcR ps) ⟨s,zW ps.length⟩ i),none⟩),(130,⟨.ex,2,dI (prG a (rcR ps) (prR ps) ⟨s,zW ps.length⟩ i),none⟩),(144,⟨.ex,59,xF (stQ (usA a) (rcR ps) ⟨s,zW ps.length⟩ i),none⟩)]):awp Tryz.prog tyT (Tryz.f54.body.getD .skip) (RetI tyT [.cell 8 50, .tmp 9, .tmp 10] K0) ⟨89,[(0, .agg [.sl 0 [] 0 a.owner.length 2, .sl 1 [] 0 a.next.length 22]),(1, .agg [.int .i64 s, .sl 145 [] 0 (zW ps.length).length 2]),(2, .fn 55 [.bp 4 0]),(3, .fn 57 [.bp 4 0])],[(1000000,[.sl 96 [] 0 0 2, .sl 97 [] 0 0 22, .sl 98 [] 0 0 2]),(4,[.sl 16 [] 0 ps.length 64])],[(0,⟨.sh,2,dI a.owner,none⟩),(1,⟨.sh,22,dII a.next,none⟩),(16,⟨.sh,64,dII (ilv ps),none⟩),(145,⟨.ex,2,dI (zW ps.length),none⟩)]⟩:=by
 have hno:=ha.owner
 have hnn:=ha.next.1
 have hrr: ∀v,(gl a.next v).length≤1048576:=fun v=>Xs ha.next v
 unfold LnI at hno
 have h1:=hPre.1
 have h3:=hPre.2
 have hln:=yQ h1
 refine zIy 4 2000 rfl rfl ?_
 push_cast [↓zK,↓zJ]
 refine zNN rfl ?_
 (try push_cast [↓zK,↓zJ])
 refine θA ?_
 refine θN ?_
 refine θA ?_
 refine zL fun K1 hK1=> ?_
 refine qj 59 11 (Nat.le_of_ble_eq_true rfl) ?_
 push_cast [↓zK,↓zJ]
 refine θA ?_
 refine zV ?_
 refine zg [9,10,11,12,13,14,15,16,18,19,23,24,25,26,27,28,29,30,31,32,33,34,35,36,37,38,39,40,41,42,43,44,45,46,47,48,49,50,51,52,53,54,55,56,57,58,59,60,61,62,63,64,65,66,67,68,69,70,71,72,73,74,75,76,77,78,79,80,81,82,83,84,85,86] [] (fun(i:Nat)=> [(13, .int .i64 i),(11, .sl 176 [] 0 (stQ (usA a) (rcR ps) ⟨s,zW ps.length⟩ i).length 59),(12, .bp 12 0)]) (fun i=> [(12,[.sl 192 [] 0 i 2, .sl 193 [] 0 i 22, .sl 194 [] 0 i 2])]) (fun i=> [(176,⟨.ex,59,xF (stQ (usA a) (rcR ps) ⟨s,zW ps.length⟩ i),none⟩),(192,⟨.ex,2,dI (qC a (rcR ps) ⟨s,zW ps.length⟩ i),none⟩),(193,⟨.ex,22,dII (nxG a (rcR ps) ⟨s,zW ps.length⟩ i),none⟩),(194,⟨.ex,2,dI (prG a (rcR ps) (prR ps) ⟨s,zW ps.length⟩ i),none⟩)]) (fun i=>i≤256∧i≤(stQ (usA a) (rcR ps) ⟨s,zW ps.length⟩ i).length∧(stQ (usA a) (rcR ps) ⟨s,zW ps.length⟩ i).length≤256) (fun i=>257 - i) 0 ?_ ⟨by omega,Nat.zero_le _,(by show 1≤256;decide)⟩ ?_
 ·
  rw [show stQ (usA a) (rcR ps) ⟨s,zW ps.length⟩ 0= [⟨s,zW ps.length⟩]from rfl,zH0,zKZ,zKc]
  refine zY rfl ?_ ?_ ?_<;>push_cast [zb,za,↓zK,↓zJ]
  all_goals first|rfl|exact⟨rfl,rfl,rfl,rfl⟩|skip
 ·rintro i ⟨hi,hil,hsl⟩ KL0 hL0
  have hall:=Yg h1 h3 i
  have hq:QLn 1048576 (stQ (usA a) (rcR ps) ⟨s,zW ps.length⟩ i):=⟨by omega,fun p hp=>by have :=h3.small _ (hall p hp).2.2;omega⟩
  have hgl:=fun k=>jR hq k
  have ho1:=vB (a:=a) (rc:=(rcR ps)) (p0:=⟨s,zW ps.length⟩) i
  have ho2:=WY (a:=a) (rc:=(rcR ps)) (p0:=⟨s,zW ps.length⟩) i
  have ho3:=QP (a:=a) (rc:=(rcR ps)) (pr:=(prR ps)) (p0:=⟨s,zW ps.length⟩) i
  push_cast [↓zK,↓zJ]
  refine zL fun K2 hK2=> ?_
  refine θA ?_
  refine θU (fun hc=> ?_) fun hc=> ?_
  ·
   refine zU (hK2 _ ?_)
   refine zL fun K3 hK3=> ?_
   refine zV ?_
   have hP:=hall _ (qH (k:=i) (by omega))
   have hU:1≤(gl a.next (gq (stQ (usA a) (rcR ps) ⟨s,zW ps.length⟩ i) i).at_.toNat).length∧(gl a.next (gq (stQ (usA a) (rcR ps) ⟨s,zW ps.length⟩ i) i).at_.toNat).length≤16∧∀u∈(gl a.next (gq (stQ (usA a) (rcR ps) ⟨s,zW ps.length⟩ i) i).at_.toNat),0≤u∧u<(a.owner.length:Int):=jp h1 ⟨hP.1,hP.2.1⟩
   have hpl:=h3.small _ hP.2.2
   have hnl:(nxL ps (gq (stQ (usA a) (rcR ps) ⟨s,zW ps.length⟩ i) i).record (gq (stQ (usA a) (rcR ps) ⟨s,zW ps.length⟩ i) i).at_).length≤4:=h3.small _ (h3.next _ hP.1 hP.2.1 hP.2.2)
   refine θA ?_
   refine zL fun K hK=> ?_
   refine qh 35 2 rfl zO zN [] rfl ?_
   push_cast [↓zK,↓zJ]
   repeat' apply And.intro
   all_goals(try push_cast [↓zK,↓zJ])
   all_goals repeat'(first|(apply zP<;>(intro hg;(try push_cast at hg)))|(refine⟨_,zDh ps hp (gq (stQ (usA a) (rcR ps) ⟨s,zW ps.length⟩ i) i) hP.2.2,?_⟩;push_cast [↓zK,↓zJ])|apply And.intro|(intro hg;(try push_cast at hg)))
   all_goals first|exact gA|(exact zX (by omega))|skip
   all_goals(refine hK _ ?_;clear hK K)
   refine θA ?_
   refine zL fun K4 hK4=> ?_
   refine θA ?_
   refine zV ?_
   refine zg [11,14,16,18,19,24,29,31,32,33,34,44,45,46,47,48,49,50,51,52,53,54,55,56,57,58,59,60,61,62,63,64,65,66,67,68] [256,224,225] (fun(k:Nat)=> [(44, .int .i64 k),(11, .sl 176 [] 0 (zu (nxL ps (gq (stQ (usA a) (rcR ps) ⟨s,zW ps.length⟩ i) i).record (gq (stQ (usA a) (rcR ps) ⟨s,zW ps.length⟩ i) i).at_) (gl a.next (gq (stQ (usA a) (rcR ps) ⟨s,zW ps.length⟩ i) i).at_.toNat) (stQ (usA a) (rcR ps) ⟨s,zW ps.length⟩ i) k).1.length 59),(16, .sl 256 [] 0 k 2),(14, .bp 14 0)]) (fun k=> [(14,[.int .i64 (gq (stQ (usA a) (rcR ps) ⟨s,zW ps.length⟩ i) i).at_, .sl 176 [i*2+1] 0 (gq (stQ (usA a) (rcR ps) ⟨s,zW ps.length⟩ i) i).record.length 2])]) (fun k=> [(176,⟨.ex,59,xF (zu (nxL ps (gq (stQ (usA a) (rcR ps) ⟨s,zW ps.length⟩ i) i).record (gq (stQ (usA a) (rcR ps) ⟨s,zW ps.length⟩ i) i).at_) (gl a.next (gq (stQ (usA a) (rcR ps) ⟨s,zW ps.length⟩ i) i).at_.toNat) (stQ (usA a) (rcR ps) ⟨s,zW ps.length⟩ i) k).1,none⟩),(256,⟨.ex,2,dI (zu (nxL ps (gq (stQ (usA a) (rcR ps) ⟨s,zW ps.length⟩ i) i).record (gq (stQ (usA a) (rcR ps) ⟨s,zW ps.length⟩ i) i).at_) (gl a.next (gq (stQ (usA a) (rcR ps) ⟨s,zW ps.length⟩ i) i).at_.toNat) (stQ (usA a) (rcR ps) ⟨s,zW ps.length⟩ i) k).2,none⟩)]) (fun k=>k≤(gl a.next (gq (stQ (usA a) (rcR ps) ⟨s,zW ps.length⟩ i) i).at_.toNat).length) (fun k=>(gl a.next (gq (stQ (usA a) (rcR ps) ⟨s,zW ps.length⟩ i) i).at_.toNat).length - k) 0 ?_ (Nat.zero_le _) ?_
   ·
    rw [zDm]
    refine zY rfl ?_ ?_ ?_<;>push_cast [zb,za,↓zK,↓zJ]
    all_goals first|rfl|skip
   ·rintro k hk KL1 hL1
    have hrl:=qK (r:=(nxL ps (gq (stQ (usA a) (rcR ps) ⟨s,zW ps.length⟩ i) i).record (gq (stQ (usA a) (rcR ps) ⟨s,zW ps.length⟩ i) i).at_)) (us:=(gl a.next (gq (stQ (usA a) (rcR ps) ⟨s,zW ps.length⟩ i) i).at_.toNat)) (ps:=(stQ (usA a) (rcR ps) ⟨s,zW ps.length⟩ i)) (k:=k) hk
    have hQr:QLn 1048576 (zu (nxL ps (gq (stQ (usA a) (rcR ps) ⟨s,zW ps.length⟩ i) i).record (gq (stQ (usA a) (rcR ps) ⟨s,zW ps.length⟩ i) i).at_) (gl a.next (gq (stQ (usA a) (rcR ps) ⟨s,zW ps.length⟩ i) i).at_.toNat) (stQ (usA a) (rcR ps) ⟨s,zW ps.length⟩ i) k).1:=⟨by omega,fun p hp=>by have :=h3.small _ (zH4 h1 h3 (i:=i) (k:=k) (by omega) hk p hp).2.2;omega⟩
    have hx:=zHg (xD (gi (gl a.next (gq (stQ (usA a) (rcR ps) ⟨s,zW ps.length⟩ i) i).at_.toNat) k) (nxL ps (gq (stQ (usA a) (rcR ps) ⟨s,zW ps.length⟩ i) i).record (gq (stQ (usA a) (rcR ps) ⟨s,zW ps.length⟩ i) i).at_)) (zu (nxL ps (gq (stQ (usA a) (rcR ps) ⟨s,zW ps.length⟩ i) i).record (gq (stQ (usA a) (rcR ps) ⟨s,zW ps.length⟩ i) i).at_) (gl a.next (gq (stQ (usA a) (rcR ps) ⟨s,zW ps.length⟩ i) i).at_.toNat) (stQ (usA a) (rcR ps) ⟨s,zW ps.length⟩ i) k).1
    push_cast [↓zK,↓zJ]
    refine θA ?_
    refine zL fun K5 hK5=> ?_
    refine θU (fun hc=> ?_) fun hc=> ?_
    ·
     refine zU (hK5 _ ?_)
     refine zL fun K6 hK6=> ?_
     refine zV ?_
     refine θA ?_
     refine θL fun K hK=> ?_
     all_goals refine zm 4 fun K9 hK9=> ?_
     all_goals push_cast [↓zK,↓zJ]
     all_goals repeat'(first|(apply zP<;>(intro hg;(try simp only [push_cast]at hg)))|(refine⟨_,UZ (zu (nxL ps (gq (stQ (usA a) (rcR ps) ⟨s,zW ps.length⟩ i) i).record (gq (stQ (usA a) (rcR ps) ⟨s,zW ps.length⟩ i) i).at_) (gl a.next (gq (stQ (usA a) (rcR ps) ⟨s,zW ps.length⟩ i) i).at_.toNat) (stQ (usA a) (rcR ps) ⟨s,zW ps.length⟩ i) k).1 hQr (gi (gl a.next (gq (stQ (usA a) (rcR ps) ⟨s,zW ps.length⟩ i) i).at_.toNat) k) (nxL ps (gq (stQ (usA a) (rcR ps) ⟨s,zW ps.length⟩ i) i).record (gq (stQ (usA a) (rcR ps) ⟨s,zW ps.length⟩ i) i).at_) (by omega),?_⟩;push_cast [↓zK,↓zJ])|apply And.intro|(intro hg;(try simp only [push_cast]at hg)))
     all_goals first|exact gA|(exact zX (by omega))|skip
     all_goals(refine hK9 _ ?_;clear hK9 K9)
     all_goals push_cast [↓zK,↓zJ]
     all_goals repeat'(first|(apply zP<;>(intro hg;(try simp only [push_cast]at hg)))|(refine⟨_,UZ (zu (nxL ps (gq (stQ (usA a) (rcR ps) ⟨s,zW ps.length⟩ i) i).record (gq (stQ (usA a) (rcR ps) ⟨s,zW ps.length⟩ i) i).at_) (gl a.next (gq (stQ (usA a) (rcR ps) ⟨s,zW ps.length⟩ i) i).at_.toNat) (stQ (usA a) (rcR ps) ⟨s,zW ps.length⟩ i) k).1 hQr (gi (gl a.next (gq (stQ (usA a) (rcR ps) ⟨s,zW ps.length⟩ i) i).at_.toNat) k) (nxL ps (gq (stQ (usA a) (rcR ps) ⟨s,zW ps.length⟩ i) i).record (gq (stQ (usA a) (rcR ps) ⟨s,zW ps.length⟩ i) i).at_) (by omega),?_⟩;push_cast [↓zK,↓zJ])|apply And.intro|(intro hg;(try simp only [push_cast]at hg)))
     all_goals first|exact gA|(exact zX (by omega))|skip
     all_goals(refine hK _ ?_;clear hK K)
     refine zL fun K7 hK7=> ?_
     refine θA ?_
     refine θU (fun hc=> ?_) fun hc=> ?_
     ·
      refine θA ?_
      refine jx 7 14 1 1008 176 [176] zO zN ?_ rfl rfl rfl fun K9 hK9=> ?_
      ·kernel_rfl
      all_goals push_cast [↓zK,↓zJ]
      all_goals repeat'(first|(apply zP<;>(intro hg;(try push_cast at hg)))|apply And.intro|(intro hg;(try push_cast at hg)))
      all_goals first|exact gA|(exact zX (by omega))|skip
      all_goals(refine hK9 _ ?_;clear hK9 K9)
      all_goals push_cast [↓zK,↓zJ]
      all_goals repeat'(first|(apply zP<;>(intro hg;(try push_cast at hg)))|apply And.intro|(intro hg;(try push_cast at hg)))
      all_goals first|exact gA|(exact zX (by omega))|skip
      refine hK7 _ ?_
      refine θB ?_
      refine hK6 _ ?_
      refine θB ?_
      refine hL1 _ ⟨k+1,by omega,by omega,?_⟩
      (try rw [List.take_of_length_le (l:=(zu (nxL ps (gq (stQ (usA a) (rcR ps) ⟨s,zW ps.length⟩ i) i).record (gq (stQ (usA a) (rcR ps) ⟨s,zW ps.length⟩ i) i).at_) (gl a.next (gq (stQ (usA a) (rcR ps) ⟨s,zW ps.length⟩ i) i).at_.toNat) (stQ (usA a) (rcR ps) ⟨s,zW ps.length⟩ i) k).2) (by omega)])
      rw [wS (by omega) (by with_reducible assumption)]
      refine zY rfl ?_ ?_ ?_<;>push_cast [zb,za,↓zK,↓zJ]
      all_goals first|rfl|(rw [List.length_append];rfl)|exact⟨rfl,rfl⟩|skip
     ·
      refine zU (hK7 _ ?_)
      refine θB ?_
      refine hK6 _ ?_
      refine θB ?_
      refine hL1 _ ⟨k+1,by omega,by omega,?_⟩
      (try rw [List.take_of_length_le (l:=(zu (nxL ps (gq (stQ (usA a) (rcR ps) ⟨s,zW ps.length⟩ i) i).record (gq (stQ (usA a) (rcR ps) ⟨s,zW ps.length⟩ i) i).at_) (gl a.next (gq (stQ (usA a) (rcR ps) ⟨s,zW ps.length⟩ i) i).at_.toNat) (stQ (usA a) (rcR ps) ⟨s,zW ps.length⟩ i) k).2) (by omega)])
      rw [ZF (by omega) (by with_reducible assumption)]
      exact θX
      all_goals first|rfl|(rw [List.length_append];rfl)|exact⟨rfl,rfl⟩|skip
    ·
     refine zh ?_
     have hkk:k=(gl a.next (gq (stQ (usA a) (rcR ps) ⟨s,zW ps.length⟩ i) i).at_.toNat).length:=by omega
     subst hkk
     refine hK4 _ ?_
     refine zL fun K8 hK8=> ?_
     have hgi:gq (zu (nxL ps (gq (stQ (usA a) (rcR ps) ⟨s,zW ps.length⟩ i) i).record (gq (stQ (usA a) (rcR ps) ⟨s,zW ps.length⟩ i) i).at_) (gl a.next (gq (stQ (usA a) (rcR ps) ⟨s,zW ps.length⟩ i) i).at_.toNat) (stQ (usA a) (rcR ps) ⟨s,zW ps.length⟩ i) (gl a.next (gq (stQ (usA a) (rcR ps) ⟨s,zW ps.length⟩ i) i).at_.toNat).length).1 i=(gq (stQ (usA a) (rcR ps) ⟨s,zW ps.length⟩ i) i):=jj (by omega) (Nat.le_refl _)
     have hrl9:=qK (r:=(nxL ps (gq (stQ (usA a) (rcR ps) ⟨s,zW ps.length⟩ i) i).record (gq (stQ (usA a) (rcR ps) ⟨s,zW ps.length⟩ i) i).at_)) (us:=(gl a.next (gq (stQ (usA a) (rcR ps) ⟨s,zW ps.length⟩ i) i).at_.toNat)) (ps:=(stQ (usA a) (rcR ps) ⟨s,zW ps.length⟩ i)) (k:=(gl a.next (gq (stQ (usA a) (rcR ps) ⟨s,zW ps.length⟩ i) i).at_.toNat).length) (Nat.le_refl _)
     refine θA ?_
     refine θU (fun hc=> ?_) fun hc=> ?_
     ·
      refine θA ?_
      refine zZ ⟨Or.inl rfl,?_⟩
      push_cast [zo,yA,↓zK,↓zJ]
      refine⟨_,?_,hKA (zHx hi (by rw [XP (by omega)];show 256<(zu (nxL ps (gq (stQ (usA a) (rcR ps) ⟨s,zW ps.length⟩ i) i).record (gq (stQ (usA a) (rcR ps) ⟨s,zW ps.length⟩ i) i).at_) (gl a.next (gq (stQ (usA a) (rcR ps) ⟨s,zW ps.length⟩ i) i).at_.toNat) (stQ (usA a) (rcR ps) ⟨s,zW ps.length⟩ i) (gl a.next (gq (stQ (usA a) (rcR ps) ⟨s,zW ps.length⟩ i) i).at_.toNat).length).1.length;omega))⟩
      push_cast [↓zK,↓zJ]
      all_goals first|exact⟨trivial,trivial⟩|skip
     ·
      refine zU (hK8 _ ?_)
      have hSo:FnG Tryz.prog tyT 78 [.c (DI (List.take (gl a.next (gq (stQ (usA a) (rcR ps) ⟨s,zW ps.length⟩ i) i).at_.toNat).length (zu (nxL ps (gq (stQ (usA a) (rcR ps) ⟨s,zW ps.length⟩ i) i).record (gq (stQ (usA a) (rcR ps) ⟨s,zW ps.length⟩ i) i).at_) (gl a.next (gq (stQ (usA a) (rcR ps) ⟨s,zW ps.length⟩ i) i).at_.toNat) (stQ (usA a) (rcR ps) ⟨s,zW ps.length⟩ i) (gl a.next (gq (stQ (usA a) (rcR ps) ⟨s,zW ps.length⟩ i) i).at_.toNat).length).2))] [0] [(0,2,dI (yZ (zu (nxL ps (gq (stQ (usA a) (rcR ps) ⟨s,zW ps.length⟩ i) i).record (gq (stQ (usA a) (rcR ps) ⟨s,zW ps.length⟩ i) i).at_) (gl a.next (gq (stQ (usA a) (rcR ps) ⟨s,zW ps.length⟩ i) i).at_.toNat) (stQ (usA a) (rcR ps) ⟨s,zW ps.length⟩ i) (gl a.next (gq (stQ (usA a) (rcR ps) ⟨s,zW ps.length⟩ i) i).at_.toNat).length).2))] []:=by rw [List.take_of_length_le (l:=(zu (nxL ps (gq (stQ (usA a) (rcR ps) ⟨s,zW ps.length⟩ i) i).record (gq (stQ (usA a) (rcR ps) ⟨s,zW ps.length⟩ i) i).at_) (gl a.next (gq (stQ (usA a) (rcR ps) ⟨s,zW ps.length⟩ i) i).at_.toNat) (stQ (usA a) (rcR ps) ⟨s,zW ps.length⟩ i) (gl a.next (gq (stQ (usA a) (rcR ps) ⟨s,zW ps.length⟩ i) i).at_.toNat).length).2) (by omega)];exact zKv _ (by omega)
      refine zL fun K hK=> ?_
      refine zCb 74 [0] [(0,2,dI (yZ (zu (nxL ps (gq (stQ (usA a) (rcR ps) ⟨s,zW ps.length⟩ i) i).record (gq (stQ (usA a) (rcR ps) ⟨s,zW ps.length⟩ i) i).at_) (gl a.next (gq (stQ (usA a) (rcR ps) ⟨s,zW ps.length⟩ i) i).at_.toNat) (stQ (usA a) (rcR ps) ⟨s,zW ps.length⟩ i) (gl a.next (gq (stQ (usA a) (rcR ps) ⟨s,zW ps.length⟩ i) i).at_.toNat).length).2))] zO zN [] rfl ?_
      push_cast [↓zK,↓zJ]
      all_goals repeat'(first|(apply zP<;>(intro hg;(try push_cast at hg)))|(refine⟨_,hSo,?_⟩;push_cast [↓zK,↓zJ])|apply And.intro|(intro hg;(try push_cast at hg)))
      all_goals first|exact gA|(exact zX (by omega))|skip
      all_goals(refine hK _ ?_;clear hK K)
      have hPv:FnX Tryz.prog tyT 57 [.v (.agg [.int .i64 (gq (stQ (usA a) (rcR ps) ⟨s,zW ps.length⟩ i) i).at_,DI (List.take (gq (stQ (usA a) (rcR ps) ⟨s,zW ps.length⟩ i) i).record.length (gq (zu (nxL ps (gq (stQ (usA a) (rcR ps) ⟨s,zW ps.length⟩ i) i).record (gq (stQ (usA a) (rcR ps) ⟨s,zW ps.length⟩ i) i).at_) (gl a.next (gq (stQ (usA a) (rcR ps) ⟨s,zW ps.length⟩ i) i).at_.toNat) (stQ (usA a) (rcR ps) ⟨s,zW ps.length⟩ i) (gl a.next (gq (stQ (usA a) (rcR ps) ⟨s,zW ps.length⟩ i) i).at_.toNat).length).1 i).record)]), .ref (.lst 2 [.lst 64 (dII (ilv ps))])] [.c (.int .i64 ((vl ps (gq (stQ (usA a) (rcR ps) ⟨s,zW ps.length⟩ i) i).record (gq (stQ (usA a) (rcR ps) ⟨s,zW ps.length⟩ i) i).at_)))]:=by rw [hgi,List.take_length];exact zDi ps hp (gq (stQ (usA a) (rcR ps) ⟨s,zW ps.length⟩ i) i) hP.2.2
      have hsl9:=qS (zu (nxL ps (gq (stQ (usA a) (rcR ps) ⟨s,zW ps.length⟩ i) i).record (gq (stQ (usA a) (rcR ps) ⟨s,zW ps.length⟩ i) i).at_) (gl a.next (gq (stQ (usA a) (rcR ps) ⟨s,zW ps.length⟩ i) i).at_.toNat) (stQ (usA a) (rcR ps) ⟨s,zW ps.length⟩ i) (gl a.next (gq (stQ (usA a) (rcR ps) ⟨s,zW ps.length⟩ i) i).at_.toNat).length).2
      have hWV:FnG Tryz.prog tyT 79 [.agg [DI (List.take i (qC a (rcR ps) ⟨s,zW ps.length⟩ i)),DII (List.take i (nxG a (rcR ps) ⟨s,zW ps.length⟩ i)),DI (List.take i (prG a (rcR ps) (prR ps) ⟨s,zW ps.length⟩ i))], .c (.int .i64 (gi a.owner (gq (stQ (usA a) (rcR ps) ⟨s,zW ps.length⟩ i) i).at_.toNat)), .c (.int .i64 ((vl ps (gq (stQ (usA a) (rcR ps) ⟨s,zW ps.length⟩ i) i).record (gq (stQ (usA a) (rcR ps) ⟨s,zW ps.length⟩ i) i).at_))), .c (DI (List.take (gl a.next (gq (stQ (usA a) (rcR ps) ⟨s,zW ps.length⟩ i) i).at_.toNat).length (yZ (zu (nxL ps (gq (stQ (usA a) (rcR ps) ⟨s,zW ps.length⟩ i) i).record (gq (stQ (usA a) (rcR ps) ⟨s,zW ps.length⟩ i) i).at_) (gl a.next (gq (stQ (usA a) (rcR ps) ⟨s,zW ps.length⟩ i) i).at_.toNat) (stQ (usA a) (rcR ps) ⟨s,zW ps.length⟩ i) (gl a.next (gq (stQ (usA a) (rcR ps) ⟨s,zW ps.length⟩ i) i).at_.toNat).length).2)))] [0,1,2,48] [] [.agg [DI (qC a (rcR ps) ⟨s,zW ps.length⟩ i++ [gi a.owner (gq (stQ (usA a) (rcR ps) ⟨s,zW ps.length⟩ i) i).at_.toNat]),DII (nxG a (rcR ps) ⟨s,zW ps.length⟩ i++ [yZ (zu (nxL ps (gq (stQ (usA a) (rcR ps) ⟨s,zW ps.length⟩ i) i).record (gq (stQ (usA a) (rcR ps) ⟨s,zW ps.length⟩ i) i).at_) (gl a.next (gq (stQ (usA a) (rcR ps) ⟨s,zW ps.length⟩ i) i).at_.toNat) (stQ (usA a) (rcR ps) ⟨s,zW ps.length⟩ i) (gl a.next (gq (stQ (usA a) (rcR ps) ⟨s,zW ps.length⟩ i) i).at_.toNat).length).2]),DI (prG a (rcR ps) (prR ps) ⟨s,zW ps.length⟩ i++ [(vl ps (gq (stQ (usA a) (rcR ps) ⟨s,zW ps.length⟩ i) i).record (gq (stQ (usA a) (rcR ps) ⟨s,zW ps.length⟩ i) i).at_)])]]:=by rw [List.take_of_length_le (l:=qC a (rcR ps) ⟨s,zW ps.length⟩ i) (by omega),List.take_of_length_le (l:=nxG a (rcR ps) ⟨s,zW ps.length⟩ i) (by omega),List.take_of_length_le (l:=prG a (rcR ps) (prR ps) ⟨s,zW ps.length⟩ i) (by omega),List.take_of_length_le (l:=yZ (zu (nxL ps (gq (stQ (usA a) (rcR ps) ⟨s,zW ps.length⟩ i) i).record (gq (stQ (usA a) (rcR ps) ⟨s,zW ps.length⟩ i) i).at_) (gl a.next (gq (stQ (usA a) (rcR ps) ⟨s,zW ps.length⟩ i) i).at_.toNat) (stQ (usA a) (rcR ps) ⟨s,zW ps.length⟩ i) (gl a.next (gq (stQ (usA a) (rcR ps) ⟨s,zW ps.length⟩ i) i).at_.toNat).length).2) (by omega)];exact zBl (gmA a (rcR ps) (prR ps) ⟨s,zW ps.length⟩ i) ⟨⟨by show(qC _ _ _ i).length≤_;omega,⟨by show(nxG _ _ _ i).length≤_;omega,fun r hr=>by have :=zLs h1 h3 (n:=i) (zJ9 hil) r hr;omega⟩⟩,by show(prG _ _ _ _ i).length≤_;omega⟩ (gi a.owner (gq (stQ (usA a) (rcR ps) ⟨s,zW ps.length⟩ i) i).at_.toNat) ((vl ps (gq (stQ (usA a) (rcR ps) ⟨s,zW ps.length⟩ i) i).record (gq (stQ (usA a) (rcR ps) ⟨s,zW ps.length⟩ i) i).at_)) (yZ (zu (nxL ps (gq (stQ (usA a) (rcR ps) ⟨s,zW ps.length⟩ i) i).record (gq (stQ (usA a) (rcR ps) ⟨s,zW ps.length⟩ i) i).at_) (gl a.next (gq (stQ (usA a) (rcR ps) ⟨s,zW ps.length⟩ i) i).at_.toNat) (stQ (usA a) (rcR ps) ⟨s,zW ps.length⟩ i) (gl a.next (gq (stQ (usA a) (rcR ps) ⟨s,zW ps.length⟩ i) i).at_.toNat).length).2) (by omega)
      refine zEL false false 11 (uc Tryz.prog tyT 2) [84] (fun _ _ _ h=>zAu rfl h) (WE Tryz.prog tyT [0,1,2,48] []) (fun _ _ _ _ _ _ _ _ _ h1 h2 h3 h4=>Jo h1 h2 h3 h4) zO zN ya ?_ rfl rfl ?_
      ·kernel_rfl
      intro E hE
      all_goals push_cast [↓zK,↓zJ]
      all_goals repeat'(first|(apply zP<;>(intro hg;(try push_cast at hg)))|(refine⟨_,_,hPv,?_⟩;(try push_cast [↓zK,↓zJ]))|(refine⟨_,hWV,?_⟩;push_cast [↓zK,↓zJ])|apply And.intro|(intro hg;(try push_cast at hg)))
      all_goals first|exact gA|(refine hE _ _ ?_ rfl ?_;kernel_rfl)|(exact zX (by omega))|skip
      all_goals clear hE E
      all_goals push_cast [↓zK,↓zJ]
      all_goals repeat'(first|(apply zP<;>(intro hg;(try push_cast at hg)))|(refine⟨_,_,hPv,?_⟩;(try push_cast [↓zK,↓zJ]))|(refine⟨_,hWV,?_⟩;push_cast [↓zK,↓zJ])|apply And.intro|(intro hg;(try push_cast at hg)))
      all_goals first|exact gA|(exact zX (by omega))|skip
      all_goals first|(refine hg _ _ ?_ ?_;kernel_rfl)|skip
      refine hK3 _ ?_
      refine qE [.sl 2, .sl 22, .sl 2] 12 ?_
      push_cast [↓zK,↓zJ]
      refine θB ?_
      have hst:(stQ (usA a) (rcR ps) ⟨s,zW ps.length⟩ (i+1))=(zu (nxL ps (gq (stQ (usA a) (rcR ps) ⟨s,zW ps.length⟩ i) i).record (gq (stQ (usA a) (rcR ps) ⟨s,zW ps.length⟩ i) i).at_) (gl a.next (gq (stQ (usA a) (rcR ps) ⟨s,zW ps.length⟩ i) i).at_.toNat) (stQ (usA a) (rcR ps) ⟨s,zW ps.length⟩ i) (gl a.next (gq (stQ (usA a) (rcR ps) ⟨s,zW ps.length⟩ i) i).at_.toNat).length).1:=XP (by omega)
      refine hL0 _ ⟨i+1,⟨by omega,(by rw [hst];omega),(by rw [hst];omega)⟩,by omega,?_⟩
      (try rw [List.take_of_length_le (l:=qC a (rcR ps) ⟨s,zW ps.length⟩ i) (by omega)])
      (try rw [List.take_of_length_le (l:=nxG a (rcR ps) ⟨s,zW ps.length⟩ i) (by omega)])
      (try rw [List.take_of_length_le (l:=prG a (rcR ps) (prR ps) ⟨s,zW ps.length⟩ i) (by omega)])
      rw [hst,zH1,zKa,zKd,show plQ (usA a) (rcR ps) ⟨s,zW ps.length⟩ i=(gq (stQ (usA a) (rcR ps) ⟨s,zW ps.length⟩ i) i)from rfl,show nxQ (usA a) (rcR ps) ⟨s,zW ps.length⟩ i=yZ (zu (nxL ps (gq (stQ (usA a) (rcR ps) ⟨s,zW ps.length⟩ i) i).record (gq (stQ (usA a) (rcR ps) ⟨s,zW ps.length⟩ i) i).at_) (gl a.next (gq (stQ (usA a) (rcR ps) ⟨s,zW ps.length⟩ i) i).at_.toNat) (stQ (usA a) (rcR ps) ⟨s,zW ps.length⟩ i) (gl a.next (gq (stQ (usA a) (rcR ps) ⟨s,zW ps.length⟩ i) i).at_.toNat).length).2 from rfl,show(prR ps) (gq (stQ (usA a) (rcR ps) ⟨s,zW ps.length⟩ i) i)=(vl ps (gq (stQ (usA a) (rcR ps) ⟨s,zW ps.length⟩ i) i).record (gq (stQ (usA a) (rcR ps) ⟨s,zW ps.length⟩ i) i).at_)from rfl]
      refine zY rfl ?_ ?_ ?_<;>push_cast [zb,za,↓zK,↓zJ]
      all_goals first|rfl|exact⟨rfl,rfl,rfl,rfl⟩|(rw [List.length_append,List.length_append,List.length_append,ho1,ho2,ho3];rfl)|skip
  ·
   refine zh (hK1 _ ?_)
   refine θA ?_
   refine zZ ⟨Or.inl rfl,?_⟩
   push_cast [zo,yA,↓zK,↓zJ]
   refine⟨_,?_,hKB i hi (by omega) hil⟩
   push_cast [↓zK,↓zJ]
   all_goals first|exact⟨trivial,trivial⟩|skip
attribute [local irreducible] okQ stQ gmR plR WF
set_option maxRecDepth 20000 in
set_option maxHeartbeats 8000000 in
theorem zEj (a:Ar)(ha:a.Ln 1048576)(ps:List Pr)(hp:PLn 1048576 ps)(s:Int)(hC:rgC a ps s=true):Fn Tryz.prog tyT 32 [.agg (dAr a), .c (.lst 64 (dII (ilv ps))), .c (.int .i64 s)] [.agg (dPa (rgG a ps s)), .c (.lst 59 (xF (rgP a ps s))), .c (.bool (rgB a ps s))]:=by
 have hno:=ha.owner
 have hnn:=ha.next.1
 unfold LnI at hno
 have hli:=yq ps
 have hpl0:=hp.1
 obtain⟨h1,h2,h3⟩:=xz hC
 have hln:=yQ h1
 unfold dAr dPa
 refine qm (fn:=Tryz.f32) (rs:= [.cell 6 50, .tmp 7, .tmp 8]) zO zN Tryz.func32 (by kernel_rfl) rfl rfl (by rw [Tryz.ntmps32];exact Nat.le_of_ble_eq_true rfl) rfl (by simp only [szA,List.mem_cons,List.not_mem_nil,or_false,forall_eq_or_imp,forall_eq,VT.cells,szL];try decide) ?_
 rw [Tryz.ntmps32]
 push_cast [↓zK,↓zJ]
 refine θA ?_
 refine θA ?_
 refine zL fun K1 hK1=> ?_
 refine θA ?_
 refine zV ?_
 refine zg [9,10,15,16,17,18,19,20,21,22,23,24] [144,145] (fun(k:Nat)=> [(15, .int .i64 k),(9, .bp 9 0)]) (fun k=> [(9,[.int .i64 s, .sl 145 [] 0 k 2])]) (fun k=> [(145,⟨.ex,2,dI (zW k),none⟩)]) (fun k=>k≤ps.length) (fun k=>ps.length - k) 0 ?_ (by omega) ?_
 ·
  rw [show zW 0= []from rfl,show dI ([]:List Int)= []from rfl]
  exact θX
 ·rintro k hk KL0 hL0
  have hio:=JI k
  push_cast [↓zK,↓zJ]
  refine θA ?_
  refine zL fun K2 hK2=> ?_
  refine θU (fun hc=> ?_) fun hc=> ?_
  ·
   refine zU (hK2 _ ?_)
   refine zL fun K3 hK3=> ?_
   refine zV ?_
   refine θA ?_
   refine θB ?_
   refine hK3 _ ?_
   refine qE [.int .i64, .sl 2] 9 ?_
   push_cast [↓zK,↓zJ]
   refine θB ?_
   refine hL0 _ ⟨k+1,by omega,by omega,?_⟩
   (try rw [List.take_of_length_le (l:=zW k) (by omega)])
   rw [zHd]
   exact θX
   all_goals first|rfl|skip
  ·
   refine zh ?_
   have hkk:k=ps.length:=by omega
   subst hkk
   refine hK1 _ ?_
   refine zL fun K hK=> ?_
   refine zEN 29 6 zO zN [] rfl ?_
   all_goals push_cast [↓zK,↓zJ]
   all_goals repeat'(first|(apply zP<;>(intro hg;(try push_cast at hg)))|apply And.intro|(intro hg;(try push_cast at hg)))
   all_goals try exact gA
   refine zGx (fn:=Tryz.f54) (rs:= [.cell 8 50, .tmp 9, .tmp 10]) rfl rfl (by decide) rfl Tryz.func54 (by kernel_rfl) rfl rfl (by rw [Tryz.ntmps54];exact Nat.le_of_ble_eq_true rfl) ?_
   rw [Tryz.ntmps54]
   push_cast [↓zK,↓zJ]
   refine zE2 ?_ (zAa a ha ps hp h2 s ⟨h1,h3⟩ _ (fun hok9=> ?_) (fun i hi9 hn9 hil9=> ?_))
   ·refine zY rfl ?_ ?_ ?_<;>push_cast [zb,za,↓zK,↓zJ]
    all_goals first|rfl|(rw [JI];done)|skip
   all_goals push_cast [↓zK,↓zJ]
   all_goals repeat'(first|(apply zP<;>(intro hg;(try push_cast at hg)))|apply And.intro|(intro hg;(try push_cast at hg)))
   all_goals try exact gA
   all_goals(refine hK _ ?_;clear hK K)
   all_goals(
     refine zZ ⟨Or.inl rfl,?_⟩
     push_cast [zd,zo,yA,↓zK,↓zJ]
     first
      |(
       obtain⟨e1,e2,e3⟩:=zIC (a:=a) (ps:=ps) (s:=s) hok9
       rw [e1,e2,e3]
       all_goals first|rfl|exact⟨rfl,rfl⟩|(simp [dI,dII,xF];done))
      |(
       obtain⟨e1,e2,e3⟩:=zFE (a:=a) (rc:=rcR ps) (pr:=prR ps) (p0:=⟨s,zW ps.length⟩) (i:=i) hC hi9 hn9 hil9
       unfold rgG rgP rgB
       rw [e1,e2,e3]
       simp only [gmA,vB,WY,QP]
       all_goals first|rfl|exact⟨⟨⟨rfl,rfl⟩,⟨rfl,rfl⟩,⟨rfl,rfl⟩⟩,rfl,rfl⟩|exact⟨rfl,rfl⟩|(simp;done)))
structure PG where
 own:Nat→Int
 pr:Nat→Nat
 E:Nat→Nat→Prop
inductive Wk (R:Nat→Nat→Prop)(pr:Nat→Nat):Nat→Nat→Nat→Prop
 |one {v u:Nat}:R v u→Wk R pr v u (pr v)
 |cons {v x u t:Nat}:R v x→Wk R pr x u t→Wk R pr v u (max (pr v) t)
theorem Wk.mono {R R':Nat→Nat→Prop}{pr:Nat→Nat}(h: ∀v u,R v u→R' v u){v u t:Nat}(w:Wk R pr v u t):Wk R' pr v u t:=by
 induction w with
 |one h1=>exact .one (h _ _ h1)
 |cons h1 _ ih=>exact .cons (h _ _ h1) ih
theorem Wk.app {R:Nat→Nat→Prop}{pr:Nat→Nat}{v x u s t:Nat}(a:Wk R pr v x s)(b:Wk R pr x u t):Wk R pr v u (max s t):=by
 induction a with
 |one h1=>exact .cons h1 b
 |cons h1 _ ih=>rw [Nat.max_assoc];exact .cons h1 (ih b)
theorem Wk.le {R:Nat→Nat→Prop}{pr:Nat→Nat}{top:Nat}(h: ∀v u,R v u→pr v≤top){v u t:Nat}(w:Wk R pr v u t):t≤top:=by
 induction w with
 |one h1=>exact h _ _ h1
 |cons h1 _ ih=>exact Nat.max_le.2 ⟨h _ _ h1,ih⟩
def SR (g:PG)(who:Int)(U:Nat→Prop)(s:Nat→Nat)(v u:Nat):Prop:=U v∧U u∧g.E v u∧(g.own v=who→u=s v)
structure xi (g:PG)(who:Int)(D U:Nat→Prop)(s:Nat→Nat):Prop where
 sub: ∀v,U v→D v
 own: ∀v,U v→g.own v=who→g.E v (s v)∧U (s v)
 opp: ∀v u,U v→¬g.own v=who→g.E v u→D u→U u
 good: ∀v t,Wk (SR g who U s) g.pr v v t→(t:Int)%2=who
def vR (g:PG)(who:Int)(D goal:Nat→Prop):Nat→Nat→Prop
 |0,v=>D v∧goal v
 |k+1,v=>vR g who D goal k v∨(D v∧((g.own v=who∧∃u,g.E v u∧vR g who D goal k u)∨(¬g.own v=who∧(∃u,g.E v u∧D u)∧∀u,g.E v u→D u→vR g who D goal k u)))
def Att (g:PG)(who:Int)(D goal:Nat→Prop)(v:Nat):Prop:= ∃k,vR g who D goal k v
section
variable {g:PG} {who:Int} {D goal:Nat→Prop}
theorem vR.inD {v:Nat}: ∀{k:Nat},vR g who D goal k v→D v
 |0,h=>h.1
 |k+1,h=>by
  rcases h with h|h
  ·exact vR.inD h
  ·exact h.1
theorem vR.up {v:Nat}{j:Nat}(h:vR g who D goal j v): ∀k,j≤k→vR g who D goal k v
 |0,hk=>by rw [show j=0 by omega]at h;exact h
 |k+1,hk=>by
  by_cases e:j=k+1
  ·rw [←e];exact h
  ·exact .inl (vR.up h k (by omega))
theorem KX {P:Nat→Prop}: ∀n,P n→∃k,P k∧∀j,j<k→¬P j:=by
 intro n
 induction n using Nat.strongRecOn with
 |ind n ih=>
  intro h
  by_cases h2: ∃j,j<n∧P j
  ·obtain⟨j,hj,hp⟩:=h2
   exact ih j hj hp
  ·exact⟨n,h,fun j hj hp=>h2 ⟨j,hj,hp⟩⟩
open Classical in
noncomputable def rk (g:PG)(who:Int)(D goal:Nat→Prop)(v:Nat):Nat:=if h: ∃k,vR g who D goal k v∧∀j,j<k→¬vR g who D goal j v then h.choose else 0
theorem zFe {v:Nat}(h:Att g who D goal v):vR g who D goal (rk g who D goal v) v∧∀j,j<rk g who D goal v→¬vR g who D goal j v:=by
 obtain⟨n,hn⟩:=h
 have h2:=KX (P:=fun k=>vR g who D goal k v) n hn
 unfold rk
 rw [dif_pos h2]
 exact h2.choose_spec
theorem zKe {v k:Nat}(h:vR g who D goal k v):rk g who D goal v≤k:=by
 have :=(zFe ⟨k,h⟩).2 k
 rcases Nat.lt_or_ge k (rk g who D goal v)with h1|h1
 ·exact absurd h (this h1)
 ·exact h1
theorem Att.cases {v:Nat}(h:Att g who D goal v):(D v∧goal v)∨(D v∧g.own v=who∧∃u,g.E v u∧Att g who D goal u∧rk g who D goal u<rk g who D goal v)∨(D v∧¬g.own v=who∧∀u,g.E v u→D u→Att g who D goal u∧rk g who D goal u<rk g who D goal v):=by
 obtain⟨h1,h2⟩:=zFe h
 generalize hr:rk g who D goal v=r at h1 h2
 cases r with
 |zero=>exact .inl h1
 |succ k=>
  rcases h1 with h1|⟨hD,h1⟩
  ·exact absurd h1 (h2 k (by omega))
  ·rcases h1 with⟨ho,u,he,hu⟩|⟨ho,-,ha⟩
   ·exact .inr (.inl ⟨hD,ho,u,he,⟨k,hu⟩,Nat.lt_succ_of_le (zKe hu)⟩)
   ·exact .inr (.inr ⟨hD,ho,fun u he hu=>⟨⟨k,ha u he hu⟩,Nat.lt_succ_of_le (zKe (ha u he hu))⟩⟩)
theorem Att.inD {v:Nat}(h:Att g who D goal v):D v:=by obtain⟨k,hk⟩:=h;exact hk.inD
theorem Att.base {v:Nat}(h1:D v)(h2:goal v):Att g who D goal v:=⟨0,h1,h2⟩
theorem Att.own {v u:Nat}(h1:D v)(h2:g.own v=who)(h3:g.E v u)(h4:Att g who D goal u):Att g who D goal v:=by
 obtain⟨k,hk⟩:=h4
 exact⟨k+1, .inr ⟨h1, .inl ⟨h2,u,h3,hk⟩⟩⟩
theorem Att.opp {n:Nat}(hn: ∀v u,g.E v u→u<n){v:Nat}(h1:D v)(h2: ¬g.own v=who)(h3: ∃u,g.E v u∧D u)(h4: ∀u,g.E v u→D u→Att g who D goal u):Att g who D goal v:=by
 have key: ∀m,∃k,∀u,u<m→g.E v u→D u→vR g who D goal k u:=by
  intro m
  induction m with
  |zero=>exact⟨0,fun u hu=>by omega⟩
  |succ m ih=>
   obtain⟨k,hk⟩:=ih
   by_cases hm:g.E v m∧D m
   ·obtain⟨j,hj⟩:=h4 m hm.1 hm.2
    refine⟨max k j,fun u hu he hd=> ?_⟩
    by_cases e:u=m
    ·rw [e];exact hj.up _ (Nat.le_max_right ..)
    ·exact(hk u (by omega) he hd).up _ (Nat.le_max_left ..)
   ·refine⟨k,fun u hu he hd=> ?_⟩
    by_cases e:u=m
    ·rw [e]at he hd;exact absurd ⟨he,hd⟩ hm
    ·exact hk u (by omega) he hd
 obtain⟨k,hk⟩:=key n
 exact⟨k+1, .inr ⟨h1, .inr ⟨h2,h3,fun u he hd=>hk u (hn v u he) he hd⟩⟩⟩
theorem Att.out_own {v u:Nat}(h1:D v)(h: ¬Att g who D goal v)(h2:g.own v=who)(h3:g.E v u): ¬Att g who D goal u:=fun h4=>h (.own h1 h2 h3 h4)
theorem Att.out_opp {n:Nat}(hn: ∀v u,g.E v u→u<n){v:Nat}(h1:D v)(h: ¬Att g who D goal v)(h2: ¬g.own v=who)(h3: ∃u,g.E v u∧D u): ∃u,g.E v u∧D u∧¬Att g who D goal u:=by
 by_cases h4: ∃u,g.E v u∧D u∧¬Att g who D goal u
 ·exact h4
 ·exact absurd (Att.opp hn h1 h2 h3 fun u he hd=>Classical.byContradiction fun h5=>h4 ⟨u,he,hd,h5⟩) h
end
def vX (g:PG)(D:Nat→Prop):Prop:= ∀v,D v→∃u,g.E v u∧D u
theorem VN {g:PG}{who:Int}{D goal:Nat→Prop}{n:Nat}(hn: ∀v u,g.E v u→u<n)(h:vX g D):vX g (fun v=>D v∧¬Att g who D goal v):=fun v hv=>by
 obtain⟨u,he,hd⟩:=h v hv.1
 by_cases ho:g.own v=who
 ·exact⟨u,he,hd,Att.out_own hv.1 hv.2 ho he⟩
 ·obtain⟨x,a,b,c⟩:=Att.out_opp hn hv.1 hv.2 ho ⟨u,he,hd⟩
  exact⟨x,a,b,c⟩
open Classical in
noncomputable def KF (g:PG)(who:Int)(D goal:Nat→Prop)(v:Nat):Nat:=if h: ∃u,g.E v u∧Att g who D goal u∧rk g who D goal u<rk g who D goal v then h.choose else 0
theorem VD {g:PG}{who:Int}{D goal:Nat→Prop}{v:Nat}(h:Att g who D goal v)(hg: ¬goal v)(ho:g.own v=who):g.E v (KF g who D goal v)∧Att g who D goal (KF g who D goal v)∧rk g who D goal (KF g who D goal v)<rk g who D goal v:=by
 have h2: ∃u,g.E v u∧Att g who D goal u∧rk g who D goal u<rk g who D goal v:=by
  rcases h.cases with⟨-,h1⟩|⟨-,-,h1⟩|⟨-,h1,-⟩
  ·exact absurd h1 hg
  ·exact h1
  ·exact absurd ho h1
 unfold KF
 rw [dif_pos h2]
 exact h2.choose_spec
section
variable {g:PG} {who:Int} {D:Nat→Prop} {top n:Nat}
open Classical in
theorem zFn (hn: ∀v u,g.E v u→u<n)(hl:vX g D)(htop: ∀v,D v→g.pr v≤top)(hpar:(top:Int)%2=who){s:Nat→Nat}
  (hw:xi g who (fun v=>D v∧¬Att g who D (fun v=>g.pr v=top) v) (fun v=>D v∧¬Att g who D (fun v=>g.pr v=top) v) s): ∃s',xi g who D D s':=by
 let A:=Att g who D (fun v=>g.pr v=top)
 let r:=rk g who D (fun v=>g.pr v=top)
 have hsome: ∀v,∃u,D v→g.E v u∧D u:=fun v=>by
  by_cases h:D v
  ·obtain⟨u,hu⟩:=hl v h;exact⟨u,fun _=>hu⟩
  ·exact⟨0,fun h2=>absurd h2 h⟩
 let any:Nat→Nat:=fun v=>(hsome v).choose
 have hany: ∀v,D v→g.E v (any v)∧D (any v):=fun v=>(hsome v).choose_spec
 let s':Nat→Nat:=fun v=>if A v then(if g.pr v=top then any v else KF g who D (fun v=>g.pr v=top) v)else s v
 have e1: ∀v,A v→g.pr v=top→s' v=any v:=fun v h1 h2=>by show(if _ then _ else _)=_;rw [if_pos h1,if_pos h2]
 have e2: ∀v,A v→¬g.pr v=top→s' v=KF g who D (fun v=>g.pr v=top) v:=fun v h1 h2=>by show(if _ then _ else _)=_;rw [if_pos h1,if_neg h2]
 have e3: ∀v,¬A v→s' v=s v:=fun v h1=>by show(if _ then _ else _)=_;rw [if_neg h1]
 refine⟨s',fun v h=>h,fun v hv ho=> ?_,fun v u _ _ _ hu=>hu,fun v t w=> ?_⟩
 ·by_cases hA:A v
  ·by_cases hp:g.pr v=top
   ·rw [e1 v hA hp];exact hany v hv
   ·rw [e2 v hA hp]
    have :=VD hA hp ho
    exact⟨this.1,Att.inD this.2.1⟩
  ·rw [e3 v hA]
   have :=hw.own v ⟨hv,hA⟩ ho
   exact⟨this.1,this.2.1⟩
 ·have hle:=w.le fun v u h=>htop v h.1
  have claim: ∀{v u t:Nat},Wk (SR g who D s') g.pr v u t→t<top→(A v→A u∧r u<r v)∧(¬A v→A u∨Wk (SR g who (fun v=>D v∧¬A v) s) g.pr v u t):=by
   intro v u t w
   have stepA: ∀v u,SR g who D s' v u→g.pr v<top→A v→A u∧r u<r v:=fun v u h hp hA=>by
    rcases hA.cases with⟨-,h1⟩|⟨-,ho,-⟩|⟨-,ho,ha⟩
    ·omega
    ·have h2:=VD hA (by omega) ho
     rw [h.2.2.2 ho,e2 v hA (by omega)]
     exact h2.2
    ·exact ha u h.2.2.1 h.2.1
   have zB3: ∀v u,SR g who D s' v u→¬A v→¬A u→SR g who (fun v=>D v∧¬A v) s v u:=fun v u h h1 h2=>⟨⟨h.1,h1⟩,⟨h.2.1,h2⟩,h.2.2.1,fun ho=>by rw [h.2.2.2 ho,e3 v h1]⟩
   induction w with
   | @one v u h=>
    intro ht
    refine⟨stepA v u h ht,fun hA=> ?_⟩
    by_cases hu:A u
    ·exact .inl hu
    ·exact .inr (.one (zB3 v u h hA hu))
   | @cons v x u t h w ih=>
    intro ht
    obtain⟨i1,i2⟩:=ih (by omega)
    refine⟨fun hA=> ?_,fun hA=> ?_⟩
    ·obtain⟨a,b⟩:=stepA v x h (by omega) hA
     obtain⟨c,d⟩:=i1 a
     exact⟨c,Nat.lt_trans d b⟩
    ·by_cases hx:A x
     ·exact .inl (i1 hx).1
     ·rcases i2 hx with h5|h5
      ·exact .inl h5
      ·exact .inr (.cons (zB3 v x h hA hx) h5)
  by_cases ht:t=top
  ·rw [ht];exact hpar
  ·obtain⟨i1,i2⟩:=claim w (by omega)
   by_cases hA:A v
   ·have :=(i1 hA).2
    omega
   ·rcases i2 hA with h5|h5
    ·exact absurd h5 hA
    ·exact hw.good v t h5
theorem zAi {opp:Int}(ho2: ∀v,g.own v=who∨g.own v=opp)(hne: ¬who=opp){goal L M:Nat→Prop}{s m:Nat→Nat}
  (hL:xi g opp (fun v=>D v∧¬Att g who D goal v) L s)
  (hM:xi g opp (fun v=>D v∧¬Att g opp D L v) M m): ∃s',xi g opp D (fun v=>M v∨Att g opp D L v) s':=by
 classical
 let B:=Att g opp D L
 let r:=rk g opp D L
 have hLD: ∀v,L v→D v:=fun v h=>(hL.sub v h).1
 have hLB: ∀v,L v→B v:=fun v h=>Att.base (hLD v h) h
 let s':Nat→Nat:=fun v=>if L v then s v else if B v then KF g opp D L v else m v
 have e1: ∀v,L v→s' v=s v:=fun v h=>by show(if _ then _ else _)=_;rw [if_pos h]
 have e2: ∀v,¬L v→B v→s' v=KF g opp D L v:=fun v h h2=>by show(if _ then _ else _)=_;rw [if_neg h,if_pos h2]
 have e3: ∀v,¬B v→s' v=m v:=fun v h=>by show(if _ then _ else _)=_;rw [if_neg (fun h2=>h (hLB v h2)),if_neg h]
 have hMB: ∀v,M v→¬B v:=fun v h=>(hM.sub v h).2
 -- from L nobody leaves L
 have stepL: ∀v u,L v→D u→g.E v u→(g.own v=opp→u=s' v)→L u:=fun v u h1 h2 h3 h4=>by
  rcases ho2 v with e|e
  ·have hv:=hL.sub v h1
   exact hL.opp v u h1 (fun e5=>hne (e.symm.trans e5)) h3 ⟨h2,Att.out_own hv.1 hv.2 e h3⟩
  ·rw [h4 e,e1 v h1];exact(hL.own v h1 e).2
 refine⟨s',fun v h=> ?_,fun v h ho=> ?_,fun v u h ho he hu=> ?_,fun v t w=> ?_⟩
 ·rcases h with h|h
  ·exact(hM.sub v h).1
  ·exact Att.inD h
 ·by_cases h1:L v
  ·rw [e1 v h1]
   have :=hL.own v h1 ho
   exact⟨this.1, .inr (hLB _ this.2)⟩
  ·by_cases h2:B v
   ·rw [e2 v h1 h2]
    have :=VD h2 h1 ho
    exact⟨this.1, .inr this.2.1⟩
   ·rw [e3 v h2]
    rcases h with h|h
    ·have :=hM.own v h ho
     exact⟨this.1, .inl this.2⟩
    ·exact absurd h h2
 ·by_cases h3:B u
  ·exact .inr h3
  ·by_cases h1:L v
   ·exact .inr (hLB _ (stepL v u h1 hu he fun e=>absurd e ho))
   ·rcases h with h|h
    ·exact .inl (hM.opp v u h ho he ⟨hu,h3⟩)
    ·rcases h.cases with⟨-,h4⟩|⟨-,h4,-⟩|⟨-,-,h4⟩
     ·exact absurd h4 h1
     ·exact absurd h4 ho
     ·exact .inr (h4 u he hu).1
 ·have hD: ∀v,(M v∨B v)→D v:=fun v h=>by
   rcases h with h|h
   ·exact(hM.sub v h).1
   ·exact Att.inD h
  have claim: ∀{v u t:Nat},Wk (SR g opp (fun v=>M v∨B v) s') g.pr v u t→(L v→L u∧Wk (SR g opp L s) g.pr v u t)∧(¬L v→B v→L u∨(B u∧r u<r v))∧(¬B v→B u∨Wk (SR g opp M m) g.pr v u t):=by
   intro v u t w
   have q1: ∀v u,SR g opp (fun v=>M v∨B v) s' v u→L v→L u∧SR g opp L s v u:=fun v u h h1=>by
    have h2:=stepL v u h1 (hD u h.2.1) h.2.2.1 h.2.2.2
    exact⟨h2,h1,h2,h.2.2.1,fun e=>by rw [h.2.2.2 e,e1 v h1]⟩
   have q2: ∀v u,SR g opp (fun v=>M v∨B v) s' v u→¬L v→B v→B u∧r u<r v:=fun v u h h1 h2=>by
    rcases h2.cases with⟨-,h4⟩|⟨-,h4,-⟩|⟨-,-,h4⟩
    ·exact absurd h4 h1
    ·have :=VD h2 h1 h4
     rw [h.2.2.2 h4,e2 v h1 h2]
     exact this.2
    ·exact h4 u h.2.2.1 (hD u h.2.1)
   have q3: ∀v u,SR g opp (fun v=>M v∨B v) s' v u→¬B v→¬B u→SR g opp M m v u:=fun v u h h1 h2=>by
    have hm: ∀x,(M x∨B x)→¬B x→M x:=fun x h5 h6=>h5.resolve_right h6
    exact⟨hm v h.1 h1,hm u h.2.1 h2,h.2.2.1,fun e=>by rw [h.2.2.2 e,e3 v h1]⟩
   induction w with
   | @one v u h=>
    refine⟨fun h1=> ?_,fun h1 h2=> .inr (q2 v u h h1 h2),fun h1=> ?_⟩
    ·obtain⟨a,b⟩:=q1 v u h h1
     exact⟨a, .one b⟩
    ·by_cases h2:B u
     ·exact .inl h2
     ·exact .inr (.one (q3 v u h h1 h2))
   | @cons v x u t h w ih=>
    obtain⟨i1,i2,i3⟩:=ih
    refine⟨fun h1=> ?_,fun h1 h2=> ?_,fun h1=> ?_⟩
    ·obtain⟨a,b⟩:=q1 v x h h1
     obtain⟨c,d⟩:=i1 a
     exact⟨c, .cons b d⟩
    ·obtain⟨a,b⟩:=q2 v x h h1 h2
     by_cases hx:L x
     ·exact .inl (i1 hx).1
     ·rcases i2 hx a with h5|h5
      ·exact .inl h5
      ·exact .inr ⟨h5.1,Nat.lt_trans h5.2 b⟩
    ·by_cases h2:B x
     ·by_cases hx:L x
      ·exact .inl (hLB _ (i1 hx).1)
      ·rcases i2 hx h2 with h5|h5
       ·exact .inl (hLB _ h5)
       ·exact .inl h5.1
     ·rcases i3 h2 with h5|h5
      ·exact .inl h5
      ·exact .inr (.cons (q3 v x h h1 h2) h5)
  obtain⟨i1,i2,i3⟩:=claim w
  by_cases h1:L v
  ·exact hL.good v t (i1 h1).2
  ·by_cases h2:B v
   ·rcases i2 h1 h2 with h5|h5
    ·exact absurd h5 h1
    ·omega
   ·rcases i3 h2 with h5|h5
    ·exact absurd h5 h2
    ·exact hM.good v t h5
theorem zAj {opp:Int}(ho2: ∀v,g.own v=who∨g.own v=opp){L M:Nat→Prop}{m:Nat→Nat}(hM:xi g who (fun v=>D v∧¬Att g opp D L v) M m):xi g who D M m:=
 ⟨fun v h=>(hM.sub v h).1,hM.own,fun v u h ho he hu=>hM.opp v u h ho he ⟨hu,Att.out_own (hM.sub v h).1 (hM.sub v h).2 ((ho2 v).resolve_left ho) he⟩,hM.good⟩
end
theorem yP {g:PG}{who:Int}{D U D' U':Nat→Prop}{s:Nat→Nat}(h:xi g who D U s)(hD: ∀v,D v↔D' v)(hU: ∀v,U v↔U' v):xi g who D' U' s:=by
 have e1:D=D':=funext fun v=>propext (hD v)
 have e2:U=U':=funext fun v=>propext (hU v)
 rw [←e1,←e2];exact h
theorem Jt {g:PG}{D U V:Nat→Prop}{s t:Nat→Nat}{n:Nat}(hn: ∀v,D v→v<n)(ho: ∀v,g.own v=0∨g.own v=1)(h0:xi g 0 D U s)(h1:xi g 1 D V t)(v:Nat)(hU:U v)(hV:V v):False:=by
 let f:Nat→Nat:=fun x=>if g.own x=0 then s x else t x
 have step: ∀x,U x∧V x→(U (f x)∧V (f x))∧SR g 0 U s x (f x)∧SR g 1 V t x (f x):=fun x ⟨hu,hv⟩=>by
  rcases ho x with e|e
  ·have hf:f x=s x:=if_pos e
   have a:=h0.own x hu e
   have b:=h1.opp x (s x) hv (by omega) a.1 (h0.sub _ a.2)
   rw [hf]
   exact⟨⟨a.2,b⟩,⟨hu,a.2,a.1,fun _=>rfl⟩,hv,b,a.1,fun e2=>by omega⟩
  ·have hf:f x=t x:=if_neg (by omega)
   have a:=h1.own x hv e
   have b:=h0.opp x (t x) hu (by omega) a.1 (h1.sub _ a.2)
   rw [hf]
   exact⟨⟨b,a.2⟩,⟨hu,b,a.1,fun e2=>by omega⟩,hv,a.2,a.1,fun _=>rfl⟩
 let it:Nat→Nat:=fun k=>Nat.rec v (fun _ x=>f x) k
 have hit: ∀k,U (it k)∧V (it k):=fun k=>by
  induction k with
  |zero=>exact⟨hU,hV⟩
  |succ k ih=>exact(step _ ih).1
 have hlt: ∀k,it k<n:=fun k=>hn _ (h0.sub _ (hit k).1)
 have walk: ∀i d,∃p,Wk (SR g 0 U s) g.pr (it i) (it (i+d+1)) p∧Wk (SR g 1 V t) g.pr (it i) (it (i+d+1)) p:=by
  intro i d
  induction d with
  |zero=>exact⟨_, .one (step _ (hit i)).2.1, .one (step _ (hit i)).2.2⟩
  |succ d ih=>
   obtain⟨p,a,b⟩:=ih
   exact⟨_,a.app (.one (step _ (hit (i+d+1))).2.1),b.app (.one (step _ (hit (i+d+1))).2.2)⟩
 have rep: ∃i d,it (i+d+1)=it i:=by
  refine Classical.byContradiction fun hno=> ?_
  have hnd:((List.range (n+1)).map it).Nodup:=by
   rw [List.nodup_iff_pairwise_ne,List.pairwise_map]
   refine List.Pairwise.imp_of_mem ?_ (List.pairwise_lt_range)
   intro a b ha hb hab e
   exact hno ⟨a,b - a - 1,by rw [show a+(b - a - 1)+1=b by omega];exact e.symm⟩
  have :=List.Nodup.length_le_of_subset (l₂:=List.range n) hnd (fun x hx=>by
   obtain⟨k,-,rfl⟩:=List.mem_map.1 hx
   exact List.mem_range.2 (hlt k))
  simp at this
  omega
 obtain⟨i,d,e⟩:=rep
 obtain⟨p,a,b⟩:=walk i d
 rw [e]at a b
 have :=h0.good _ _ a
 have :=h1.good _ _ b
 omega
end Go.Proofs.YtcleaokoimhedaaGreat
