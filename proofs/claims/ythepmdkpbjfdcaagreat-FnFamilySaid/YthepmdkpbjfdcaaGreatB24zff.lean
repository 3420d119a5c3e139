/- Recorded: the program's side -/
import Derived.Test.YthepmdkpbjfdcaaGreatGzzff
import Derived.Test.YthepmdkpbjfdcaaGreatGszff
import Derived.Test.YthepmdkpbjfdcaaGreatB20zff
import Derived.Test.YthepmdkpbjfdcaaGreatB21zff
import Derived.Test.YthepmdkpbjfdcaaGreatB16zff
import Derived.Test.YthepmdkpbjfdcaaGreatB11zff
import Derived.Test.YthepmdkpbjfdcaaGreatB17zff
import Derived.Test.YthepmdkpbjfdcaaGreatB5zff
import Derived.Test.YthepmdkpbjfdcaaGreatB7zff
namespace Go.Proofs.YthepmdkpbjfdcaaGreat
open Nat renaming reduceMod → zA, reduceMul → zB, reduceDiv → zC, reduceAdd → zD, reduceSub → zE, reduceEqDiff → zF, reduceBEq → zG, reduceLT → zH, reduceLeDiff → zI
open Go.RowKit
set_option linter.unusedVariables false
set_option linter.unusedSimpArgs false
set_option maxRecDepth 20000 in
set_option maxHeartbeats 4000000 in
theorem zD4 (ps:List Pr)(hp:PLn 1048576 ps)(p:Plc)(hv:vh p.record ps.length=true):FnX Tryz.prog tyT 121 [.v (.agg [.int .i64 p.at_,DI p.record]), .ref (.lst 2 [.lst 93 (dII (ilv ps))])] [.c (DI (nxL ps p.record p.at_))]:=by
 have hl:=hp.1
 have hli:=xV ps
 have hrf:=(qU hv).1
 have hN:=zEv ps hp p.record p.at_ hv
 refine YJ (fn:=Tryz.f121) (rs:= [.tmp 3]) zQ zN Tryz.func121 (by kernel_rfl) rfl rfl (by rw [Tryz.ntmps121];exact Nat.le_of_ble_eq_true rfl) rfl (by simp only [szX,List.mem_cons,List.not_mem_nil,or_false,forall_eq_or_imp,forall_eq,XT.cells,VT.cells,szL];try decide) ?_
 rw [Tryz.ntmps121]
 push_cast
 refine θA ?_
 refine θL fun K hK=> ?_
 refine θD 6 ?_
 refine θE hK ?_
 refine zY ⟨Or.inl rfl,?_⟩
 push_cast [zd,zt,yH]
set_option maxRecDepth 20000 in
set_option maxHeartbeats 4000000 in
theorem zD5 (ps:List Pr)(hp:PLn 1048576 ps)(p:Plc)(hv:vh p.record ps.length=true):FnX Tryz.prog tyT 123 [.v (.agg [.int .i64 p.at_,DI p.record]), .ref (.lst 2 [.lst 93 (dII (ilv ps))])] [.c (.int .i64 (qD ps p.record p.at_))]:=by
 have hl:=hp.1
 have hli:=xV ps
 have hrf:=(qU hv).1
 have hN:=zFA ps hp p.record p.at_ hv
 refine YJ (fn:=Tryz.f123) (rs:= [.tmp 3]) zQ zN Tryz.func123 (by kernel_rfl) rfl rfl (by rw [Tryz.ntmps123];exact Nat.le_of_ble_eq_true rfl) rfl (by simp only [szX,List.mem_cons,List.not_mem_nil,or_false,forall_eq_or_imp,forall_eq,XT.cells,VT.cells,szL];try decide) ?_
 rw [Tryz.ntmps123]
 push_cast
 refine θA ?_
 refine θL fun K hK=> ?_
 refine θD 6 ?_
 refine θE hK ?_
 refine zY ⟨Or.inl rfl,?_⟩
 push_cast [zd,zt,yH]
set_option maxRecDepth 20000 in
set_option maxHeartbeats 16000000 in
theorem zAe (a:Ar)(ha:a.Ln 1048576)(ps:List Pr)(hp:PLn 1048576 ps)(hp4:ps.length≤4)(s:Int)(hPre:yK a=true∧Qa a (rcR ps) ⟨s,zT ps.length⟩ (fun r=>vh r ps.length=true) 4)(K0:AV→List AV→List (Nat×zq)→Prop)(hKA:okQ (usA a) (rcR ps) ⟨s,zT ps.length⟩=false→K0 (.tup [.agg [.sl 128 [] 0 0 2, .sl 129 [] 0 0 22, .sl 130 [] 0 0 2], .sl 144 [] 0 0 112, .bool false]) [.sl 96 [] 0 0 2, .sl 97 [] 0 0 22, .sl 98 [] 0 0 2] [(128,⟨.ex,2,[],none⟩),(129,⟨.ex,22,[],none⟩),(130,⟨.ex,2,[],none⟩),(144,⟨.ex,112,[],none⟩)])(hKB: ∀i,i≤256→¬i<(stQ (usA a) (rcR ps) ⟨s,zT ps.length⟩ i).length→i≤(stQ (usA a) (rcR ps) ⟨s,zT ps.length⟩ i).length→K0 (.tup [.agg [.sl 128 [] 0 i 2, .sl 129 [] 0 i 22, .sl 130 [] 0 i 2], .sl 144 [] 0 (stQ (usA a) (rcR ps) ⟨s,zT ps.length⟩ i).length 112, .bool true]) [.sl 96 [] 0 0 2, .sl 97 [] 0 0 22, .sl 98 [] 0 0 2] [(128,⟨.ex,2,dI (xT a (rcR ps) ⟨s,zT ps.length⟩ i),none⟩),(129,⟨.ex,22,dII (nxG a (rcR ps) ⟨s,zT ps.length⟩ i),none⟩),(130,⟨.ex,2,dI (prG a (rcR ps) (prR ps) ⟨s,zT ps.length⟩ i),none⟩),(144,⟨.ex,112,yy (stQ (usA a) (rcR ps) ⟨s,zT ps.length⟩ i),none⟩)]):awp Tryz.prog tyT (Tryz.f110.body.getD .skip) (RetI tyT [.cell 8 80, .tmp 9, .tmp 10] K0) ⟨89,[(0, .agg [.sl 0 [] 0 a.owner.length 2, .sl 1 [] 0 a.next.length 22]),(1, .agg [.int .i64 s, .sl 145 [] 0 (zT ps.length).length 2]),(2, .fn 121 [.bp 4 0]),(3, .fn 123 [.bp 4 0])],[(1000000,[.sl 96 [] 0 0 2, .sl 97 [] 0 0 22, .sl 98 [] 0 0 2]),(4,[.sl 16 [] 0 ps.length 93])],[(0,⟨.sh,2,dI a.owner,none⟩),(1,⟨.sh,22,dII a.next,none⟩),(16,⟨.sh,93,dII (ilv ps),none⟩),(145,⟨.ex,2,dI (zT ps.length),none⟩)]⟩:=by
 have hno:=ha.owner
 have hnn:=ha.next.1
 have hrr: ∀v,(gl a.next v).length≤1048576:=fun v=>ZP ha.next v
 unfold LnI at hno
 have h1:=hPre.1
 have h3:=hPre.2
 have hln:=yO h1
 refine zCu 4 2000 rfl rfl ?_
 push_cast [↓zK,↓zJ]
 refine zIL rfl ?_
 (try push_cast [↓zK,↓zJ])
 refine θA ?_
 refine θN ?_
 refine θA ?_
 refine zL fun K1 hK1=> ?_
 refine xm 112 11 (Nat.le_of_ble_eq_true rfl) ?_
 push_cast [↓zK,↓zJ]
 refine θA ?_
 refine zV ?_
 refine zh [9,10,11,12,13,14,15,16,18,19,23,24,25,26,27,28,29,30,31,32,33,34,35,36,37,38,39,40,41,42,43,44,45,46,47,48,49,50,51,52,53,54,55,56,57,58,59,60,61,62,63,64,65,66,67,68,69,70,71,72,73,74,75,76,77,78,79,80,81,82,83,84,85,86] [] (fun(i:Nat)=> [(13, .int .i64 i),(11, .sl 176 [] 0 (stQ (usA a) (rcR ps) ⟨s,zT ps.length⟩ i).length 112),(12, .bp 12 0)]) (fun i=> [(12,[.sl 192 [] 0 i 2, .sl 193 [] 0 i 22, .sl 194 [] 0 i 2])]) (fun i=> [(176,⟨.ex,112,yy (stQ (usA a) (rcR ps) ⟨s,zT ps.length⟩ i),none⟩),(192,⟨.ex,2,dI (xT a (rcR ps) ⟨s,zT ps.length⟩ i),none⟩),(193,⟨.ex,22,dII (nxG a (rcR ps) ⟨s,zT ps.length⟩ i),none⟩),(194,⟨.ex,2,dI (prG a (rcR ps) (prR ps) ⟨s,zT ps.length⟩ i),none⟩)]) (fun i=>i≤256∧i≤(stQ (usA a) (rcR ps) ⟨s,zT ps.length⟩ i).length∧(stQ (usA a) (rcR ps) ⟨s,zT ps.length⟩ i).length≤256) (fun i=>257 - i) 0 ?_ ⟨by omega,Nat.zero_le _,(by show 1≤256;decide)⟩ ?_
 ·
  rw [show stQ (usA a) (rcR ps) ⟨s,zT ps.length⟩ 0= [⟨s,zT ps.length⟩]from rfl,zDs,zG1,zG8]
  refine zX rfl ?_ ?_ ?_<;>push_cast [zf,ze,↓zK,↓zJ]
  all_goals first|rfl|exact⟨rfl,rfl,rfl,rfl⟩|skip
 ·rintro i ⟨hi,hil,hsl⟩ KL0 hL0
  have hall:=vD h1 h3 i
  have hq:QLn 1048576 (stQ (usA a) (rcR ps) ⟨s,zT ps.length⟩ i):=⟨by omega,fun p hp=>by have :=h3.small _ (hall p hp).2.2;omega⟩
  have hgl:=fun k=>Wu hq k
  have ho1:=qO (a:=a) (rc:=(rcR ps)) (p0:=⟨s,zT ps.length⟩) i
  have ho2:=Yy (a:=a) (rc:=(rcR ps)) (p0:=⟨s,zT ps.length⟩) i
  have ho3:=YF (a:=a) (rc:=(rcR ps)) (pr:=(prR ps)) (p0:=⟨s,zT ps.length⟩) i
  push_cast [↓zK,↓zJ]
  refine zL fun K2 hK2=> ?_
  refine θA ?_
  refine θU (fun hc=> ?_) fun hc=> ?_
  ·
   refine zW (hK2 _ ?_)
   refine zL fun K3 hK3=> ?_
   refine zV ?_
   have hP:=hall _ (vC (k:=i) (by omega))
   have hU:1≤(gl a.next (gq (stQ (usA a) (rcR ps) ⟨s,zT ps.length⟩ i) i).at_.toNat).length∧(gl a.next (gq (stQ (usA a) (rcR ps) ⟨s,zT ps.length⟩ i) i).at_.toNat).length≤16∧∀u∈(gl a.next (gq (stQ (usA a) (rcR ps) ⟨s,zT ps.length⟩ i) i).at_.toNat),0≤u∧u<(a.owner.length:Int):=Je h1 ⟨hP.1,hP.2.1⟩
   have hpl:=h3.small _ hP.2.2
   have hnl:(nxL ps (gq (stQ (usA a) (rcR ps) ⟨s,zT ps.length⟩ i) i).record (gq (stQ (usA a) (rcR ps) ⟨s,zT ps.length⟩ i) i).at_).length≤4:=h3.small _ (h3.next _ hP.1 hP.2.1 hP.2.2)
   refine θA ?_
   refine zL fun K hK=> ?_
   refine vu 35 2 rfl zQ zN [] rfl ?_
   push_cast [↓zK,↓zJ]
   repeat' apply And.intro
   all_goals(try push_cast [↓zK,↓zJ])
   all_goals repeat'(first|(apply zO<;>(intro hg;(try push_cast at hg)))|(refine⟨_,zD4 ps hp (gq (stQ (usA a) (rcR ps) ⟨s,zT ps.length⟩ i) i) hP.2.2,?_⟩;push_cast [↓zK,↓zJ])|apply And.intro|(intro hg;(try push_cast at hg)))
   all_goals first|exact gA|(exact zZ (by omega))|skip
   all_goals(refine hK _ ?_;clear hK K)
   refine θA ?_
   refine zL fun K4 hK4=> ?_
   refine θA ?_
   refine zV ?_
   refine zh [11,14,16,18,19,24,29,31,32,33,34,44,45,46,47,48,49,50,51,52,53,54,55,56,57,58,59,60,61,62,63,64,65,66,67,68] [256,224,225] (fun(k:Nat)=> [(44, .int .i64 k),(11, .sl 176 [] 0 (zn (nxL ps (gq (stQ (usA a) (rcR ps) ⟨s,zT ps.length⟩ i) i).record (gq (stQ (usA a) (rcR ps) ⟨s,zT ps.length⟩ i) i).at_) (gl a.next (gq (stQ (usA a) (rcR ps) ⟨s,zT ps.length⟩ i) i).at_.toNat) (stQ (usA a) (rcR ps) ⟨s,zT ps.length⟩ i) k).1.length 112),(16, .sl 256 [] 0 k 2),(14, .bp 14 0)]) (fun k=> [(14,[.int .i64 (gq (stQ (usA a) (rcR ps) ⟨s,zT ps.length⟩ i) i).at_, .sl 176 [i*2+1] 0 (gq (stQ (usA a) (rcR ps) ⟨s,zT ps.length⟩ i) i).record.length 2])]) (fun k=> [(176,⟨.ex,112,yy (zn (nxL ps (gq (stQ (usA a) (rcR ps) ⟨s,zT ps.length⟩ i) i).record (gq (stQ (usA a) (rcR ps) ⟨s,zT ps.length⟩ i) i).at_) (gl a.next (gq (stQ (usA a) (rcR ps) ⟨s,zT ps.length⟩ i) i).at_.toNat) (stQ (usA a) (rcR ps) ⟨s,zT ps.length⟩ i) k).1,none⟩),(256,⟨.ex,2,dI (zn (nxL ps (gq (stQ (usA a) (rcR ps) ⟨s,zT ps.length⟩ i) i).record (gq (stQ (usA a) (rcR ps) ⟨s,zT ps.length⟩ i) i).at_) (gl a.next (gq (stQ (usA a) (rcR ps) ⟨s,zT ps.length⟩ i) i).at_.toNat) (stQ (usA a) (rcR ps) ⟨s,zT ps.length⟩ i) k).2,none⟩)]) (fun k=>k≤(gl a.next (gq (stQ (usA a) (rcR ps) ⟨s,zT ps.length⟩ i) i).at_.toNat).length) (fun k=>(gl a.next (gq (stQ (usA a) (rcR ps) ⟨s,zT ps.length⟩ i) i).at_.toNat).length - k) 0 ?_ (Nat.zero_le _) ?_
   ·
    rw [Ud]
    refine zX rfl ?_ ?_ ?_<;>push_cast [zf,ze,↓zK,↓zJ]
    all_goals first|rfl|skip
   ·rintro k hk KL1 hL1
    have hrl:=xw (r:=(nxL ps (gq (stQ (usA a) (rcR ps) ⟨s,zT ps.length⟩ i) i).record (gq (stQ (usA a) (rcR ps) ⟨s,zT ps.length⟩ i) i).at_)) (us:=(gl a.next (gq (stQ (usA a) (rcR ps) ⟨s,zT ps.length⟩ i) i).at_.toNat)) (ps:=(stQ (usA a) (rcR ps) ⟨s,zT ps.length⟩ i)) (k:=k) hk
    have hQr:QLn 1048576 (zn (nxL ps (gq (stQ (usA a) (rcR ps) ⟨s,zT ps.length⟩ i) i).record (gq (stQ (usA a) (rcR ps) ⟨s,zT ps.length⟩ i) i).at_) (gl a.next (gq (stQ (usA a) (rcR ps) ⟨s,zT ps.length⟩ i) i).at_.toNat) (stQ (usA a) (rcR ps) ⟨s,zT ps.length⟩ i) k).1:=⟨by omega,fun p hp=>by have :=h3.small _ (zDy h1 h3 (i:=i) (k:=k) (by omega) hk p hp).2.2;omega⟩
    have hx:=zDX (yw (gi (gl a.next (gq (stQ (usA a) (rcR ps) ⟨s,zT ps.length⟩ i) i).at_.toNat) k) (nxL ps (gq (stQ (usA a) (rcR ps) ⟨s,zT ps.length⟩ i) i).record (gq (stQ (usA a) (rcR ps) ⟨s,zT ps.length⟩ i) i).at_)) (zn (nxL ps (gq (stQ (usA a) (rcR ps) ⟨s,zT ps.length⟩ i) i).record (gq (stQ (usA a) (rcR ps) ⟨s,zT ps.length⟩ i) i).at_) (gl a.next (gq (stQ (usA a) (rcR ps) ⟨s,zT ps.length⟩ i) i).at_.toNat) (stQ (usA a) (rcR ps) ⟨s,zT ps.length⟩ i) k).1
    push_cast [↓zK,↓zJ]
    refine θA ?_
    refine zL fun K5 hK5=> ?_
    refine θU (fun hc=> ?_) fun hc=> ?_
    ·
     refine zW (hK5 _ ?_)
     refine zL fun K6 hK6=> ?_
     refine zV ?_
     refine θA ?_
     refine θL fun K hK=> ?_
     all_goals refine zj 4 fun K9 hK9=> ?_
     all_goals push_cast [↓zK,↓zJ]
     all_goals repeat'(first|(apply zO<;>(intro hg;(try simp only [push_cast]at hg)))|(refine⟨_,QD (zn (nxL ps (gq (stQ (usA a) (rcR ps) ⟨s,zT ps.length⟩ i) i).record (gq (stQ (usA a) (rcR ps) ⟨s,zT ps.length⟩ i) i).at_) (gl a.next (gq (stQ (usA a) (rcR ps) ⟨s,zT ps.length⟩ i) i).at_.toNat) (stQ (usA a) (rcR ps) ⟨s,zT ps.length⟩ i) k).1 hQr (gi (gl a.next (gq (stQ (usA a) (rcR ps) ⟨s,zT ps.length⟩ i) i).at_.toNat) k) (nxL ps (gq (stQ (usA a) (rcR ps) ⟨s,zT ps.length⟩ i) i).record (gq (stQ (usA a) (rcR ps) ⟨s,zT ps.length⟩ i) i).at_) (by omega),?_⟩;push_cast [↓zK,↓zJ])|apply And.intro|(intro hg;(try simp only [push_cast]at hg)))
     all_goals first|exact gA|(exact zZ (by omega))|skip
     all_goals(refine hK9 _ ?_;clear hK9 K9)
     all_goals push_cast [↓zK,↓zJ]
     all_goals repeat'(first|(apply zO<;>(intro hg;(try simp only [push_cast]at hg)))|(refine⟨_,QD (zn (nxL ps (gq (stQ (usA a) (rcR ps) ⟨s,zT ps.length⟩ i) i).record (gq (stQ (usA a) (rcR ps) ⟨s,zT ps.length⟩ i) i).at_) (gl a.next (gq (stQ (usA a) (rcR ps) ⟨s,zT ps.length⟩ i) i).at_.toNat) (stQ (usA a) (rcR ps) ⟨s,zT ps.length⟩ i) k).1 hQr (gi (gl a.next (gq (stQ (usA a) (rcR ps) ⟨s,zT ps.length⟩ i) i).at_.toNat) k) (nxL ps (gq (stQ (usA a) (rcR ps) ⟨s,zT ps.length⟩ i) i).record (gq (stQ (usA a) (rcR ps) ⟨s,zT ps.length⟩ i) i).at_) (by omega),?_⟩;push_cast [↓zK,↓zJ])|apply And.intro|(intro hg;(try simp only [push_cast]at hg)))
     all_goals first|exact gA|(exact zZ (by omega))|skip
     all_goals(refine hK _ ?_;clear hK K)
     refine zL fun K7 hK7=> ?_
     refine θA ?_
     refine θU (fun hc=> ?_) fun hc=> ?_
     ·
      refine θA ?_
      refine Vi 7 14 1 1008 176 [176] zQ zN ?_ rfl rfl rfl fun K9 hK9=> ?_
      ·kernel_rfl
      all_goals push_cast [↓zK,↓zJ]
      all_goals repeat'(first|(apply zO<;>(intro hg;(try push_cast at hg)))|apply And.intro|(intro hg;(try push_cast at hg)))
      all_goals first|exact gA|(exact zZ (by omega))|skip
      all_goals(refine hK9 _ ?_;clear hK9 K9)
      all_goals push_cast [↓zK,↓zJ]
      all_goals repeat'(first|(apply zO<;>(intro hg;(try push_cast at hg)))|apply And.intro|(intro hg;(try push_cast at hg)))
      all_goals first|exact gA|(exact zZ (by omega))|skip
      refine hK7 _ ?_
      refine θB ?_
      refine hK6 _ ?_
      refine θB ?_
      refine hL1 _ ⟨k+1,by omega,by omega,?_⟩
      (try rw [List.take_of_length_le (l:=(zn (nxL ps (gq (stQ (usA a) (rcR ps) ⟨s,zT ps.length⟩ i) i).record (gq (stQ (usA a) (rcR ps) ⟨s,zT ps.length⟩ i) i).at_) (gl a.next (gq (stQ (usA a) (rcR ps) ⟨s,zT ps.length⟩ i) i).at_.toNat) (stQ (usA a) (rcR ps) ⟨s,zT ps.length⟩ i) k).2) (by omega)])
      rw [va (by omega) (by with_reducible assumption)]
      refine zX rfl ?_ ?_ ?_<;>push_cast [zf,ze,↓zK,↓zJ]
      all_goals first|rfl|(rw [List.length_append];rfl)|exact⟨rfl,rfl⟩|skip
     ·
      refine zW (hK7 _ ?_)
      refine θB ?_
      refine hK6 _ ?_
      refine θB ?_
      refine hL1 _ ⟨k+1,by omega,by omega,?_⟩
      (try rw [List.take_of_length_le (l:=(zn (nxL ps (gq (stQ (usA a) (rcR ps) ⟨s,zT ps.length⟩ i) i).record (gq (stQ (usA a) (rcR ps) ⟨s,zT ps.length⟩ i) i).at_) (gl a.next (gq (stQ (usA a) (rcR ps) ⟨s,zT ps.length⟩ i) i).at_.toNat) (stQ (usA a) (rcR ps) ⟨s,zT ps.length⟩ i) k).2) (by omega)])
      rw [wA (by omega) (by with_reducible assumption)]
      exact θX
      all_goals first|rfl|(rw [List.length_append];rfl)|exact⟨rfl,rfl⟩|skip
    ·
     refine zi ?_
     have hkk:k=(gl a.next (gq (stQ (usA a) (rcR ps) ⟨s,zT ps.length⟩ i) i).at_.toNat).length:=by omega
     subst hkk
     refine hK4 _ ?_
     refine zL fun K8 hK8=> ?_
     have hgi:gq (zn (nxL ps (gq (stQ (usA a) (rcR ps) ⟨s,zT ps.length⟩ i) i).record (gq (stQ (usA a) (rcR ps) ⟨s,zT ps.length⟩ i) i).at_) (gl a.next (gq (stQ (usA a) (rcR ps) ⟨s,zT ps.length⟩ i) i).at_.toNat) (stQ (usA a) (rcR ps) ⟨s,zT ps.length⟩ i) (gl a.next (gq (stQ (usA a) (rcR ps) ⟨s,zT ps.length⟩ i) i).at_.toNat).length).1 i=(gq (stQ (usA a) (rcR ps) ⟨s,zT ps.length⟩ i) i):=WW (by omega) (Nat.le_refl _)
     have hrl9:=xw (r:=(nxL ps (gq (stQ (usA a) (rcR ps) ⟨s,zT ps.length⟩ i) i).record (gq (stQ (usA a) (rcR ps) ⟨s,zT ps.length⟩ i) i).at_)) (us:=(gl a.next (gq (stQ (usA a) (rcR ps) ⟨s,zT ps.length⟩ i) i).at_.toNat)) (ps:=(stQ (usA a) (rcR ps) ⟨s,zT ps.length⟩ i)) (k:=(gl a.next (gq (stQ (usA a) (rcR ps) ⟨s,zT ps.length⟩ i) i).at_.toNat).length) (Nat.le_refl _)
     refine θA ?_
     refine θU (fun hc=> ?_) fun hc=> ?_
     ·
      refine θA ?_
      refine zY ⟨Or.inl rfl,?_⟩
      push_cast [zt,yH,↓zK,↓zJ]
      refine⟨_,?_,hKA (zDq hi (by rw [ZV (by omega)];show 256<(zn (nxL ps (gq (stQ (usA a) (rcR ps) ⟨s,zT ps.length⟩ i) i).record (gq (stQ (usA a) (rcR ps) ⟨s,zT ps.length⟩ i) i).at_) (gl a.next (gq (stQ (usA a) (rcR ps) ⟨s,zT ps.length⟩ i) i).at_.toNat) (stQ (usA a) (rcR ps) ⟨s,zT ps.length⟩ i) (gl a.next (gq (stQ (usA a) (rcR ps) ⟨s,zT ps.length⟩ i) i).at_.toNat).length).1.length;omega))⟩
      push_cast [↓zK,↓zJ]
      all_goals first|exact⟨trivial,trivial⟩|skip
     ·
      refine zW (hK8 _ ?_)
      have hSo:FnG Tryz.prog tyT 118 [.c (DI (List.take (gl a.next (gq (stQ (usA a) (rcR ps) ⟨s,zT ps.length⟩ i) i).at_.toNat).length (zn (nxL ps (gq (stQ (usA a) (rcR ps) ⟨s,zT ps.length⟩ i) i).record (gq (stQ (usA a) (rcR ps) ⟨s,zT ps.length⟩ i) i).at_) (gl a.next (gq (stQ (usA a) (rcR ps) ⟨s,zT ps.length⟩ i) i).at_.toNat) (stQ (usA a) (rcR ps) ⟨s,zT ps.length⟩ i) (gl a.next (gq (stQ (usA a) (rcR ps) ⟨s,zT ps.length⟩ i) i).at_.toNat).length).2))] [0] [(0,2,dI (zz (zn (nxL ps (gq (stQ (usA a) (rcR ps) ⟨s,zT ps.length⟩ i) i).record (gq (stQ (usA a) (rcR ps) ⟨s,zT ps.length⟩ i) i).at_) (gl a.next (gq (stQ (usA a) (rcR ps) ⟨s,zT ps.length⟩ i) i).at_.toNat) (stQ (usA a) (rcR ps) ⟨s,zT ps.length⟩ i) (gl a.next (gq (stQ (usA a) (rcR ps) ⟨s,zT ps.length⟩ i) i).at_.toNat).length).2))] []:=by rw [List.take_of_length_le (l:=(zn (nxL ps (gq (stQ (usA a) (rcR ps) ⟨s,zT ps.length⟩ i) i).record (gq (stQ (usA a) (rcR ps) ⟨s,zT ps.length⟩ i) i).at_) (gl a.next (gq (stQ (usA a) (rcR ps) ⟨s,zT ps.length⟩ i) i).at_.toNat) (stQ (usA a) (rcR ps) ⟨s,zT ps.length⟩ i) (gl a.next (gq (stQ (usA a) (rcR ps) ⟨s,zT ps.length⟩ i) i).at_.toNat).length).2) (by omega)];exact jA _ (by omega)
      refine zL fun K hK=> ?_
      refine Jz 74 [0] [(0,2,dI (zz (zn (nxL ps (gq (stQ (usA a) (rcR ps) ⟨s,zT ps.length⟩ i) i).record (gq (stQ (usA a) (rcR ps) ⟨s,zT ps.length⟩ i) i).at_) (gl a.next (gq (stQ (usA a) (rcR ps) ⟨s,zT ps.length⟩ i) i).at_.toNat) (stQ (usA a) (rcR ps) ⟨s,zT ps.length⟩ i) (gl a.next (gq (stQ (usA a) (rcR ps) ⟨s,zT ps.length⟩ i) i).at_.toNat).length).2))] zQ zN [] rfl ?_
      push_cast [↓zK,↓zJ]
      all_goals repeat'(first|(apply zO<;>(intro hg;(try push_cast at hg)))|(refine⟨_,hSo,?_⟩;push_cast [↓zK,↓zJ])|apply And.intro|(intro hg;(try push_cast at hg)))
      all_goals first|exact gA|(exact zZ (by omega))|skip
      all_goals(refine hK _ ?_;clear hK K)
      have hPv:FnX Tryz.prog tyT 123 [.v (.agg [.int .i64 (gq (stQ (usA a) (rcR ps) ⟨s,zT ps.length⟩ i) i).at_,DI (List.take (gq (stQ (usA a) (rcR ps) ⟨s,zT ps.length⟩ i) i).record.length (gq (zn (nxL ps (gq (stQ (usA a) (rcR ps) ⟨s,zT ps.length⟩ i) i).record (gq (stQ (usA a) (rcR ps) ⟨s,zT ps.length⟩ i) i).at_) (gl a.next (gq (stQ (usA a) (rcR ps) ⟨s,zT ps.length⟩ i) i).at_.toNat) (stQ (usA a) (rcR ps) ⟨s,zT ps.length⟩ i) (gl a.next (gq (stQ (usA a) (rcR ps) ⟨s,zT ps.length⟩ i) i).at_.toNat).length).1 i).record)]), .ref (.lst 2 [.lst 93 (dII (ilv ps))])] [.c (.int .i64 ((qD ps (gq (stQ (usA a) (rcR ps) ⟨s,zT ps.length⟩ i) i).record (gq (stQ (usA a) (rcR ps) ⟨s,zT ps.length⟩ i) i).at_)))]:=by rw [hgi,List.take_length];exact zD5 ps hp (gq (stQ (usA a) (rcR ps) ⟨s,zT ps.length⟩ i) i) hP.2.2
      have hsl9:=xJ (zn (nxL ps (gq (stQ (usA a) (rcR ps) ⟨s,zT ps.length⟩ i) i).record (gq (stQ (usA a) (rcR ps) ⟨s,zT ps.length⟩ i) i).at_) (gl a.next (gq (stQ (usA a) (rcR ps) ⟨s,zT ps.length⟩ i) i).at_.toNat) (stQ (usA a) (rcR ps) ⟨s,zT ps.length⟩ i) (gl a.next (gq (stQ (usA a) (rcR ps) ⟨s,zT ps.length⟩ i) i).at_.toNat).length).2
      have hWV:FnG Tryz.prog tyT 157 [.agg [DI (List.take i (xT a (rcR ps) ⟨s,zT ps.length⟩ i)),DII (List.take i (nxG a (rcR ps) ⟨s,zT ps.length⟩ i)),DI (List.take i (prG a (rcR ps) (prR ps) ⟨s,zT ps.length⟩ i))], .c (.int .i64 (gi a.owner (gq (stQ (usA a) (rcR ps) ⟨s,zT ps.length⟩ i) i).at_.toNat)), .c (.int .i64 ((qD ps (gq (stQ (usA a) (rcR ps) ⟨s,zT ps.length⟩ i) i).record (gq (stQ (usA a) (rcR ps) ⟨s,zT ps.length⟩ i) i).at_))), .c (DI (List.take (gl a.next (gq (stQ (usA a) (rcR ps) ⟨s,zT ps.length⟩ i) i).at_.toNat).length (zz (zn (nxL ps (gq (stQ (usA a) (rcR ps) ⟨s,zT ps.length⟩ i) i).record (gq (stQ (usA a) (rcR ps) ⟨s,zT ps.length⟩ i) i).at_) (gl a.next (gq (stQ (usA a) (rcR ps) ⟨s,zT ps.length⟩ i) i).at_.toNat) (stQ (usA a) (rcR ps) ⟨s,zT ps.length⟩ i) (gl a.next (gq (stQ (usA a) (rcR ps) ⟨s,zT ps.length⟩ i) i).at_.toNat).length).2)))] [0,1,2,48] [] [.agg [DI (xT a (rcR ps) ⟨s,zT ps.length⟩ i++ [gi a.owner (gq (stQ (usA a) (rcR ps) ⟨s,zT ps.length⟩ i) i).at_.toNat]),DII (nxG a (rcR ps) ⟨s,zT ps.length⟩ i++ [zz (zn (nxL ps (gq (stQ (usA a) (rcR ps) ⟨s,zT ps.length⟩ i) i).record (gq (stQ (usA a) (rcR ps) ⟨s,zT ps.length⟩ i) i).at_) (gl a.next (gq (stQ (usA a) (rcR ps) ⟨s,zT ps.length⟩ i) i).at_.toNat) (stQ (usA a) (rcR ps) ⟨s,zT ps.length⟩ i) (gl a.next (gq (stQ (usA a) (rcR ps) ⟨s,zT ps.length⟩ i) i).at_.toNat).length).2]),DI (prG a (rcR ps) (prR ps) ⟨s,zT ps.length⟩ i++ [(qD ps (gq (stQ (usA a) (rcR ps) ⟨s,zT ps.length⟩ i) i).record (gq (stQ (usA a) (rcR ps) ⟨s,zT ps.length⟩ i) i).at_)])]]:=by rw [List.take_of_length_le (l:=xT a (rcR ps) ⟨s,zT ps.length⟩ i) (by omega),List.take_of_length_le (l:=nxG a (rcR ps) ⟨s,zT ps.length⟩ i) (by omega),List.take_of_length_le (l:=prG a (rcR ps) (prR ps) ⟨s,zT ps.length⟩ i) (by omega),List.take_of_length_le (l:=zz (zn (nxL ps (gq (stQ (usA a) (rcR ps) ⟨s,zT ps.length⟩ i) i).record (gq (stQ (usA a) (rcR ps) ⟨s,zT ps.length⟩ i) i).at_) (gl a.next (gq (stQ (usA a) (rcR ps) ⟨s,zT ps.length⟩ i) i).at_.toNat) (stQ (usA a) (rcR ps) ⟨s,zT ps.length⟩ i) (gl a.next (gq (stQ (usA a) (rcR ps) ⟨s,zT ps.length⟩ i) i).at_.toNat).length).2) (by omega)];exact Jl (gmA a (rcR ps) (prR ps) ⟨s,zT ps.length⟩ i) ⟨⟨by show(xT _ _ _ i).length≤_;omega,⟨by show(nxG _ _ _ i).length≤_;omega,fun r hr=>by have :=zFq h1 h3 (n:=i) (zEK hil) r hr;omega⟩⟩,by show(prG _ _ _ _ i).length≤_;omega⟩ (gi a.owner (gq (stQ (usA a) (rcR ps) ⟨s,zT ps.length⟩ i) i).at_.toNat) ((qD ps (gq (stQ (usA a) (rcR ps) ⟨s,zT ps.length⟩ i) i).record (gq (stQ (usA a) (rcR ps) ⟨s,zT ps.length⟩ i) i).at_)) (zz (zn (nxL ps (gq (stQ (usA a) (rcR ps) ⟨s,zT ps.length⟩ i) i).record (gq (stQ (usA a) (rcR ps) ⟨s,zT ps.length⟩ i) i).at_) (gl a.next (gq (stQ (usA a) (rcR ps) ⟨s,zT ps.length⟩ i) i).at_.toNat) (stQ (usA a) (rcR ps) ⟨s,zT ps.length⟩ i) (gl a.next (gq (stQ (usA a) (rcR ps) ⟨s,zT ps.length⟩ i) i).at_.toNat).length).2) (by omega)
      refine Vh false false 11 (jB Tryz.prog tyT 2) [84] (fun _ _ _ h=>Ju rfl h) (QL Tryz.prog tyT [0,1,2,48] []) (fun _ _ _ _ _ _ _ _ _ h1 h2 h3 h4=>Xj h1 h2 h3 h4) zQ zN xR ?_ rfl rfl ?_
      ·kernel_rfl
      intro E hE
      all_goals push_cast [↓zK,↓zJ]
      all_goals repeat'(first|(apply zO<;>(intro hg;(try push_cast at hg)))|(refine⟨_,_,hPv,?_⟩;(try push_cast [↓zK,↓zJ]))|(refine⟨_,hWV,?_⟩;push_cast [↓zK,↓zJ])|apply And.intro|(intro hg;(try push_cast at hg)))
      all_goals first|exact gA|(refine hE _ _ ?_ rfl ?_;kernel_rfl)|(exact zZ (by omega))|skip
      all_goals clear hE E
      all_goals push_cast [↓zK,↓zJ]
      all_goals repeat'(first|(apply zO<;>(intro hg;(try push_cast at hg)))|(refine⟨_,_,hPv,?_⟩;(try push_cast [↓zK,↓zJ]))|(refine⟨_,hWV,?_⟩;push_cast [↓zK,↓zJ])|apply And.intro|(intro hg;(try push_cast at hg)))
      all_goals first|exact gA|(exact zZ (by omega))|skip
      all_goals first|(refine hg _ _ ?_ ?_;kernel_rfl)|skip
      refine hK3 _ ?_
      refine yx [.sl 2, .sl 22, .sl 2] 12 ?_
      push_cast [↓zK,↓zJ]
      refine θB ?_
      have hst:(stQ (usA a) (rcR ps) ⟨s,zT ps.length⟩ (i+1))=(zn (nxL ps (gq (stQ (usA a) (rcR ps) ⟨s,zT ps.length⟩ i) i).record (gq (stQ (usA a) (rcR ps) ⟨s,zT ps.length⟩ i) i).at_) (gl a.next (gq (stQ (usA a) (rcR ps) ⟨s,zT ps.length⟩ i) i).at_.toNat) (stQ (usA a) (rcR ps) ⟨s,zT ps.length⟩ i) (gl a.next (gq (stQ (usA a) (rcR ps) ⟨s,zT ps.length⟩ i) i).at_.toNat).length).1:=ZV (by omega)
      refine hL0 _ ⟨i+1,⟨by omega,(by rw [hst];omega),(by rw [hst];omega)⟩,by omega,?_⟩
      (try rw [List.take_of_length_le (l:=xT a (rcR ps) ⟨s,zT ps.length⟩ i) (by omega)])
      (try rw [List.take_of_length_le (l:=nxG a (rcR ps) ⟨s,zT ps.length⟩ i) (by omega)])
      (try rw [List.take_of_length_le (l:=prG a (rcR ps) (prR ps) ⟨s,zT ps.length⟩ i) (by omega)])
      rw [hst,zDt,zG2,zG9,show plQ (usA a) (rcR ps) ⟨s,zT ps.length⟩ i=(gq (stQ (usA a) (rcR ps) ⟨s,zT ps.length⟩ i) i)from rfl,show nxQ (usA a) (rcR ps) ⟨s,zT ps.length⟩ i=zz (zn (nxL ps (gq (stQ (usA a) (rcR ps) ⟨s,zT ps.length⟩ i) i).record (gq (stQ (usA a) (rcR ps) ⟨s,zT ps.length⟩ i) i).at_) (gl a.next (gq (stQ (usA a) (rcR ps) ⟨s,zT ps.length⟩ i) i).at_.toNat) (stQ (usA a) (rcR ps) ⟨s,zT ps.length⟩ i) (gl a.next (gq (stQ (usA a) (rcR ps) ⟨s,zT ps.length⟩ i) i).at_.toNat).length).2 from rfl,show(prR ps) (gq (stQ (usA a) (rcR ps) ⟨s,zT ps.length⟩ i) i)=(qD ps (gq (stQ (usA a) (rcR ps) ⟨s,zT ps.length⟩ i) i).record (gq (stQ (usA a) (rcR ps) ⟨s,zT ps.length⟩ i) i).at_)from rfl]
      refine zX rfl ?_ ?_ ?_<;>push_cast [zf,ze,↓zK,↓zJ]
      all_goals first|rfl|exact⟨rfl,rfl,rfl,rfl⟩|(rw [List.length_append,List.length_append,List.length_append,ho1,ho2,ho3];rfl)|skip
  ·
   refine zi (hK1 _ ?_)
   refine θA ?_
   refine zY ⟨Or.inl rfl,?_⟩
   push_cast [zt,yH,↓zK,↓zJ]
   refine⟨_,?_,hKB i hi (by omega) hil⟩
   push_cast [↓zK,↓zJ]
   all_goals first|exact⟨trivial,trivial⟩|skip
attribute [local irreducible] okQ stQ gmR plR Qb
set_option maxRecDepth 20000 in
set_option maxHeartbeats 8000000 in
theorem zFB (a:Ar)(ha:a.Ln 1048576)(ps:List Pr)(hp:PLn 1048576 ps)(s:Int)(hC:rgC a ps s=true):Fn Tryz.prog tyT 69 [.agg (dAr a), .c (.lst 93 (dII (ilv ps))), .c (.int .i64 s)] [.agg (dPa (rgG a ps s)), .c (.lst 112 (yy (rgP a ps s))), .c (.bool (rgB a ps s))]:=by
 have hno:=ha.owner
 have hnn:=ha.next.1
 unfold LnI at hno
 have hli:=xV ps
 have hpl0:=hp.1
 obtain⟨h1,h2,h3⟩:=vN hC
 have hln:=yO h1
 unfold dAr dPa
 refine XQ (fn:=Tryz.f69) (rs:= [.cell 6 80, .tmp 7, .tmp 8]) zQ zN Tryz.func69 (by kernel_rfl) rfl rfl (by rw [Tryz.ntmps69];exact Nat.le_of_ble_eq_true rfl) rfl (by simp only [szA,List.mem_cons,List.not_mem_nil,or_false,forall_eq_or_imp,forall_eq,VT.cells,szL];try decide) ?_
 rw [Tryz.ntmps69]
 push_cast [↓zK,↓zJ]
 refine θA ?_
 refine θA ?_
 refine zL fun K1 hK1=> ?_
 refine θA ?_
 refine zV ?_
 refine zh [9,10,15,16,17,18,19,20,21,22,23,24] [144,145] (fun(k:Nat)=> [(15, .int .i64 k),(9, .bp 9 0)]) (fun k=> [(9,[.int .i64 s, .sl 145 [] 0 k 2])]) (fun k=> [(145,⟨.ex,2,dI (zT k),none⟩)]) (fun k=>k≤ps.length) (fun k=>ps.length - k) 0 ?_ (by omega) ?_
 ·
  rw [show zT 0= []from rfl,show dI ([]:List Int)= []from rfl]
  exact θX
 ·rintro k hk KL0 hL0
  have hio:=Ww k
  push_cast [↓zK,↓zJ]
  refine θA ?_
  refine zL fun K2 hK2=> ?_
  refine θU (fun hc=> ?_) fun hc=> ?_
  ·
   refine zW (hK2 _ ?_)
   refine zL fun K3 hK3=> ?_
   refine zV ?_
   refine θA ?_
   refine θB ?_
   refine hK3 _ ?_
   refine yx [.int .i64, .sl 2] 9 ?_
   push_cast [↓zK,↓zJ]
   refine θB ?_
   refine hL0 _ ⟨k+1,by omega,by omega,?_⟩
   (try rw [List.take_of_length_le (l:=zT k) (by omega)])
   rw [zIM]
   exact θX
   all_goals first|rfl|skip
  ·
   refine zi ?_
   have hkk:k=ps.length:=by omega
   subst hkk
   refine hK1 _ ?_
   refine zL fun K hK=> ?_
   refine zEj 29 6 zQ zN [] rfl ?_
   all_goals push_cast [↓zK,↓zJ]
   all_goals repeat'(first|(apply zO<;>(intro hg;(try push_cast at hg)))|apply And.intro|(intro hg;(try push_cast at hg)))
   all_goals try exact gA
   refine zA2 (fn:=Tryz.f110) (rs:= [.cell 8 80, .tmp 9, .tmp 10]) rfl rfl (by decide) rfl Tryz.func110 (by kernel_rfl) rfl rfl (by rw [Tryz.ntmps110];exact Nat.le_of_ble_eq_true rfl) ?_
   rw [Tryz.ntmps110]
   push_cast [↓zK,↓zJ]
   refine Ux ?_ (zAe a ha ps hp h2 s ⟨h1,h3⟩ _ (fun hok9=> ?_) (fun i hi9 hn9 hil9=> ?_))
   ·refine zX rfl ?_ ?_ ?_<;>push_cast [zf,ze,↓zK,↓zJ]
    all_goals first|rfl|(rw [Ww];done)|skip
   all_goals push_cast [↓zK,↓zJ]
   all_goals repeat'(first|(apply zO<;>(intro hg;(try push_cast at hg)))|apply And.intro|(intro hg;(try push_cast at hg)))
   all_goals try exact gA
   all_goals(refine hK _ ?_;clear hK K)
   all_goals(
     refine zY ⟨Or.inl rfl,?_⟩
     push_cast [zd,zt,yH,↓zK,↓zJ]
     first
      |(
       obtain⟨e1,e2,e3⟩:=zIm (a:=a) (ps:=ps) (s:=s) hok9
       rw [e1,e2,e3]
       all_goals first|rfl|exact⟨rfl,rfl⟩|(simp [dI,dII,yy];done))
      |(
       obtain⟨e1,e2,e3⟩:=zAL (a:=a) (rc:=rcR ps) (pr:=prR ps) (p0:=⟨s,zT ps.length⟩) (i:=i) hC hi9 hn9 hil9
       unfold rgG rgP rgB
       rw [e1,e2,e3]
       simp only [gmA,qO,Yy,YF]
       all_goals first|rfl|exact⟨⟨⟨rfl,rfl⟩,⟨rfl,rfl⟩,⟨rfl,rfl⟩⟩,rfl,rfl⟩|exact⟨rfl,rfl⟩|(simp;done)))
noncomputable def pwR (a:Ar)(ps:List Pr)(s:Int):Int:=if rgB a ps s then gi (wB (rgG a ps s)) 0 else -1
theorem zD3 {a:Ar}{ps:List Pr}{s:Int}(h:rgB a ps s=false):pwR a ps s= -1:=by unfold pwR;rw [h];rfl
theorem je {a:Ar}{ps:List Pr}{s:Int}(h:rgB a ps s=true):pwR a ps s=gi (wB (rgG a ps s)) 0:=by unfold pwR;rw [h];rfl
theorem zN1 {a:Ar}{ps:List Pr}{s:Int}(h:rgC a ps s=false):rgB a ps s=false:=by unfold rgB;rw [h];rfl
set_option maxRecDepth 20000 in
set_option maxHeartbeats 8000000 in
theorem ua (a:Ar)(ha:a.Ln 1048576)(ps:List Pr)(hp:PLn 1048576 ps)(s:Int):Fn Tryz.prog tyT 22 [.agg (dAr a), .c (.lst 93 (dII (ilv ps))), .c (.int .i64 s)] [.c (.int .i64 (pwR a ps s))]:=by
 have hno:=ha.owner
 have hnn:=ha.next.1
 unfold LnI at hno
 have hA:=jn a ha
 have hF:=Vf ps hp (a.owner.length:Int)
 have hSz:=jh a
 have hV:=KQ a s
 unfold dAr at hA hSz hV
 have hpl0:=hp.1
 have hli:=xV ps
 have hRec:=fun h=>zFB a ha ps hp s h
 have hWn:=fun h:rgB a ps s=true=>Ul (rgG a ps s) zAg (Xe h)
 have hWl:=XF (rgG a ps s)
 have hpos:=fun h:rgB a ps s=true=>(yO (xj (Xe h)).1).1
 obtain⟨G,hGd⟩: ∃G,rgG a ps s=G:=⟨_,rfl⟩
 obtain⟨Q,hQd⟩: ∃Q,rgP a ps s=Q:=⟨_,rfl⟩
 obtain⟨b9,hBd⟩: ∃b,rgB a ps s=b:=⟨_,rfl⟩
 rw [hGd,hQd,hBd]at hRec
 rw [hGd,hBd]at hWn hpos
 rw [hGd]at hWl
 have hGl:G.a.owner.length≤1048576∧G.a.next.length≤1048576∧G.prio.length≤1048576:=by have h9:=zAg (a:=a) (ps:=ps) (s:=s);rw [hGd]at h9;have h1:=h9.a.owner;have h2:=h9.a.next.1;have h3:=h9.prio;unfold LnI at h1 h3;exact⟨h1,h2,h3⟩
 have hQl:Q.length≤1048576:=by have h9:=zF0 (a:=a) (ps:=ps) (s:=s);rw [hQd]at h9;exact h9.1
 unfold dPa at hRec hWn
 unfold dAr at hRec
 unfold dAr
 refine θH (ts:= [6]) Tryz.func22 Tryz.ntmps22 ?_
 push_cast [↓zK,↓zJ]
 refine θA ?_
 refine zL fun K1 hK1=> ?_
 refine zL fun K hK=> ?_
 refine zc false zQ zN ?_ rfl ?_
 ·kernel_rfl
 all_goals refine zm 2 fun K9 hK9=> ?_
 all_goals push_cast [↓zK,↓zJ]
 all_goals repeat'(first|(apply zO<;>(intro hg;(try push_cast at hg)))|(refine⟨_,hA,?_⟩;push_cast [↓zK,↓zJ])|apply And.intro|(intro hg;(try push_cast at hg)))
 all_goals try exact gA
 all_goals(refine hK9 _ ?_;clear hK9 K9)
 all_goals refine zm 5 fun K9 hK9=> ?_
 all_goals push_cast [↓zK,↓zJ]
 all_goals repeat'(first|(apply zO<;>(intro hg;(try push_cast at hg)))|(refine⟨_,hSz,?_⟩;push_cast [↓zK,↓zJ])|apply And.intro|(intro hg;(try push_cast at hg)))
 all_goals try exact gA
 all_goals(refine hK9 _ ?_;clear hK9 K9)
 all_goals refine zm 1 fun K9 hK9=> ?_
 all_goals push_cast [↓zK,↓zJ]
 all_goals repeat'(first|(apply zO<;>(intro hg;(try push_cast at hg)))|(refine⟨_,hF,?_⟩;push_cast [↓zK,↓zJ])|apply And.intro|(intro hg;(try push_cast at hg)))
 all_goals try exact gA
 all_goals(refine hK9 _ ?_;clear hK9 K9)
 all_goals refine zm 6 fun K9 hK9=> ?_
 all_goals push_cast [↓zK,↓zJ]
 all_goals repeat'(first|(apply zO<;>(intro hg;(try push_cast at hg)))|(refine⟨_,hV,?_⟩;push_cast [↓zK,↓zJ])|apply And.intro|(intro hg;(try push_cast at hg)))
 all_goals try exact gA
 all_goals(refine hK9 _ ?_;clear hK9 K9)
 all_goals push_cast [↓zK,↓zJ]
 all_goals repeat'(first|(apply zO<;>(intro hg;(try push_cast at hg)))|(refine⟨_,hA,?_⟩;push_cast [↓zK,↓zJ])|(refine⟨_,hSz,?_⟩;push_cast [↓zK,↓zJ])|(refine⟨_,hF,?_⟩;push_cast [↓zK,↓zJ])|(refine⟨_,hV,?_⟩;push_cast [↓zK,↓zJ])|apply And.intro|(intro hg;(try push_cast at hg)))
 all_goals try exact gA
 all_goals(refine hK _ ?_;clear hK K)
 all_goals refine zU rfl (fun hc=> ?_) (fun hc=> ?_)
 all_goals(first|(cases hc;done)|skip)
 all_goals(try simp only [push_cast]at hc)
 all_goals try(
   refine θA ?_
   refine zY ⟨Or.inl rfl,?_⟩
   push_cast [zd,↓zK,↓zJ]
   rw [zD3 (zN1 (by first|exact zFx (by with_reducible assumption)|exact zFy (by with_reducible assumption)|exact zFz (by omega)))]
   done)
 refine zW (hK1 _ ?_)
 have hC:rgC a ps s=true:=zAf (by with_reducible assumption) (by with_reducible assumption) (by omega)
 have hRc:=hRec hC
 refine θL fun K hK=> ?_
 refine θD 4 ?_
 refine θE hK ?_
 refine zL fun K2 hK2=> ?_
 refine θA ?_
 refine θU (fun hc=> ?_) fun hc=> ?_
 ·
  refine θA ?_
  refine zY ⟨Or.inl rfl,?_⟩
  push_cast [zd,↓zK,↓zJ]
  rw [zD3 (by rw [hBd];first|assumption|(simpa using hc))]
 ·
  refine zW (hK2 _ ?_)
  have hb1:b9=true:=by first|assumption|(simpa using hc)
  have hWy:=hWn hb1
  have hp9:=hpos hb1
  refine θL fun K hK=> ?_
  refine θD 2 ?_
  refine θE hK ?_
  refine zY ⟨Or.inl rfl,?_⟩
  push_cast [zd,↓zK,↓zJ]
  rw [je (hBd.trans hb1),hGd]
  all_goals first|rfl|(simp;done)|skip
set_option maxRecDepth 20000 in
set_option maxHeartbeats 8000000 in
theorem ub (a:Ar)(ha:a.Ln 1048576)(ps:List Pr)(hp:PLn 1048576 ps)(s:Int):Fn Tryz.prog tyT 27 [.agg (dAr a), .c (.lst 93 (dII (ilv ps))), .c (.int .i64 s)] [.c (.int .i64 (pwR a ps s))]:=by
 have hno:=ha.owner
 have hnn:=ha.next.1
 unfold LnI at hno
 have hpl0:=hp.1
 have hli:=xV ps
 have hRc:=zCV a ha ps hp s
 have hWn:=fun h:rgB a ps s=true=>zJn (rgG a ps s) (Xe h)
 have hWl:=XF (rgG a ps s)
 have hpos:=fun h:rgB a ps s=true=>(yO (xj (Xe h)).1).1
 obtain⟨G,hGd⟩: ∃G,rgG a ps s=G:=⟨_,rfl⟩
 obtain⟨Q,hQd⟩: ∃Q,rgP a ps s=Q:=⟨_,rfl⟩
 obtain⟨b9,hBd⟩: ∃b,rgB a ps s=b:=⟨_,rfl⟩
 rw [hGd,hQd,hBd]at hRc
 rw [hGd,hBd]at hWn hpos
 rw [hGd]at hWl
 have hGl:G.a.owner.length≤1048576∧G.a.next.length≤1048576∧G.prio.length≤1048576:=by have h9:=zAg (a:=a) (ps:=ps) (s:=s);rw [hGd]at h9;have h1:=h9.a.owner;have h2:=h9.a.next.1;have h3:=h9.prio;unfold LnI at h1 h3;exact⟨h1,h2,h3⟩
 have hQl:Q.length≤1048576:=by have h9:=zF0 (a:=a) (ps:=ps) (s:=s);rw [hQd]at h9;exact h9.1
 unfold dPa at hRc hWn
 unfold dAr at hRc
 unfold dAr
 refine θH (ts:= [6]) Tryz.func27 Tryz.ntmps27 ?_
 push_cast
 refine θA ?_
 refine θL fun K hK=> ?_
 refine θD 4 ?_
 refine θE hK ?_
 refine zL fun K1 hK1=> ?_
 refine θA ?_
 refine θU (fun hc=> ?_) fun hc=> ?_
 ·
  refine θA ?_
  refine zY ⟨Or.inl rfl,?_⟩
  push_cast [zd]
  rw [zD3 (by rw [hBd];first|assumption|(simpa using hc))]
 ·
  refine zW (hK1 _ ?_)
  have hb1:b9=true:=by first|assumption|(simpa using hc)
  have hWy:=hWn hb1
  have hp9:=hpos hb1
  refine θL fun K hK=> ?_
  refine θD 2 ?_
  refine θE hK ?_
  refine zY ⟨Or.inl rfl,?_⟩
  push_cast [zd]
  rw [je (hBd.trans hb1),hGd]
  all_goals first|rfl|(simp;done)|skip
set_option maxRecDepth 20000 in
set_option maxHeartbeats 8000000 in
theorem Uq (a:Ar)(ha:a.Ln 1048576)(f:Fm)(hf:f.Ln 1048576)(s:Int):Fn Tryz.prog tyT 53 [.agg (dAr a), .agg (dFm f), .c (.int .i64 s)] [.agg (dPa (fgG a f s)), .c (.lst 112 (yy (fgP a f s))), .c (.bool (fgB a f s))]:=by
 have hno:=ha.owner
 have hnn:=ha.next.1
 unfold LnI at hno
 have hA:=jn a ha
 have hF:=Vr f hf (a.owner.length:Int)
 have hSz:=jh a
 have hV:=KQ a s
 have hfn:=hf.names
 unfold LnI at hfn
 unfold dAr at hA hSz hV
 unfold dFm at hF
 unfold dAr dFm dPa
 refine XQ (fn:=Tryz.f53) (rs:= [.cell 6 80, .tmp 7, .tmp 8]) zQ zN Tryz.func53 (by kernel_rfl) rfl rfl (by rw [Tryz.ntmps53];exact Nat.le_of_ble_eq_true rfl) rfl (by simp only [szA,List.mem_cons,List.not_mem_nil,or_false,forall_eq_or_imp,forall_eq,VT.cells,szL];try decide) ?_
 rw [Tryz.ntmps53]
 push_cast [↓zK,↓zJ]
 refine θA ?_
 refine zL fun K1 hK1=> ?_
 refine zL fun K hK=> ?_
 refine yN false zQ zN xR ?_ rfl ?_
 ·kernel_rfl
 intro E hE
 all_goals refine yb 2 (by decide) fun K9 hK9=> ?_
 all_goals push_cast [↓zK,↓zJ]
 all_goals repeat'(first|(apply zO<;>(intro hg;(try push_cast at hg)))|(refine⟨_,hA,?_⟩;push_cast [↓zK,↓zJ])|apply And.intro|(intro hg;(try push_cast at hg)))
 all_goals try exact gA
 all_goals(refine hK9 _ _ ?_;clear hK9 K9)
 all_goals refine yb 5 (by decide) fun K9 hK9=> ?_
 all_goals push_cast [↓zK,↓zJ]
 all_goals repeat'(first|(apply zO<;>(intro hg;(try push_cast at hg)))|(refine⟨_,hSz,?_⟩;push_cast [↓zK,↓zJ])|apply And.intro|(intro hg;(try push_cast at hg)))
 all_goals try exact gA
 all_goals(refine hK9 _ _ ?_;clear hK9 K9)
 all_goals refine yb 1 (by decide) fun K9 hK9=> ?_
 all_goals push_cast [↓zK,↓zJ]
 all_goals repeat'(first|(apply zO<;>(intro hg;(try push_cast at hg)))|(refine⟨_,hF,?_⟩;push_cast [↓zK,↓zJ])|apply And.intro|(intro hg;(try push_cast at hg)))
 all_goals try exact gA
 all_goals(refine hK9 _ _ ?_;clear hK9 K9)
 all_goals refine yb 6 (by decide) fun K9 hK9=> ?_
 all_goals push_cast [↓zK,↓zJ]
 all_goals repeat'(first|(apply zO<;>(intro hg;(try push_cast at hg)))|(refine⟨_,hV,?_⟩;push_cast [↓zK,↓zJ])|apply And.intro|(intro hg;(try push_cast at hg)))
 all_goals try exact gA
 all_goals(refine hK9 _ _ ?_;clear hK9 K9)
 all_goals push_cast [↓zK,↓zJ]
 all_goals repeat'(first|(apply zO<;>(intro hg;(try push_cast at hg)))|(refine⟨_,hA,?_⟩;push_cast [↓zK,↓zJ])|(refine⟨_,hSz,?_⟩;push_cast [↓zK,↓zJ])|(refine⟨_,hF,?_⟩;push_cast [↓zK,↓zJ])|(refine⟨_,hV,?_⟩;push_cast [↓zK,↓zJ])|apply And.intro|(intro hg;(try push_cast at hg)))
 all_goals first|exact gA|(refine hE _ _ ?_ ?_;kernel_rfl)|skip
 all_goals clear hE E
 all_goals(refine hK _ ?_;clear hK K)
 all_goals refine zU rfl (fun hc=> ?_) (fun hc=> ?_)
 all_goals(first|(cases hc;done)|skip)
 all_goals(try simp only [push_cast]at hc)
 all_goals try(
   refine θA ?_
   refine zY ⟨Or.inl rfl,?_⟩
   push_cast [zd,zt,yH,↓zK,↓zJ]
   obtain⟨e1,e2,e3⟩:=zNT (a:=a) (f:=f) (s:=s) (by first|exact zLa (by with_reducible assumption)|exact zLb (by have hln9:=yO (a:=a) (by with_reducible assumption);rw [ZK (by omega)];with_reducible assumption)|exact zLc (by omega))
   rw [e1,e2,e3]
   all_goals first|rfl|exact⟨rfl,rfl⟩|(simp [dI,dII,yy];done)
   done)
 refine zW (hK1 _ ?_)
 have hC:fgC a f s=true:=zAE (by with_reducible assumption) (by have hln9:=yO (a:=a) (by with_reducible assumption);rw [ZK (by omega)];with_reducible assumption) (by omega)
 obtain⟨h1,h2,h3⟩:=vK hC
 have hln:=yO h1
 refine zL fun K hK=> ?_
 refine Vh false false 9 (jB Tryz.prog tyT 2) [33,34] (fun _ _ _ h=>Ju rfl h) (Qb Tryz.prog tyT 6) (fun _ _ _ _ _ _ _ _ _ h1 h2 h3 h4=>Js zQ zN h1 h2 h3 h4) zQ zN xR ?_ rfl rfl ?_
 ·kernel_rfl
 intro E hE
 all_goals push_cast [↓zK,↓zJ]
 all_goals repeat'(first|(apply zO<;>(intro hg;(try push_cast at hg)))|apply And.intro|(intro hg;(try push_cast at hg)))
 all_goals first|exact gA|(refine hE _ _ ?_ rfl ?_;kernel_rfl)|skip
 all_goals clear hE E
 refine zA2 (fn:=Tryz.f110) (rs:= [.cell 8 80, .tmp 9, .tmp 10]) rfl rfl (by decide) rfl Tryz.func110 (by kernel_rfl) rfl rfl (by rw [Tryz.ntmps110];exact Nat.le_of_ble_eq_true rfl) ?_
 rw [Tryz.ntmps110]
 push_cast [↓zK,↓zJ]
 refine Ux ?_ (zAd a ha f hf s ⟨h1,h3⟩ _ (fun hok9=> ?_) (fun i hi9 hn9 hil9=> ?_))
 ·exact θX
 all_goals intro E hg
 all_goals(try push_cast [↓zK,↓zJ])
 all_goals repeat'(first|(apply zO<;>(intro hg;(try push_cast at hg)))|apply And.intro|(intro hg;(try push_cast at hg)))
 all_goals try exact gA
 all_goals first|(refine hg _ _ ?_ ?_;kernel_rfl)|skip
 all_goals first|(refine hK _ ?_;clear hg E hK K)|(refine hK _ ?_)|(simp only [push_cast];done)
 all_goals(
   refine zY ⟨Or.inl rfl,?_⟩
   push_cast [zd,zt,yH,↓zK,↓zJ]
   first
    |(
     obtain⟨e1,e2,e3⟩:=zNU (a:=a) (f:=f) (s:=s) hok9
     rw [e1,e2,e3]
     all_goals first|rfl|exact⟨rfl,rfl⟩|(simp [dI,dII,yy];done))
    |(
     obtain⟨e1,e2,e3⟩:=zAL (a:=a) (rc:=rcF) (pr:=prF f) (p0:=⟨s,f.names⟩) (i:=i) hC hi9 hn9 hil9
     unfold fgG fgP fgB
     rw [e1,e2,e3]
     simp only [gmA,qO,Yy,YF]
     all_goals first|rfl|exact⟨⟨⟨rfl,rfl⟩,⟨rfl,rfl⟩,⟨rfl,rfl⟩⟩,rfl,rfl⟩|exact⟨rfl,rfl⟩|(simp;done)))
noncomputable def fwR (a:Ar)(f:Fm)(s:Int):Int:=if fgB a f s then gi (wB (fgG a f s)) 0 else -1
theorem zNV {a:Ar}{f:Fm}{s:Int}(h:fgB a f s=false):fwR a f s= -1:=by unfold fwR;rw [h];rfl
theorem jN {a:Ar}{f:Fm}{s:Int}(h:fgB a f s=true):fwR a f s=gi (wB (fgG a f s)) 0:=by unfold fwR;rw [h];rfl
set_option maxRecDepth 20000 in
set_option maxHeartbeats 8000000 in
theorem QZ (a:Ar)(ha:a.Ln 1048576)(f:Fm)(hf:f.Ln 1048576)(s:Int):Fn Tryz.prog tyT 12 [.agg (dAr a), .agg (dFm f), .c (.int .i64 s)] [.c (.int .i64 (fwR a f s))]:=by
 have hno:=ha.owner
 have hnn:=ha.next.1
 unfold LnI at hno
 have hRc:=Uq a ha f hf s
 have hWn:=fun h:fgB a f s=true=>Ul (fgG a f s) zFd (VH h)
 have hWl:=XF (fgG a f s)
 have hpos:=fun h:fgB a f s=true=>(yO (xj (VH h)).1).1
 obtain⟨G,hGd⟩: ∃G,fgG a f s=G:=⟨_,rfl⟩
 obtain⟨Q,hQd⟩: ∃Q,fgP a f s=Q:=⟨_,rfl⟩
 obtain⟨b9,hBd⟩: ∃b,fgB a f s=b:=⟨_,rfl⟩
 rw [hGd,hQd,hBd]at hRc
 rw [hGd,hBd]at hWn hpos
 rw [hGd]at hWl
 have hGl:G.a.owner.length≤1048576∧G.a.next.length≤1048576∧G.prio.length≤1048576:=by have h9:=zFd (a:=a) (f:=f) (s:=s);rw [hGd]at h9;have h1:=h9.a.owner;have h2:=h9.a.next.1;have h3:=h9.prio;unfold LnI at h1 h3;exact⟨h1,h2,h3⟩
 have hQl:Q.length≤1048576:=by have h9:=zLd (a:=a) (f:=f) (s:=s);rw [hQd]at h9;exact h9.1
 unfold dPa at hRc hWn
 unfold dAr dFm at hRc
 unfold dAr dFm
 refine θH (ts:= [6]) Tryz.func12 Tryz.ntmps12 ?_
 push_cast
 refine θA ?_
 refine θL fun K hK=> ?_
 refine θD 4 ?_
 refine θE hK ?_
 refine zL fun K1 hK1=> ?_
 refine θA ?_
 refine θU (fun hc=> ?_) fun hc=> ?_
 ·
  refine θA ?_
  refine zY ⟨Or.inl rfl,?_⟩
  push_cast [zd]
  rw [zNV (by rw [hBd];first|assumption|(simpa using hc))]
 ·
  refine zW (hK1 _ ?_)
  have hb1:b9=true:=by first|assumption|(simpa using hc)
  have hWy:=hWn hb1
  have hp9:=hpos hb1
  refine θL fun K hK=> ?_
  refine θD 2 ?_
  refine θE hK ?_
  refine zY ⟨Or.inl rfl,?_⟩
  push_cast [zd]
  rw [jN (hBd.trans hb1),hGd]
  all_goals first|rfl|(simp;done)|skip
theorem uR (a:Ar):(vq a).owner.length=a.owner.length:=by show(a.owner.map _).length=_;rw [List.length_map]
theorem zGA {a:Ar}{v:Nat}(hv:v<a.owner.length):gi (vq a).owner v=1 - gi a.owner v:=by
 show gi (a.owner.map fun x=>1 - x) v=_
 unfold gi
 rw [List.getD_eq_getElem?_getD,List.getElem?_map,List.getD_eq_getElem?_getD,List.getElem?_eq_getElem hv]
 rfl
theorem zMU {a:Ar}(h:yK a=true):yK (vq a)=true:=by
 have h1:=yO h
 have hl:=uR a
 refine Zd ⟨by omega,by omega,by rw [hl];exact h1.2.2⟩ fun v hv=> ?_
 rw [hl]at hv
 have h2:=xD h hv
 have h3:=zGA hv
 unfold vO QC
 rw [Bool.and_eq_true,decide_eq_true_eq,hl]
 exact⟨⟨by omega,by omega,h2.2.2.1,h2.2.2.2.1⟩,h2.2.2.2.2⟩
theorem zAl {a:Ar}{B:Nat}(h:a.Ln B):(vq a).Ln B:=⟨by have :=h.owner;unfold LnI at this⊢;rw [uR];exact this,h.next⟩
end Go.Proofs.YthepmdkpbjfdcaaGreat
