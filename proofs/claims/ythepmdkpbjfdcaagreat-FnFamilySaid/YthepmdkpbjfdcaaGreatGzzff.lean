/- FamilyGame: the program's side, the game of places -/
import Derived.Test.YthepmdkpbjfdcaaGreatB11zff
import Derived.Test.YthepmdkpbjfdcaaGreatB15zff
import Derived.Test.YthepmdkpbjfdcaaGreatB16zff
namespace Go.Proofs.YthepmdkpbjfdcaaGreat
open Nat renaming reduceMod → zA, reduceMul → zB, reduceDiv → zC, reduceAdd → zD, reduceSub → zE, reduceEqDiff → zF, reduceBEq → zG, reduceLT → zH, reduceLeDiff → zI
open Go.RowKit
set_option linter.unusedVariables false
set_option linter.unusedSimpArgs false
theorem zEK {us rc:Plc→List Int}{p0:Plc}{n:Nat}(h:n≤(stQ us rc p0 n).length): ∀j,j<n→j<(stQ us rc p0 j).length:=fun j hj=>by
 rcases Nat.lt_or_ge j (stQ us rc p0 j).length with h1|h1
 ·exact h1
 ·have :=Jc (us:=us) (rc:=rc) (p0:=p0) (i:=j) (by omega) (j:=n) (by omega)
  rw [this]at h
  omega
theorem zFq {a:Ar}{rc:Plc→List Int}{p0:Plc}{V:List Int→Prop}{B:Nat}(ha:yK a=true)(h:Qa a rc p0 V B){n:Nat}(hall: ∀j,j<n→j<(stQ (usA a) rc p0 j).length): ∀r∈nxG a rc p0 n,r.length≤16:=fun r hr=>by
 unfold nxG at hr
 obtain⟨j,hj,rfl⟩:=List.mem_map.1 hr
 have hj:=hall j (List.mem_range.1 hj)
 have hp:=vD ha h j _ (vC hj)
 have h2:=(Je ha ⟨hp.1,hp.2.1⟩).2.1
 unfold nxQ
 rw [xJ]
 have h3:=(xw (r:=rc (gq (stQ (usA a) rc p0 j) j)) (us:=usA a (gq (stQ (usA a) rc p0 j) j)) (ps:=stQ (usA a) rc p0 j) (Nat.le_refl _)).1
 show(zn _ _ _ _).2.length≤_
 rw [h3]
 omega
set_option maxRecDepth 20000 in
set_option maxHeartbeats 16000000 in
theorem zAd (a:Ar)(ha:a.Ln 1048576)(f:Fm)(hf:f.Ln 1048576)(s:Int)(hPre:yK a=true∧Qa a rcF ⟨s,f.names⟩ (fun r=>wW f r=true) 4)(K0:AV→List AV→List (Nat×zq)→Prop)(hKA:okQ (usA a) rcF ⟨s,f.names⟩=false→K0 (.tup [.agg [.sl 128 [] 0 0 2, .sl 129 [] 0 0 22, .sl 130 [] 0 0 2], .sl 144 [] 0 0 112, .bool false]) [.sl 96 [] 0 0 2, .sl 97 [] 0 0 22, .sl 98 [] 0 0 2] [(128,⟨.ex,2,[],none⟩),(129,⟨.ex,22,[],none⟩),(130,⟨.ex,2,[],none⟩),(144,⟨.ex,112,[],none⟩)])(hKB: ∀i,i≤256→¬i<(stQ (usA a) rcF ⟨s,f.names⟩ i).length→i≤(stQ (usA a) rcF ⟨s,f.names⟩ i).length→K0 (.tup [.agg [.sl 128 [] 0 i 2, .sl 129 [] 0 i 22, .sl 130 [] 0 i 2], .sl 144 [] 0 (stQ (usA a) rcF ⟨s,f.names⟩ i).length 112, .bool true]) [.sl 96 [] 0 0 2, .sl 97 [] 0 0 22, .sl 98 [] 0 0 2] [(128,⟨.ex,2,dI (xT a rcF ⟨s,f.names⟩ i),none⟩),(129,⟨.ex,22,dII (nxG a rcF ⟨s,f.names⟩ i),none⟩),(130,⟨.ex,2,dI (prG a rcF (prF f) ⟨s,f.names⟩ i),none⟩),(144,⟨.ex,112,yy (stQ (usA a) rcF ⟨s,f.names⟩ i),none⟩)]):awp Tryz.prog tyT (Tryz.f110.body.getD .skip) (RetI tyT [.cell 8 80, .tmp 9, .tmp 10] K0) ⟨89,[(0, .agg [.sl 0 [] 0 a.owner.length 2, .sl 1 [] 0 a.next.length 22]),(1, .agg [.int .i64 s, .sl 496 [] 0 f.names.length 2]),(2, .fn 111 [.bp 4 0]),(3, .fn 113 [.bp 4 0])],[(1000000,[.sl 96 [] 0 0 2, .sl 97 [] 0 0 22, .sl 98 [] 0 0 2]),(4,[.sl 16 [] 0 f.names.length 2, .sl 17 [] 0 f.sets.length 22])],[(0,⟨.sh,2,dI a.owner,none⟩),(1,⟨.sh,22,dII a.next,none⟩),(16,⟨.sh,2,dI f.names,none⟩),(17,⟨.sh,22,dII f.sets,none⟩),(496,⟨.ex,2,dI f.names,none⟩)]⟩:=by
 have hno:=ha.owner
 have hnn:=ha.next.1
 have hrr: ∀v,(gl a.next v).length≤1048576:=fun v=>ZP ha.next v
 unfold LnI at hno
 have h1:=hPre.1
 have h3:=hPre.2
 have hln:=yO h1
 refine zCu 4 2000 rfl rfl ?_
 push_cast [↓zK,↓zJ]
 refine zIL rfl ?_
 (try push_cast [↓zK,↓zJ])
 refine θA ?_
 refine θN ?_
 refine θA ?_
 refine zL fun K1 hK1=> ?_
 refine xm 112 11 (Nat.le_of_ble_eq_true rfl) ?_
 push_cast [↓zK,↓zJ]
 refine θA ?_
 refine zV ?_
 refine zh [9,10,11,12,13,14,15,16,18,19,23,24,25,26,27,28,29,30,31,32,33,34,35,36,37,38,39,40,41,42,43,44,45,46,47,48,49,50,51,52,53,54,55,56,57,58,59,60,61,62,63,64,65,66,67,68,69,70,71,72,73,74,75,76,77,78,79,80,81,82,83,84,85,86] [] (fun(i:Nat)=> [(13, .int .i64 i),(11, .sl 176 [] 0 (stQ (usA a) rcF ⟨s,f.names⟩ i).length 112),(12, .bp 12 0)]) (fun i=> [(12,[.sl 192 [] 0 i 2, .sl 193 [] 0 i 22, .sl 194 [] 0 i 2])]) (fun i=> [(176,⟨.ex,112,yy (stQ (usA a) rcF ⟨s,f.names⟩ i),none⟩),(192,⟨.ex,2,dI (xT a rcF ⟨s,f.names⟩ i),none⟩),(193,⟨.ex,22,dII (nxG a rcF ⟨s,f.names⟩ i),none⟩),(194,⟨.ex,2,dI (prG a rcF (prF f) ⟨s,f.names⟩ i),none⟩)]) (fun i=>i≤256∧i≤(stQ (usA a) rcF ⟨s,f.names⟩ i).length∧(stQ (usA a) rcF ⟨s,f.names⟩ i).length≤256) (fun i=>257 - i) 0 ?_ ⟨by omega,Nat.zero_le _,(by show 1≤256;decide)⟩ ?_
 ·
  rw [show stQ (usA a) rcF ⟨s,f.names⟩ 0= [⟨s,f.names⟩]from rfl,zDs,zG1,zG8]
  refine zX rfl ?_ ?_ ?_<;>push_cast [zf,ze,↓zK,↓zJ]
  all_goals first|rfl|exact⟨rfl,rfl,rfl,rfl⟩|skip
 ·rintro i ⟨hi,hil,hsl⟩ KL0 hL0
  have hall:=vD h1 h3 i
  have hq:QLn 1048576 (stQ (usA a) rcF ⟨s,f.names⟩ i):=⟨by omega,fun p hp=>by have :=h3.small _ (hall p hp).2.2;omega⟩
  have hgl:=fun k=>Wu hq k
  have ho1:=qO (a:=a) (rc:=rcF) (p0:=⟨s,f.names⟩) i
  have ho2:=Yy (a:=a) (rc:=rcF) (p0:=⟨s,f.names⟩) i
  have ho3:=YF (a:=a) (rc:=rcF) (pr:=(prF f)) (p0:=⟨s,f.names⟩) i
  push_cast [↓zK,↓zJ]
  refine zL fun K2 hK2=> ?_
  refine θA ?_
  refine θU (fun hc=> ?_) fun hc=> ?_
  ·
   refine zW (hK2 _ ?_)
   refine zL fun K3 hK3=> ?_
   refine zV ?_
   have hP:=hall _ (vC (k:=i) (by omega))
   have hU:1≤(gl a.next (gq (stQ (usA a) rcF ⟨s,f.names⟩ i) i).at_.toNat).length∧(gl a.next (gq (stQ (usA a) rcF ⟨s,f.names⟩ i) i).at_.toNat).length≤16∧∀u∈(gl a.next (gq (stQ (usA a) rcF ⟨s,f.names⟩ i) i).at_.toNat),0≤u∧u<(a.owner.length:Int):=Je h1 ⟨hP.1,hP.2.1⟩
   have hpl:=h3.small _ hP.2.2
   have hnl:(ye (gq (stQ (usA a) rcF ⟨s,f.names⟩ i) i).record (gq (stQ (usA a) rcF ⟨s,f.names⟩ i) i).at_).length≤4:=h3.small _ (h3.next _ hP.1 hP.2.1 hP.2.2)
   refine θA ?_
   refine zL fun K hK=> ?_
   refine vu 35 2 rfl zQ zN [] rfl ?_
   push_cast [↓zK,↓zJ]
   repeat' apply And.intro
   all_goals(try push_cast [↓zK,↓zJ])
   all_goals repeat'(first|(apply zO<;>(intro hg;(try push_cast at hg)))|(refine⟨_,Uo f hf (gq (stQ (usA a) rcF ⟨s,f.names⟩ i) i) (by omega) hP.2.2,?_⟩;push_cast [↓zK,↓zJ])|apply And.intro|(intro hg;(try push_cast at hg)))
   all_goals first|exact gA|(exact zZ (by omega))|skip
   all_goals(refine hK _ ?_;clear hK K)
   refine θA ?_
   refine zL fun K4 hK4=> ?_
   refine θA ?_
   refine zV ?_
   refine zh [11,14,16,18,19,24,29,31,32,33,34,44,45,46,47,48,49,50,51,52,53,54,55,56,57,58,59,60,61,62,63,64,65,66,67,68] [256,224,225] (fun(k:Nat)=> [(44, .int .i64 k),(11, .sl 176 [] 0 (zn (ye (gq (stQ (usA a) rcF ⟨s,f.names⟩ i) i).record (gq (stQ (usA a) rcF ⟨s,f.names⟩ i) i).at_) (gl a.next (gq (stQ (usA a) rcF ⟨s,f.names⟩ i) i).at_.toNat) (stQ (usA a) rcF ⟨s,f.names⟩ i) k).1.length 112),(16, .sl 256 [] 0 k 2),(14, .bp 14 0)]) (fun k=> [(14,[.int .i64 (gq (stQ (usA a) rcF ⟨s,f.names⟩ i) i).at_, .sl 176 [i*2+1] 0 (gq (stQ (usA a) rcF ⟨s,f.names⟩ i) i).record.length 2])]) (fun k=> [(176,⟨.ex,112,yy (zn (ye (gq (stQ (usA a) rcF ⟨s,f.names⟩ i) i).record (gq (stQ (usA a) rcF ⟨s,f.names⟩ i) i).at_) (gl a.next (gq (stQ (usA a) rcF ⟨s,f.names⟩ i) i).at_.toNat) (stQ (usA a) rcF ⟨s,f.names⟩ i) k).1,none⟩),(256,⟨.ex,2,dI (zn (ye (gq (stQ (usA a) rcF ⟨s,f.names⟩ i) i).record (gq (stQ (usA a) rcF ⟨s,f.names⟩ i) i).at_) (gl a.next (gq (stQ (usA a) rcF ⟨s,f.names⟩ i) i).at_.toNat) (stQ (usA a) rcF ⟨s,f.names⟩ i) k).2,none⟩)]) (fun k=>k≤(gl a.next (gq (stQ (usA a) rcF ⟨s,f.names⟩ i) i).at_.toNat).length) (fun k=>(gl a.next (gq (stQ (usA a) rcF ⟨s,f.names⟩ i) i).at_.toNat).length - k) 0 ?_ (Nat.zero_le _) ?_
   ·
    rw [Ud]
    refine zX rfl ?_ ?_ ?_<;>push_cast [zf,ze,↓zK,↓zJ]
    all_goals first|rfl|skip
   ·rintro k hk KL1 hL1
    have hrl:=xw (r:=(ye (gq (stQ (usA a) rcF ⟨s,f.names⟩ i) i).record (gq (stQ (usA a) rcF ⟨s,f.names⟩ i) i).at_)) (us:=(gl a.next (gq (stQ (usA a) rcF ⟨s,f.names⟩ i) i).at_.toNat)) (ps:=(stQ (usA a) rcF ⟨s,f.names⟩ i)) (k:=k) hk
    have hQr:QLn 1048576 (zn (ye (gq (stQ (usA a) rcF ⟨s,f.names⟩ i) i).record (gq (stQ (usA a) rcF ⟨s,f.names⟩ i) i).at_) (gl a.next (gq (stQ (usA a) rcF ⟨s,f.names⟩ i) i).at_.toNat) (stQ (usA a) rcF ⟨s,f.names⟩ i) k).1:=⟨by omega,fun p hp=>by have :=h3.small _ (zDy h1 h3 (i:=i) (k:=k) (by omega) hk p hp).2.2;omega⟩
    have hx:=zDX (yw (gi (gl a.next (gq (stQ (usA a) rcF ⟨s,f.names⟩ i) i).at_.toNat) k) (ye (gq (stQ (usA a) rcF ⟨s,f.names⟩ i) i).record (gq (stQ (usA a) rcF ⟨s,f.names⟩ i) i).at_)) (zn (ye (gq (stQ (usA a) rcF ⟨s,f.names⟩ i) i).record (gq (stQ (usA a) rcF ⟨s,f.names⟩ i) i).at_) (gl a.next (gq (stQ (usA a) rcF ⟨s,f.names⟩ i) i).at_.toNat) (stQ (usA a) rcF ⟨s,f.names⟩ i) k).1
    push_cast [↓zK,↓zJ]
    refine θA ?_
    refine zL fun K5 hK5=> ?_
    refine θU (fun hc=> ?_) fun hc=> ?_
    ·
     refine zW (hK5 _ ?_)
     refine zL fun K6 hK6=> ?_
     refine zV ?_
     refine θA ?_
     refine θL fun K hK=> ?_
     all_goals refine zj 4 fun K9 hK9=> ?_
     all_goals push_cast [↓zK,↓zJ]
     all_goals repeat'(first|(apply zO<;>(intro hg;(try simp only [push_cast]at hg)))|(refine⟨_,QD (zn (ye (gq (stQ (usA a) rcF ⟨s,f.names⟩ i) i).record (gq (stQ (usA a) rcF ⟨s,f.names⟩ i) i).at_) (gl a.next (gq (stQ (usA a) rcF ⟨s,f.names⟩ i) i).at_.toNat) (stQ (usA a) rcF ⟨s,f.names⟩ i) k).1 hQr (gi (gl a.next (gq (stQ (usA a) rcF ⟨s,f.names⟩ i) i).at_.toNat) k) (ye (gq (stQ (usA a) rcF ⟨s,f.names⟩ i) i).record (gq (stQ (usA a) rcF ⟨s,f.names⟩ i) i).at_) (by omega),?_⟩;push_cast [↓zK,↓zJ])|apply And.intro|(intro hg;(try simp only [push_cast]at hg)))
     all_goals first|exact gA|(exact zZ (by omega))|skip
     all_goals(refine hK9 _ ?_;clear hK9 K9)
     all_goals push_cast [↓zK,↓zJ]
     all_goals repeat'(first|(apply zO<;>(intro hg;(try simp only [push_cast]at hg)))|(refine⟨_,QD (zn (ye (gq (stQ (usA a) rcF ⟨s,f.names⟩ i) i).record (gq (stQ (usA a) rcF ⟨s,f.names⟩ i) i).at_) (gl a.next (gq (stQ (usA a) rcF ⟨s,f.names⟩ i) i).at_.toNat) (stQ (usA a) rcF ⟨s,f.names⟩ i) k).1 hQr (gi (gl a.next (gq (stQ (usA a) rcF ⟨s,f.names⟩ i) i).at_.toNat) k) (ye (gq (stQ (usA a) rcF ⟨s,f.names⟩ i) i).record (gq (stQ (usA a) rcF ⟨s,f.names⟩ i) i).at_) (by omega),?_⟩;push_cast [↓zK,↓zJ])|apply And.intro|(intro hg;(try simp only [push_cast]at hg)))
     all_goals first|exact gA|(exact zZ (by omega))|skip
     all_goals(refine hK _ ?_;clear hK K)
     refine zL fun K7 hK7=> ?_
     refine θA ?_
     refine θU (fun hc=> ?_) fun hc=> ?_
     ·
      refine θA ?_
      refine Vi 7 14 1 1008 176 [176] zQ zN ?_ rfl rfl rfl fun K9 hK9=> ?_
      ·kernel_rfl
      all_goals push_cast [↓zK,↓zJ]
      all_goals repeat'(first|(apply zO<;>(intro hg;(try push_cast at hg)))|apply And.intro|(intro hg;(try push_cast at hg)))
      all_goals first|exact gA|(exact zZ (by omega))|skip
      all_goals(refine hK9 _ ?_;clear hK9 K9)
      all_goals push_cast [↓zK,↓zJ]
      all_goals repeat'(first|(apply zO<;>(intro hg;(try push_cast at hg)))|apply And.intro|(intro hg;(try push_cast at hg)))
      all_goals first|exact gA|(exact zZ (by omega))|skip
      refine hK7 _ ?_
      refine θB ?_
      refine hK6 _ ?_
      refine θB ?_
      refine hL1 _ ⟨k+1,by omega,by omega,?_⟩
      (try rw [List.take_of_length_le (l:=(zn (ye (gq (stQ (usA a) rcF ⟨s,f.names⟩ i) i).record (gq (stQ (usA a) rcF ⟨s,f.names⟩ i) i).at_) (gl a.next (gq (stQ (usA a) rcF ⟨s,f.names⟩ i) i).at_.toNat) (stQ (usA a) rcF ⟨s,f.names⟩ i) k).2) (by omega)])
      rw [va (by omega) (by with_reducible assumption)]
      refine zX rfl ?_ ?_ ?_<;>push_cast [zf,ze,↓zK,↓zJ]
      all_goals first|rfl|(rw [List.length_append];rfl)|exact⟨rfl,rfl⟩|skip
     ·
      refine zW (hK7 _ ?_)
      refine θB ?_
      refine hK6 _ ?_
      refine θB ?_
      refine hL1 _ ⟨k+1,by omega,by omega,?_⟩
      (try rw [List.take_of_length_le (l:=(zn (ye (gq (stQ (usA a) rcF ⟨s,f.names⟩ i) i).record (gq (stQ (usA a) rcF ⟨s,f.names⟩ i) i).at_) (gl a.next (gq (stQ (usA a) rcF ⟨s,f.names⟩ i) i).at_.toNat) (stQ (usA a) rcF ⟨s,f.names⟩ i) k).2) (by omega)])
      rw [wA (by omega) (by with_reducible assumption)]
      exact θX
      all_goals first|rfl|(rw [List.length_append];rfl)|exact⟨rfl,rfl⟩|skip
    ·
     refine zi ?_
     have hkk:k=(gl a.next (gq (stQ (usA a) rcF ⟨s,f.names⟩ i) i).at_.toNat).length:=by omega
     subst hkk
     refine hK4 _ ?_
     refine zL fun K8 hK8=> ?_
     have hgi:gq (zn (ye (gq (stQ (usA a) rcF ⟨s,f.names⟩ i) i).record (gq (stQ (usA a) rcF ⟨s,f.names⟩ i) i).at_) (gl a.next (gq (stQ (usA a) rcF ⟨s,f.names⟩ i) i).at_.toNat) (stQ (usA a) rcF ⟨s,f.names⟩ i) (gl a.next (gq (stQ (usA a) rcF ⟨s,f.names⟩ i) i).at_.toNat).length).1 i=(gq (stQ (usA a) rcF ⟨s,f.names⟩ i) i):=WW (by omega) (Nat.le_refl _)
     have hrl9:=xw (r:=(ye (gq (stQ (usA a) rcF ⟨s,f.names⟩ i) i).record (gq (stQ (usA a) rcF ⟨s,f.names⟩ i) i).at_)) (us:=(gl a.next (gq (stQ (usA a) rcF ⟨s,f.names⟩ i) i).at_.toNat)) (ps:=(stQ (usA a) rcF ⟨s,f.names⟩ i)) (k:=(gl a.next (gq (stQ (usA a) rcF ⟨s,f.names⟩ i) i).at_.toNat).length) (Nat.le_refl _)
     refine θA ?_
     refine θU (fun hc=> ?_) fun hc=> ?_
     ·
      refine θA ?_
      refine zY ⟨Or.inl rfl,?_⟩
      push_cast [zt,yH,↓zK,↓zJ]
      refine⟨_,?_,hKA (zDq hi (by rw [ZV (by omega)];show 256<(zn (ye (gq (stQ (usA a) rcF ⟨s,f.names⟩ i) i).record (gq (stQ (usA a) rcF ⟨s,f.names⟩ i) i).at_) (gl a.next (gq (stQ (usA a) rcF ⟨s,f.names⟩ i) i).at_.toNat) (stQ (usA a) rcF ⟨s,f.names⟩ i) (gl a.next (gq (stQ (usA a) rcF ⟨s,f.names⟩ i) i).at_.toNat).length).1.length;omega))⟩
      push_cast [↓zK,↓zJ]
      all_goals first|exact⟨trivial,trivial⟩|skip
     ·
      refine zW (hK8 _ ?_)
      have hSo:FnG Tryz.prog tyT 118 [.c (DI (List.take (gl a.next (gq (stQ (usA a) rcF ⟨s,f.names⟩ i) i).at_.toNat).length (zn (ye (gq (stQ (usA a) rcF ⟨s,f.names⟩ i) i).record (gq (stQ (usA a) rcF ⟨s,f.names⟩ i) i).at_) (gl a.next (gq (stQ (usA a) rcF ⟨s,f.names⟩ i) i).at_.toNat) (stQ (usA a) rcF ⟨s,f.names⟩ i) (gl a.next (gq (stQ (usA a) rcF ⟨s,f.names⟩ i) i).at_.toNat).length).2))] [0] [(0,2,dI (zz (zn (ye (gq (stQ (usA a) rcF ⟨s,f.names⟩ i) i).record (gq (stQ (usA a) rcF ⟨s,f.names⟩ i) i).at_) (gl a.next (gq (stQ (usA a) rcF ⟨s,f.names⟩ i) i).at_.toNat) (stQ (usA a) rcF ⟨s,f.names⟩ i) (gl a.next (gq (stQ (usA a) rcF ⟨s,f.names⟩ i) i).at_.toNat).length).2))] []:=by rw [List.take_of_length_le (l:=(zn (ye (gq (stQ (usA a) rcF ⟨s,f.names⟩ i) i).record (gq (stQ (usA a) rcF ⟨s,f.names⟩ i) i).at_) (gl a.next (gq (stQ (usA a) rcF ⟨s,f.names⟩ i) i).at_.toNat) (stQ (usA a) rcF ⟨s,f.names⟩ i) (gl a.next (gq (stQ (usA a) rcF ⟨s,f.names⟩ i) i).at_.toNat).length).2) (by omega)];exact jA _ (by omega)
      refine zL fun K hK=> ?_
      refine Jz 74 [0] [(0,2,dI (zz (zn (ye (gq (stQ (usA a) rcF ⟨s,f.names⟩ i) i).record (gq (stQ (usA a) rcF ⟨s,f.names⟩ i) i).at_) (gl a.next (gq (stQ (usA a) rcF ⟨s,f.names⟩ i) i).at_.toNat) (stQ (usA a) rcF ⟨s,f.names⟩ i) (gl a.next (gq (stQ (usA a) rcF ⟨s,f.names⟩ i) i).at_.toNat).length).2))] zQ zN [] rfl ?_
      push_cast [↓zK,↓zJ]
      all_goals repeat'(first|(apply zO<;>(intro hg;(try push_cast at hg)))|(refine⟨_,hSo,?_⟩;push_cast [↓zK,↓zJ])|apply And.intro|(intro hg;(try push_cast at hg)))
      all_goals first|exact gA|(exact zZ (by omega))|skip
      all_goals(refine hK _ ?_;clear hK K)
      have hPv:FnX Tryz.prog tyT 113 [.v (.agg [.int .i64 (gq (stQ (usA a) rcF ⟨s,f.names⟩ i) i).at_,DI (List.take (gq (stQ (usA a) rcF ⟨s,f.names⟩ i) i).record.length (gq (zn (ye (gq (stQ (usA a) rcF ⟨s,f.names⟩ i) i).record (gq (stQ (usA a) rcF ⟨s,f.names⟩ i) i).at_) (gl a.next (gq (stQ (usA a) rcF ⟨s,f.names⟩ i) i).at_.toNat) (stQ (usA a) rcF ⟨s,f.names⟩ i) (gl a.next (gq (stQ (usA a) rcF ⟨s,f.names⟩ i) i).at_.toNat).length).1 i).record)]), .ref (.lst 2 [DI f.names,DII f.sets])] [.c (.int .i64 (xZ f (gq (stQ (usA a) rcF ⟨s,f.names⟩ i) i).record (gq (stQ (usA a) rcF ⟨s,f.names⟩ i) i).at_))]:=by rw [hgi,List.take_length];exact Up f hf (gq (stQ (usA a) rcF ⟨s,f.names⟩ i) i) (by omega) hP.2.2
      have hsl9:=xJ (zn (ye (gq (stQ (usA a) rcF ⟨s,f.names⟩ i) i).record (gq (stQ (usA a) rcF ⟨s,f.names⟩ i) i).at_) (gl a.next (gq (stQ (usA a) rcF ⟨s,f.names⟩ i) i).at_.toNat) (stQ (usA a) rcF ⟨s,f.names⟩ i) (gl a.next (gq (stQ (usA a) rcF ⟨s,f.names⟩ i) i).at_.toNat).length).2
      have hWV:FnG Tryz.prog tyT 157 [.agg [DI (List.take i (xT a rcF ⟨s,f.names⟩ i)),DII (List.take i (nxG a rcF ⟨s,f.names⟩ i)),DI (List.take i (prG a rcF (prF f) ⟨s,f.names⟩ i))], .c (.int .i64 (gi a.owner (gq (stQ (usA a) rcF ⟨s,f.names⟩ i) i).at_.toNat)), .c (.int .i64 (xZ f (gq (stQ (usA a) rcF ⟨s,f.names⟩ i) i).record (gq (stQ (usA a) rcF ⟨s,f.names⟩ i) i).at_)), .c (DI (List.take (gl a.next (gq (stQ (usA a) rcF ⟨s,f.names⟩ i) i).at_.toNat).length (zz (zn (ye (gq (stQ (usA a) rcF ⟨s,f.names⟩ i) i).record (gq (stQ (usA a) rcF ⟨s,f.names⟩ i) i).at_) (gl a.next (gq (stQ (usA a) rcF ⟨s,f.names⟩ i) i).at_.toNat) (stQ (usA a) rcF ⟨s,f.names⟩ i) (gl a.next (gq (stQ (usA a) rcF ⟨s,f.names⟩ i) i).at_.toNat).length).2)))] [0,1,2,48] [] [.agg [DI (xT a rcF ⟨s,f.names⟩ i++ [gi a.owner (gq (stQ (usA a) rcF ⟨s,f.names⟩ i) i).at_.toNat]),DII (nxG a rcF ⟨s,f.names⟩ i++ [zz (zn (ye (gq (stQ (usA a) rcF ⟨s,f.names⟩ i) i).record (gq (stQ (usA a) rcF ⟨s,f.names⟩ i) i).at_) (gl a.next (gq (stQ (usA a) rcF ⟨s,f.names⟩ i) i).at_.toNat) (stQ (usA a) rcF ⟨s,f.names⟩ i) (gl a.next (gq (stQ (usA a) rcF ⟨s,f.names⟩ i) i).at_.toNat).length).2]),DI (prG a rcF (prF f) ⟨s,f.names⟩ i++ [xZ f (gq (stQ (usA a) rcF ⟨s,f.names⟩ i) i).record (gq (stQ (usA a) rcF ⟨s,f.names⟩ i) i).at_])]]:=by rw [List.take_of_length_le (l:=xT a rcF ⟨s,f.names⟩ i) (by omega),List.take_of_length_le (l:=nxG a rcF ⟨s,f.names⟩ i) (by omega),List.take_of_length_le (l:=prG a rcF (prF f) ⟨s,f.names⟩ i) (by omega),List.take_of_length_le (l:=zz (zn (ye (gq (stQ (usA a) rcF ⟨s,f.names⟩ i) i).record (gq (stQ (usA a) rcF ⟨s,f.names⟩ i) i).at_) (gl a.next (gq (stQ (usA a) rcF ⟨s,f.names⟩ i) i).at_.toNat) (stQ (usA a) rcF ⟨s,f.names⟩ i) (gl a.next (gq (stQ (usA a) rcF ⟨s,f.names⟩ i) i).at_.toNat).length).2) (by omega)];exact Jl (gmA a rcF (prF f) ⟨s,f.names⟩ i) ⟨⟨by show(xT _ _ _ i).length≤_;omega,⟨by show(nxG _ _ _ i).length≤_;omega,fun r hr=>by have :=zFq h1 h3 (n:=i) (zEK hil) r hr;omega⟩⟩,by show(prG _ _ _ _ i).length≤_;omega⟩ (gi a.owner (gq (stQ (usA a) rcF ⟨s,f.names⟩ i) i).at_.toNat) (xZ f (gq (stQ (usA a) rcF ⟨s,f.names⟩ i) i).record (gq (stQ (usA a) rcF ⟨s,f.names⟩ i) i).at_) (zz (zn (ye (gq (stQ (usA a) rcF ⟨s,f.names⟩ i) i).record (gq (stQ (usA a) rcF ⟨s,f.names⟩ i) i).at_) (gl a.next (gq (stQ (usA a) rcF ⟨s,f.names⟩ i) i).at_.toNat) (stQ (usA a) rcF ⟨s,f.names⟩ i) (gl a.next (gq (stQ (usA a) rcF ⟨s,f.names⟩ i) i).at_.toNat).length).2) (by omega)
      refine Vh false false 11 (jB Tryz.prog tyT 2) [84] (fun _ _ _ h=>Ju rfl h) (QL Tryz.prog tyT [0,1,2,48] []) (fun _ _ _ _ _ _ _ _ _ h1 h2 h3 h4=>Xj h1 h2 h3 h4) zQ zN xR ?_ rfl rfl ?_
      ·kernel_rfl
      intro E hE
      all_goals push_cast [↓zK,↓zJ]
      all_goals repeat'(first|(apply zO<;>(intro hg;(try push_cast at hg)))|(refine⟨_,_,hPv,?_⟩;(try push_cast [↓zK,↓zJ]))|(refine⟨_,hWV,?_⟩;push_cast [↓zK,↓zJ])|apply And.intro|(intro hg;(try push_cast at hg)))
      all_goals first|exact gA|(refine hE _ _ ?_ rfl ?_;kernel_rfl)|(exact zZ (by omega))|skip
      all_goals clear hE E
      all_goals push_cast [↓zK,↓zJ]
      all_goals repeat'(first|(apply zO<;>(intro hg;(try push_cast at hg)))|(refine⟨_,_,hPv,?_⟩;(try push_cast [↓zK,↓zJ]))|(refine⟨_,hWV,?_⟩;push_cast [↓zK,↓zJ])|apply And.intro|(intro hg;(try push_cast at hg)))
      all_goals first|exact gA|(exact zZ (by omega))|skip
      all_goals first|(refine hg _ _ ?_ ?_;kernel_rfl)|skip
      refine hK3 _ ?_
      refine yx [.sl 2, .sl 22, .sl 2] 12 ?_
      push_cast [↓zK,↓zJ]
      refine θB ?_
      have hst:(stQ (usA a) rcF ⟨s,f.names⟩ (i+1))=(zn (ye (gq (stQ (usA a) rcF ⟨s,f.names⟩ i) i).record (gq (stQ (usA a) rcF ⟨s,f.names⟩ i) i).at_) (gl a.next (gq (stQ (usA a) rcF ⟨s,f.names⟩ i) i).at_.toNat) (stQ (usA a) rcF ⟨s,f.names⟩ i) (gl a.next (gq (stQ (usA a) rcF ⟨s,f.names⟩ i) i).at_.toNat).length).1:=ZV (by omega)
      refine hL0 _ ⟨i+1,⟨by omega,(by rw [hst];omega),(by rw [hst];omega)⟩,by omega,?_⟩
      (try rw [List.take_of_length_le (l:=xT a rcF ⟨s,f.names⟩ i) (by omega)])
      (try rw [List.take_of_length_le (l:=nxG a rcF ⟨s,f.names⟩ i) (by omega)])
      (try rw [List.take_of_length_le (l:=prG a rcF (prF f) ⟨s,f.names⟩ i) (by omega)])
      rw [hst,zDt,zG2,zG9,show plQ (usA a) rcF ⟨s,f.names⟩ i=(gq (stQ (usA a) rcF ⟨s,f.names⟩ i) i)from rfl,show nxQ (usA a) rcF ⟨s,f.names⟩ i=zz (zn (ye (gq (stQ (usA a) rcF ⟨s,f.names⟩ i) i).record (gq (stQ (usA a) rcF ⟨s,f.names⟩ i) i).at_) (gl a.next (gq (stQ (usA a) rcF ⟨s,f.names⟩ i) i).at_.toNat) (stQ (usA a) rcF ⟨s,f.names⟩ i) (gl a.next (gq (stQ (usA a) rcF ⟨s,f.names⟩ i) i).at_.toNat).length).2 from rfl,show(prF f) (gq (stQ (usA a) rcF ⟨s,f.names⟩ i) i)=xZ f (gq (stQ (usA a) rcF ⟨s,f.names⟩ i) i).record (gq (stQ (usA a) rcF ⟨s,f.names⟩ i) i).at_ from rfl]
      refine zX rfl ?_ ?_ ?_<;>push_cast [zf,ze,↓zK,↓zJ]
      all_goals first|rfl|exact⟨rfl,rfl,rfl,rfl⟩|(rw [List.length_append,List.length_append,List.length_append,ho1,ho2,ho3];rfl)|skip
  ·
   refine zi (hK1 _ ?_)
   refine θA ?_
   refine zY ⟨Or.inl rfl,?_⟩
   push_cast [zt,yH,↓zK,↓zJ]
   refine⟨_,?_,hKB i hi (by omega) hil⟩
   push_cast [↓zK,↓zJ]
   all_goals first|exact⟨trivial,trivial⟩|skip
end Go.Proofs.YthepmdkpbjfdcaaGreat
