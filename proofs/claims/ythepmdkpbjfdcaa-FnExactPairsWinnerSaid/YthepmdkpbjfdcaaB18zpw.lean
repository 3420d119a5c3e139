/- Recorded: the program's side -/
import Derived.Test.YthepmdkpbjfdcaaB15zpw
import Derived.Test.YthepmdkpbjfdcaaGszpw
import Derived.Test.YthepmdkpbjfdcaaB9zpw
import Derived.Test.YthepmdkpbjfdcaaB12zpw
import Derived.Test.YthepmdkpbjfdcaaB16zpw
namespace Go.Proofs.Ythepmdkpbjfdcaa
open Nat renaming reduceMod → zA, reduceMul → zB, reduceDiv → zC, reduceAdd → zD, reduceSub → zE, reduceEqDiff → zF, reduceBEq → zG, reduceLT → zH, reduceLeDiff → zI
open Go.RowKit
set_option linter.unusedVariables false
set_option linter.unusedSimpArgs false
set_option maxRecDepth 20000 in
set_option maxHeartbeats 4000000 in
theorem zAp (ps:List Pr)(hp:PLn 1048576 ps)(p:Plc)(hv:vO p.record ps.length=true):FnX Try.prog tyT 108 [.v (.agg [.int .i64 p.at_,DI p.record]), .ref (.lst 2 [.lst 90 (dII (ilv ps))])] [.c (DI (nxL ps p.record p.at_))]:=by
 have hl:=hp.1
 have hli:=xx ps
 have hrf:=(qu hv).1
 have hN:=zBc ps hp p.record p.at_ hv
 refine Ka (fn:=Try.f108) (rs:= [.tmp 3]) zO zN Try.func108 (by kernel_rfl) rfl rfl (by rw [Try.ntmps108];exact Nat.le_of_ble_eq_true rfl) rfl (by simp only [szX,List.mem_cons,List.not_mem_nil,or_false,forall_eq_or_imp,forall_eq,XT.cells,VT.cells,szL];try decide) ?_
 rw [Try.ntmps108]
 simp only [push_cast,↓zK,↓zJ,↓reduceIte,zA,zB,zC,zD,zE,zF,zG,zH,zI,reduceCtorEq]
 refine zL fun K hK=> ?_
 refine zM zO zN [] rfl ?_
 simp only [push_cast,↓zK,↓zJ,↓reduceIte,zA,zB,zC,zD,zE,zF,zG,zH,zI,reduceCtorEq]
 repeat' apply And.intro
 all_goals try exact gB
 all_goals first|(refine hK _ ?_;clear hK K)|(simp only [push_cast];done)
 refine zL fun K hK=> ?_
 refine zM zO zN [] rfl ?_
 all_goals refine zo 6 fun K9 hK9=> ?_
 all_goals simp only [push_cast,↓zK,↓zJ,↓reduceIte,zA,zB,zC,zD,zE,zF,zG,zH,zI,reduceCtorEq]
 all_goals repeat'(first|(apply zP<;>(intro hg;(try simp only [push_cast]at hg)))|(refine⟨_,hN,?_⟩;simp only [push_cast,↓zK,↓zJ,↓reduceIte,zA,zB,zC,zD,zE,zF,zG,zH,zI,reduceCtorEq])|apply And.intro|(intro hg;(try simp only [push_cast]at hg)))
 all_goals try exact gA
 all_goals first|(refine hK9 _ ?_;clear hK9 K9)|(simp only [push_cast];done)
 all_goals simp only [push_cast,↓zK,↓zJ,↓reduceIte,zA,zB,zC,zD,zE,zF,zG,zH,zI,reduceCtorEq]
 all_goals repeat'(first|(apply zP<;>(intro hg;(try simp only [push_cast]at hg)))|(refine⟨_,hN,?_⟩;simp only [push_cast,↓zK,↓zJ,↓reduceIte,zA,zB,zC,zD,zE,zF,zG,zH,zI,reduceCtorEq])|apply And.intro|(intro hg;(try simp only [push_cast]at hg)))
 all_goals try exact gA
 all_goals first|(refine hK _ ?_;clear hK K)|(simp only [push_cast];done)
 refine zX ?_
 (try simp only [zR,zS])
 refine⟨Or.inl rfl,?_⟩
 simp only [zd,yE,yj,push_cast,↓zK,↓zJ,↓reduceIte,zA,zB,zC,zD,zE,zF,zG,zH,zI,reduceCtorEq]
set_option maxRecDepth 20000 in
set_option maxHeartbeats 4000000 in
theorem zAq (ps:List Pr)(hp:PLn 1048576 ps)(p:Plc)(hv:vO p.record ps.length=true):FnX Try.prog tyT 110 [.v (.agg [.int .i64 p.at_,DI p.record]), .ref (.lst 2 [.lst 90 (dII (ilv ps))])] [.c (.int .i64 (qt ps p.record p.at_))]:=by
 have hl:=hp.1
 have hli:=xx ps
 have hrf:=(qu hv).1
 have hN:=zBk ps hp p.record p.at_ hv
 refine Ka (fn:=Try.f110) (rs:= [.tmp 3]) zO zN Try.func110 (by kernel_rfl) rfl rfl (by rw [Try.ntmps110];exact Nat.le_of_ble_eq_true rfl) rfl (by simp only [szX,List.mem_cons,List.not_mem_nil,or_false,forall_eq_or_imp,forall_eq,XT.cells,VT.cells,szL];try decide) ?_
 rw [Try.ntmps110]
 simp only [push_cast,↓zK,↓zJ,↓reduceIte,zA,zB,zC,zD,zE,zF,zG,zH,zI,reduceCtorEq]
 refine zL fun K hK=> ?_
 refine zM zO zN [] rfl ?_
 simp only [push_cast,↓zK,↓zJ,↓reduceIte,zA,zB,zC,zD,zE,zF,zG,zH,zI,reduceCtorEq]
 repeat' apply And.intro
 all_goals try exact gB
 all_goals first|(refine hK _ ?_;clear hK K)|(simp only [push_cast];done)
 refine zL fun K hK=> ?_
 refine zM zO zN [] rfl ?_
 all_goals refine zo 6 fun K9 hK9=> ?_
 all_goals simp only [push_cast,↓zK,↓zJ,↓reduceIte,zA,zB,zC,zD,zE,zF,zG,zH,zI,reduceCtorEq]
 all_goals repeat'(first|(apply zP<;>(intro hg;(try simp only [push_cast]at hg)))|(refine⟨_,hN,?_⟩;simp only [push_cast,↓zK,↓zJ,↓reduceIte,zA,zB,zC,zD,zE,zF,zG,zH,zI,reduceCtorEq])|apply And.intro|(intro hg;(try simp only [push_cast]at hg)))
 all_goals try exact gA
 all_goals first|(refine hK9 _ ?_;clear hK9 K9)|(simp only [push_cast];done)
 all_goals simp only [push_cast,↓zK,↓zJ,↓reduceIte,zA,zB,zC,zD,zE,zF,zG,zH,zI,reduceCtorEq]
 all_goals repeat'(first|(apply zP<;>(intro hg;(try simp only [push_cast]at hg)))|(refine⟨_,hN,?_⟩;simp only [push_cast,↓zK,↓zJ,↓reduceIte,zA,zB,zC,zD,zE,zF,zG,zH,zI,reduceCtorEq])|apply And.intro|(intro hg;(try simp only [push_cast]at hg)))
 all_goals try exact gA
 all_goals first|(refine hK _ ?_;clear hK K)|(simp only [push_cast];done)
 refine zX ?_
 (try simp only [zR,zS])
 refine⟨Or.inl rfl,?_⟩
 simp only [zd,yE,yj,push_cast,↓zK,↓zJ,↓reduceIte,zA,zB,zC,zD,zE,zF,zG,zH,zI,reduceCtorEq]
set_option maxRecDepth 20000 in
set_option maxHeartbeats 16000000 in
theorem kM (a:Ar)(ha:a.Ln 1048576)(ps:List Pr)(hp:PLn 1048576 ps)(hp4:ps.length≤4)(s:Int)(hPre:yc a=true∧Qp a (rcR ps) ⟨s,zT ps.length⟩ (fun r=>vO r ps.length=true) 4)(K0:AV→List AV→List (Nat×zn)→Prop)(hKA:okQ (usA a) (rcR ps) ⟨s,zT ps.length⟩=false→K0 (.tup [.agg [.sl 128 [] 0 0 2, .sl 129 [] 0 0 22, .sl 130 [] 0 0 2], .sl 144 [] 0 0 102, .bool false]) [.sl 96 [] 0 0 2, .sl 97 [] 0 0 22, .sl 98 [] 0 0 2] [(128,⟨.ex,2,[],none⟩),(129,⟨.ex,22,[],none⟩),(130,⟨.ex,2,[],none⟩),(144,⟨.ex,102,[],none⟩)])(hKB: ∀i,i≤256→¬i<(stQ (usA a) (rcR ps) ⟨s,zT ps.length⟩ i).length→i≤(stQ (usA a) (rcR ps) ⟨s,zT ps.length⟩ i).length→K0 (.tup [.agg [.sl 128 [] 0 i 2, .sl 129 [] 0 i 22, .sl 130 [] 0 i 2], .sl 144 [] 0 (stQ (usA a) (rcR ps) ⟨s,zT ps.length⟩ i).length 102, .bool true]) [.sl 96 [] 0 0 2, .sl 97 [] 0 0 22, .sl 98 [] 0 0 2] [(128,⟨.ex,2,dI (xn a (rcR ps) ⟨s,zT ps.length⟩ i),none⟩),(129,⟨.ex,22,dII (nxG a (rcR ps) ⟨s,zT ps.length⟩ i),none⟩),(130,⟨.ex,2,dI (prG a (rcR ps) (prR ps) ⟨s,zT ps.length⟩ i),none⟩),(144,⟨.ex,102,yp (stQ (usA a) (rcR ps) ⟨s,zT ps.length⟩ i),none⟩)]):awp Try.prog tyT (Try.f107.body.getD .skip) (RetI tyT [.cell 8 84, .tmp 9, .tmp 10] K0) ⟨89,[(0, .agg [.sl 0 [] 0 a.owner.length 2, .sl 1 [] 0 a.next.length 22]),(1, .agg [.int .i64 s, .sl 145 [] 0 (zT ps.length).length 2]),(2, .fn 108 [.bp 4 0]),(3, .fn 110 [.bp 4 0])],[(1000000,[.sl 96 [] 0 0 2, .sl 97 [] 0 0 22, .sl 98 [] 0 0 2]),(4,[.sl 16 [] 0 ps.length 90])],[(0,⟨.sh,2,dI a.owner,none⟩),(1,⟨.sh,22,dII a.next,none⟩),(16,⟨.sh,90,dII (ilv ps),none⟩),(145,⟨.ex,2,dI (zT ps.length),none⟩)]⟩:=by
 have hno:=ha.owner
 have hnn:=ha.next.1
 have hrr: ∀v,(gl a.next v).length≤1048576:=fun v=>uz ha.next v
 unfold LnI at hno
 have h1:=hPre.1
 have h3:=hPre.2
 have hln:=yv h1
 refine zFP 4 2000 rfl rfl ?_
 simp only [push_cast,↓zK,↓zJ,↓reduceIte,zA,zB,zC,zD,zE,zF,zG,zH,zI,reduceCtorEq]
 refine zJL rfl ?_
 (try simp only [push_cast,↓zK,↓zJ,↓reduceIte,zA,zB,zC,zD,zE,zF,zG,zH,zI,reduceCtorEq])
 refine zL fun K hK=> ?_
 refine zM zO zN [] rfl ?_
 all_goals simp only [push_cast,↓zK,↓zJ,↓reduceIte,zA,zB,zC,zD,zE,zF,zG,zH,zI,reduceCtorEq]
 all_goals repeat'(first|(apply zP<;>(intro hg;(try simp only [push_cast]at hg)))|apply And.intro|(intro hg;(try simp only [push_cast]at hg)))
 all_goals first|exact gA|(exact zb (by omega))|skip
 all_goals first|(refine hK _ ?_;clear hK K)|(simp only [push_cast];done)
 refine zL fun K hK=> ?_
 refine zj false zO zN ?_ rfl ?_
 ·kernel_rfl
 simp only [push_cast,↓zK,↓zJ,↓reduceIte,zA,zB,zC,zD,zE,zF,zG,zH,zI,reduceCtorEq]
 all_goals repeat'(first|(apply zP<;>(intro hg;(try simp only [push_cast]at hg)))|apply And.intro|(intro hg;(try simp only [push_cast]at hg)))
 all_goals first|exact gA|(exact zb (by omega))|skip
 all_goals first|(refine hK _ ?_;clear hK K)|(simp only [push_cast];done)
 refine zL fun K hK=> ?_
 refine zM zO zN [] rfl ?_
 all_goals simp only [push_cast,↓zK,↓zJ,↓reduceIte,zA,zB,zC,zD,zE,zF,zG,zH,zI,reduceCtorEq]
 all_goals repeat'(first|(apply zP<;>(intro hg;(try simp only [push_cast]at hg)))|apply And.intro|(intro hg;(try simp only [push_cast]at hg)))
 all_goals first|exact gA|(exact zb (by omega))|skip
 all_goals first|(refine hK _ ?_;clear hK K)|(simp only [push_cast];done)
 refine zL fun K1 hK1=> ?_
 refine qo 102 11 (Nat.le_of_ble_eq_true rfl) ?_
 simp only [push_cast,↓zK,↓zJ,↓reduceIte,zA,zB,zC,zD,zE,zF,zG,zH,zI,reduceCtorEq]
 refine zL fun K hK=> ?_
 refine zM zO zN [] rfl ?_
 all_goals simp only [push_cast,↓zK,↓zJ,↓reduceIte,zA,zB,zC,zD,zE,zF,zG,zH,zI,reduceCtorEq]
 all_goals repeat'(first|(apply zP<;>(intro hg;(try simp only [push_cast]at hg)))|apply And.intro|(intro hg;(try simp only [push_cast]at hg)))
 all_goals first|exact gA|(exact zb (by omega))|skip
 all_goals first|(refine hK _ ?_;clear hK K)|(simp only [push_cast];done)
 refine zW ?_
 refine zi [9,10,11,12,13,14,15,16,18,19,23,24,25,26,27,28,29,30,31,32,33,34,35,36,37,38,39,40,41,42,43,44,45,46,47,48,49,50,51,52,53,54,55,56,57,58,59,60,61,62,63,64,65,66,67,68,69,70,71,72,73,74,75,76,77,78,79,80,81,82,83,84,85,86] [] (fun(i:Nat)=> [(13, .int .i64 i),(11, .sl 176 [] 0 (stQ (usA a) (rcR ps) ⟨s,zT ps.length⟩ i).length 102),(12, .bp 12 0)]) (fun i=> [(12,[.sl 192 [] 0 i 2, .sl 193 [] 0 i 22, .sl 194 [] 0 i 2])]) (fun i=> [(176,⟨.ex,102,yp (stQ (usA a) (rcR ps) ⟨s,zT ps.length⟩ i),none⟩),(192,⟨.ex,2,dI (xn a (rcR ps) ⟨s,zT ps.length⟩ i),none⟩),(193,⟨.ex,22,dII (nxG a (rcR ps) ⟨s,zT ps.length⟩ i),none⟩),(194,⟨.ex,2,dI (prG a (rcR ps) (prR ps) ⟨s,zT ps.length⟩ i),none⟩)]) (fun i=>i≤256∧i≤(stQ (usA a) (rcR ps) ⟨s,zT ps.length⟩ i).length∧(stQ (usA a) (rcR ps) ⟨s,zT ps.length⟩ i).length≤256) (fun i=>257 - i) 0 ?_ ⟨by omega,Nat.zero_le _,(by show 1≤256;decide)⟩ ?_
 ·
  rw [show stQ (usA a) (rcR ps) ⟨s,zT ps.length⟩ 0= [⟨s,zT ps.length⟩]from rfl,zEW,zGn,zGq]
  refine zY rfl ?_ ?_ ?_<;>simp only [zf,ze,push_cast,↓zK,↓zJ,↓reduceIte,zA,zB,zC,zD,zE,zF,zG,zH,zI,reduceCtorEq]
  all_goals first|rfl|exact⟨rfl,rfl,rfl,rfl⟩|skip
 ·rintro i ⟨hi,hil,hsl⟩ KL0 hL0
  have hall:=YL h1 h3 i
  have hq:QLn 1048576 (stQ (usA a) (rcR ps) ⟨s,zT ps.length⟩ i):=⟨by omega,fun p hp=>by have :=h3.small _ (hall p hp).2.2;omega⟩
  have hgl:=fun k=>JD hq k
  have ho1:=vD (a:=a) (rc:=(rcR ps)) (p0:=⟨s,zT ps.length⟩) i
  have ho2:=Qe (a:=a) (rc:=(rcR ps)) (p0:=⟨s,zT ps.length⟩) i
  have ho3:=Yq (a:=a) (rc:=(rcR ps)) (pr:=(prR ps)) (p0:=⟨s,zT ps.length⟩) i
  simp only [push_cast,↓zK,↓zJ,↓reduceIte,zA,zB,zC,zD,zE,zF,zG,zH,zI,reduceCtorEq]
  refine zL fun K2 hK2=> ?_
  refine zL fun K hK=> ?_
  refine zM zO zN [] rfl ?_
  all_goals simp only [push_cast,↓zK,↓zJ,↓reduceIte,zA,zB,zC,zD,zE,zF,zG,zH,zI,reduceCtorEq]
  all_goals repeat'(first|(apply zP<;>(intro hg;(try simp only [push_cast]at hg)))|apply And.intro|(intro hg;(try simp only [push_cast]at hg)))
  all_goals first|exact gA|(exact zb (by omega))|skip
  all_goals first|(refine hK _ ?_;clear hK K)|(simp only [push_cast];done)
  refine zU rfl (fun hc=> ?_) (fun hc=> ?_)<;>(try simp only [push_cast]at hc)
  ·
   refine zV ?_
   (try simp only [zR,zS,reduceIte,zF]);refine hK2 _ ?_
   refine zL fun K3 hK3=> ?_
   refine zW ?_
   have hP:=hall _ (YH (k:=i) (by omega))
   have hU:1≤(gl a.next (gq (stQ (usA a) (rcR ps) ⟨s,zT ps.length⟩ i) i).at_.toNat).length∧(gl a.next (gq (stQ (usA a) (rcR ps) ⟨s,zT ps.length⟩ i) i).at_.toNat).length≤16∧∀u∈(gl a.next (gq (stQ (usA a) (rcR ps) ⟨s,zT ps.length⟩ i) i).at_.toNat),0≤u∧u<(a.owner.length:Int):=JU h1 ⟨hP.1,hP.2.1⟩
   have hpl:=h3.small _ hP.2.2
   have hnl:(nxL ps (gq (stQ (usA a) (rcR ps) ⟨s,zT ps.length⟩ i) i).record (gq (stQ (usA a) (rcR ps) ⟨s,zT ps.length⟩ i) i).at_).length≤4:=h3.small _ (h3.next _ hP.1 hP.2.1 hP.2.2)
   refine zL fun K hK=> ?_
   refine zM zO zN [] rfl ?_
   all_goals simp only [push_cast,↓zK,↓zJ,↓reduceIte,zA,zB,zC,zD,zE,zF,zG,zH,zI,reduceCtorEq]
   all_goals repeat'(first|(apply zP<;>(intro hg;(try simp only [push_cast]at hg)))|apply And.intro|(intro hg;(try simp only [push_cast]at hg)))
   all_goals first|exact gA|(exact zb (by omega))|skip
   all_goals first|(refine hK _ ?_;clear hK K)|(simp only [push_cast];done)
   refine zL fun K hK=> ?_
   refine Xp 35 2 rfl zO zN [] rfl ?_
   simp only [push_cast,↓zK,↓zJ,↓reduceIte,zA,zB,zC,zD,zE,zF,zG,zH,zI,reduceCtorEq]
   repeat' apply And.intro
   all_goals(try simp only [push_cast,↓zK,↓zJ,↓reduceIte,zA,zB,zC,zD,zE,zF,zG,zH,zI,reduceCtorEq])
   all_goals repeat'(first|(apply zP<;>(intro hg;(try simp only [push_cast]at hg)))|(refine⟨_,zAp ps hp (gq (stQ (usA a) (rcR ps) ⟨s,zT ps.length⟩ i) i) hP.2.2,?_⟩;simp only [push_cast,↓zK,↓zJ,↓reduceIte,zA,zB,zC,zD,zE,zF,zG,zH,zI,reduceCtorEq])|apply And.intro|(intro hg;(try simp only [push_cast]at hg)))
   all_goals first|exact gA|(exact zb (by omega))|skip
   all_goals first|(refine hK _ ?_;clear hK K)|(simp only [push_cast];done)
   refine zL fun K hK=> ?_
   refine zM zO zN [] rfl ?_
   all_goals simp only [push_cast,↓zK,↓zJ,↓reduceIte,zA,zB,zC,zD,zE,zF,zG,zH,zI,reduceCtorEq]
   all_goals repeat'(first|(apply zP<;>(intro hg;(try simp only [push_cast]at hg)))|apply And.intro|(intro hg;(try simp only [push_cast]at hg)))
   all_goals first|exact gA|(exact zb (by omega))|skip
   all_goals first|(refine hK _ ?_;clear hK K)|(simp only [push_cast];done)
   refine zL fun K4 hK4=> ?_
   refine zL fun K hK=> ?_
   refine zM zO zN [] rfl ?_
   all_goals simp only [push_cast,↓zK,↓zJ,↓reduceIte,zA,zB,zC,zD,zE,zF,zG,zH,zI,reduceCtorEq]
   all_goals repeat'(first|(apply zP<;>(intro hg;(try simp only [push_cast]at hg)))|apply And.intro|(intro hg;(try simp only [push_cast]at hg)))
   all_goals first|exact gA|(exact zb (by omega))|skip
   all_goals first|(refine hK _ ?_;clear hK K)|(simp only [push_cast];done)
   refine zW ?_
   refine zi [11,14,16,18,19,24,29,31,32,33,34,44,45,46,47,48,49,50,51,52,53,54,55,56,57,58,59,60,61,62,63,64,65,66,67,68] [256,224,225] (fun(k:Nat)=> [(44, .int .i64 k),(11, .sl 176 [] 0 (zp (nxL ps (gq (stQ (usA a) (rcR ps) ⟨s,zT ps.length⟩ i) i).record (gq (stQ (usA a) (rcR ps) ⟨s,zT ps.length⟩ i) i).at_) (gl a.next (gq (stQ (usA a) (rcR ps) ⟨s,zT ps.length⟩ i) i).at_.toNat) (stQ (usA a) (rcR ps) ⟨s,zT ps.length⟩ i) k).1.length 102),(16, .sl 256 [] 0 k 2),(14, .bp 14 0)]) (fun k=> [(14,[.int .i64 (gq (stQ (usA a) (rcR ps) ⟨s,zT ps.length⟩ i) i).at_, .sl 176 [i*2+1] 0 (gq (stQ (usA a) (rcR ps) ⟨s,zT ps.length⟩ i) i).record.length 2])]) (fun k=> [(176,⟨.ex,102,yp (zp (nxL ps (gq (stQ (usA a) (rcR ps) ⟨s,zT ps.length⟩ i) i).record (gq (stQ (usA a) (rcR ps) ⟨s,zT ps.length⟩ i) i).at_) (gl a.next (gq (stQ (usA a) (rcR ps) ⟨s,zT ps.length⟩ i) i).at_.toNat) (stQ (usA a) (rcR ps) ⟨s,zT ps.length⟩ i) k).1,none⟩),(256,⟨.ex,2,dI (zp (nxL ps (gq (stQ (usA a) (rcR ps) ⟨s,zT ps.length⟩ i) i).record (gq (stQ (usA a) (rcR ps) ⟨s,zT ps.length⟩ i) i).at_) (gl a.next (gq (stQ (usA a) (rcR ps) ⟨s,zT ps.length⟩ i) i).at_.toNat) (stQ (usA a) (rcR ps) ⟨s,zT ps.length⟩ i) k).2,none⟩)]) (fun k=>k≤(gl a.next (gq (stQ (usA a) (rcR ps) ⟨s,zT ps.length⟩ i) i).at_.toNat).length) (fun k=>(gl a.next (gq (stQ (usA a) (rcR ps) ⟨s,zT ps.length⟩ i) i).at_.toNat).length - k) 0 ?_ (Nat.zero_le _) ?_
   ·
    rw [zAs]
    refine zY rfl ?_ ?_ ?_<;>simp only [zf,ze,push_cast,↓zK,↓zJ,↓reduceIte,zA,zB,zC,zD,zE,zF,zG,zH,zI,reduceCtorEq]
    all_goals first|rfl|skip
   ·rintro k hk KL1 hL1
    have hrl:=qF (r:=(nxL ps (gq (stQ (usA a) (rcR ps) ⟨s,zT ps.length⟩ i) i).record (gq (stQ (usA a) (rcR ps) ⟨s,zT ps.length⟩ i) i).at_)) (us:=(gl a.next (gq (stQ (usA a) (rcR ps) ⟨s,zT ps.length⟩ i) i).at_.toNat)) (ps:=(stQ (usA a) (rcR ps) ⟨s,zT ps.length⟩ i)) (k:=k) hk
    have hQr:QLn 1048576 (zp (nxL ps (gq (stQ (usA a) (rcR ps) ⟨s,zT ps.length⟩ i) i).record (gq (stQ (usA a) (rcR ps) ⟨s,zT ps.length⟩ i) i).at_) (gl a.next (gq (stQ (usA a) (rcR ps) ⟨s,zT ps.length⟩ i) i).at_.toNat) (stQ (usA a) (rcR ps) ⟨s,zT ps.length⟩ i) k).1:=⟨by omega,fun p hp=>by have :=h3.small _ (zEZ h1 h3 (i:=i) (k:=k) (by omega) hk p hp).2.2;omega⟩
    have hx:=zEJ (yg (gi (gl a.next (gq (stQ (usA a) (rcR ps) ⟨s,zT ps.length⟩ i) i).at_.toNat) k) (nxL ps (gq (stQ (usA a) (rcR ps) ⟨s,zT ps.length⟩ i) i).record (gq (stQ (usA a) (rcR ps) ⟨s,zT ps.length⟩ i) i).at_)) (zp (nxL ps (gq (stQ (usA a) (rcR ps) ⟨s,zT ps.length⟩ i) i).record (gq (stQ (usA a) (rcR ps) ⟨s,zT ps.length⟩ i) i).at_) (gl a.next (gq (stQ (usA a) (rcR ps) ⟨s,zT ps.length⟩ i) i).at_.toNat) (stQ (usA a) (rcR ps) ⟨s,zT ps.length⟩ i) k).1
    simp only [push_cast,↓zK,↓zJ,↓reduceIte,zA,zB,zC,zD,zE,zF,zG,zH,zI,reduceCtorEq]
    refine zL fun K hK=> ?_
    refine zM zO zN [] rfl ?_
    all_goals simp only [push_cast,↓zK,↓zJ,↓reduceIte,zA,zB,zC,zD,zE,zF,zG,zH,zI,reduceCtorEq]
    all_goals repeat'(first|(apply zP<;>(intro hg;(try simp only [push_cast]at hg)))|apply And.intro|(intro hg;(try simp only [push_cast]at hg)))
    all_goals first|exact gA|(exact zb (by omega))|skip
    all_goals first|(refine hK _ ?_;clear hK K)|(simp only [push_cast];done)
    refine zL fun K5 hK5=> ?_
    refine zU rfl (fun hc=> ?_) (fun hc=> ?_)<;>(try simp only [push_cast]at hc)
    ·
     refine zV ?_
     (try simp only [zR,zS,reduceIte,zF]);refine hK5 _ ?_
     refine zL fun K6 hK6=> ?_
     refine zW ?_
     refine zL fun K hK=> ?_
     refine zM zO zN [] rfl ?_
     all_goals simp only [push_cast,↓zK,↓zJ,↓reduceIte,zA,zB,zC,zD,zE,zF,zG,zH,zI,reduceCtorEq]
     all_goals repeat'(first|(apply zP<;>(intro hg;(try simp only [push_cast]at hg)))|apply And.intro|(intro hg;(try simp only [push_cast]at hg)))
     all_goals first|exact gA|(exact zb (by omega))|skip
     all_goals first|(refine hK _ ?_;clear hK K)|(simp only [push_cast];done)
     refine zL fun K hK=> ?_
     refine zM zO zN [] rfl ?_
     all_goals refine zo 4 fun K9 hK9=> ?_
     all_goals simp only [push_cast,↓zK,↓zJ,↓reduceIte,zA,zB,zC,zD,zE,zF,zG,zH,zI,reduceCtorEq]
     all_goals repeat'(first|(apply zP<;>(intro hg;(try simp only [push_cast]at hg)))|(refine⟨_,jW (zp (nxL ps (gq (stQ (usA a) (rcR ps) ⟨s,zT ps.length⟩ i) i).record (gq (stQ (usA a) (rcR ps) ⟨s,zT ps.length⟩ i) i).at_) (gl a.next (gq (stQ (usA a) (rcR ps) ⟨s,zT ps.length⟩ i) i).at_.toNat) (stQ (usA a) (rcR ps) ⟨s,zT ps.length⟩ i) k).1 hQr (gi (gl a.next (gq (stQ (usA a) (rcR ps) ⟨s,zT ps.length⟩ i) i).at_.toNat) k) (nxL ps (gq (stQ (usA a) (rcR ps) ⟨s,zT ps.length⟩ i) i).record (gq (stQ (usA a) (rcR ps) ⟨s,zT ps.length⟩ i) i).at_) (by omega),?_⟩;simp only [push_cast,↓zK,↓zJ,↓reduceIte,zA,zB,zC,zD,zE,zF,zG,zH,zI,reduceCtorEq])|apply And.intro|(intro hg;(try simp only [push_cast]at hg)))
     all_goals first|exact gA|(exact zb (by omega))|skip
     all_goals first|(refine hK9 _ ?_;clear hK9 K9)|(simp only [push_cast];done)
     all_goals simp only [push_cast,↓zK,↓zJ,↓reduceIte,zA,zB,zC,zD,zE,zF,zG,zH,zI,reduceCtorEq]
     all_goals repeat'(first|(apply zP<;>(intro hg;(try simp only [push_cast]at hg)))|(refine⟨_,jW (zp (nxL ps (gq (stQ (usA a) (rcR ps) ⟨s,zT ps.length⟩ i) i).record (gq (stQ (usA a) (rcR ps) ⟨s,zT ps.length⟩ i) i).at_) (gl a.next (gq (stQ (usA a) (rcR ps) ⟨s,zT ps.length⟩ i) i).at_.toNat) (stQ (usA a) (rcR ps) ⟨s,zT ps.length⟩ i) k).1 hQr (gi (gl a.next (gq (stQ (usA a) (rcR ps) ⟨s,zT ps.length⟩ i) i).at_.toNat) k) (nxL ps (gq (stQ (usA a) (rcR ps) ⟨s,zT ps.length⟩ i) i).record (gq (stQ (usA a) (rcR ps) ⟨s,zT ps.length⟩ i) i).at_) (by omega),?_⟩;simp only [push_cast,↓zK,↓zJ,↓reduceIte,zA,zB,zC,zD,zE,zF,zG,zH,zI,reduceCtorEq])|apply And.intro|(intro hg;(try simp only [push_cast]at hg)))
     all_goals first|exact gA|(exact zb (by omega))|skip
     all_goals first|(refine hK _ ?_;clear hK K)|(simp only [push_cast];done)
     refine zL fun K7 hK7=> ?_
     refine zL fun K hK=> ?_
     refine zM zO zN [] rfl ?_
     all_goals simp only [push_cast,↓zK,↓zJ,↓reduceIte,zA,zB,zC,zD,zE,zF,zG,zH,zI,reduceCtorEq]
     all_goals repeat'(first|(apply zP<;>(intro hg;(try simp only [push_cast]at hg)))|apply And.intro|(intro hg;(try simp only [push_cast]at hg)))
     all_goals first|exact gA|(exact zb (by omega))|skip
     all_goals first|(refine hK _ ?_;clear hK K)|(simp only [push_cast];done)
     refine zU rfl (fun hc=> ?_) (fun hc=> ?_)<;>(try simp only [push_cast]at hc)
     ·
      refine zL fun K hK=> ?_
      refine zM zO zN [] rfl ?_
      all_goals simp only [push_cast,↓zK,↓zJ,↓reduceIte,zA,zB,zC,zD,zE,zF,zG,zH,zI,reduceCtorEq]
      all_goals repeat'(first|(apply zP<;>(intro hg;(try simp only [push_cast]at hg)))|apply And.intro|(intro hg;(try simp only [push_cast]at hg)))
      all_goals first|exact gA|(exact zb (by omega))|skip
      all_goals first|(refine hK _ ?_;clear hK K)|(simp only [push_cast];done)
      refine JX 7 14 1 1008 176 [176] zO zN ?_ rfl rfl rfl fun K9 hK9=> ?_
      ·kernel_rfl
      all_goals simp only [push_cast,↓zK,↓zJ,↓reduceIte,zA,zB,zC,zD,zE,zF,zG,zH,zI,reduceCtorEq]
      all_goals repeat'(first|(apply zP<;>(intro hg;(try simp only [push_cast]at hg)))|apply And.intro|(intro hg;(try simp only [push_cast]at hg)))
      all_goals first|exact gA|(exact zb (by omega))|skip
      all_goals first|(refine hK9 _ ?_;clear hK9 K9)|(simp only [push_cast];done)
      all_goals simp only [push_cast,↓zK,↓zJ,↓reduceIte,zA,zB,zC,zD,zE,zF,zG,zH,zI,reduceCtorEq]
      all_goals repeat'(first|(apply zP<;>(intro hg;(try simp only [push_cast]at hg)))|apply And.intro|(intro hg;(try simp only [push_cast]at hg)))
      all_goals first|exact gA|(exact zb (by omega))|skip
      (try simp only [zR,zS,reduceIte,zF]);refine hK7 _ ?_
      refine zM zO zN [] rfl ?_
      all_goals simp only [push_cast,↓zK,↓zJ,↓reduceIte,zA,zB,zC,zD,zE,zF,zG,zH,zI,reduceCtorEq]
      all_goals repeat'(first|(apply zP<;>(intro hg;(try simp only [push_cast]at hg)))|apply And.intro|(intro hg;(try simp only [push_cast]at hg)))
      all_goals first|exact gA|(exact zb (by omega))|skip
      (try simp only [zR,zS,reduceIte,zF]);refine hK6 _ ?_
      refine zM zO zN [] rfl ?_
      all_goals simp only [push_cast,↓zK,↓zJ,↓reduceIte,zA,zB,zC,zD,zE,zF,zG,zH,zI,reduceCtorEq]
      all_goals repeat'(first|(apply zP<;>(intro hg;(try simp only [push_cast]at hg)))|apply And.intro|(intro hg;(try simp only [push_cast]at hg)))
      all_goals first|exact gA|(exact zb (by omega))|skip
      refine hL1 _ ⟨k+1,by omega,by omega,?_⟩
      (try rw [List.take_of_length_le (l:=(zp (nxL ps (gq (stQ (usA a) (rcR ps) ⟨s,zT ps.length⟩ i) i).record (gq (stQ (usA a) (rcR ps) ⟨s,zT ps.length⟩ i) i).at_) (gl a.next (gq (stQ (usA a) (rcR ps) ⟨s,zT ps.length⟩ i) i).at_.toNat) (stQ (usA a) (rcR ps) ⟨s,zT ps.length⟩ i) k).2) (by omega)])
      rw [vc (by omega) (by with_reducible assumption)]
      refine zY rfl ?_ ?_ ?_<;>simp only [zf,ze,push_cast,↓zK,↓zJ,↓reduceIte,zA,zB,zC,zD,zE,zF,zG,zH,zI,reduceCtorEq]
      all_goals first|rfl|(rw [List.length_append];rfl)|exact⟨rfl,rfl⟩|skip
     ·
      refine zV ?_
      (try simp only [zR,zS,reduceIte,zF]);refine hK7 _ ?_
      refine zM zO zN [] rfl ?_
      all_goals simp only [push_cast,↓zK,↓zJ,↓reduceIte,zA,zB,zC,zD,zE,zF,zG,zH,zI,reduceCtorEq]
      all_goals repeat'(first|(apply zP<;>(intro hg;(try simp only [push_cast]at hg)))|apply And.intro|(intro hg;(try simp only [push_cast]at hg)))
      all_goals first|exact gA|(exact zb (by omega))|skip
      (try simp only [zR,zS,reduceIte,zF]);refine hK6 _ ?_
      refine zM zO zN [] rfl ?_
      all_goals simp only [push_cast,↓zK,↓zJ,↓reduceIte,zA,zB,zC,zD,zE,zF,zG,zH,zI,reduceCtorEq]
      all_goals repeat'(first|(apply zP<;>(intro hg;(try simp only [push_cast]at hg)))|apply And.intro|(intro hg;(try simp only [push_cast]at hg)))
      all_goals first|exact gA|(exact zb (by omega))|skip
      refine hL1 _ ⟨k+1,by omega,by omega,?_⟩
      (try rw [List.take_of_length_le (l:=(zp (nxL ps (gq (stQ (usA a) (rcR ps) ⟨s,zT ps.length⟩ i) i).record (gq (stQ (usA a) (rcR ps) ⟨s,zT ps.length⟩ i) i).at_) (gl a.next (gq (stQ (usA a) (rcR ps) ⟨s,zT ps.length⟩ i) i).at_.toNat) (stQ (usA a) (rcR ps) ⟨s,zT ps.length⟩ i) k).2) (by omega)])
      rw [wF (by omega) (by with_reducible assumption)]
      refine zY rfl ?_ ?_ ?_<;>simp only [zf,ze,push_cast,↓zK,↓zJ,↓reduceIte,zA,zB,zC,zD,zE,zF,zG,zH,zI,reduceCtorEq]
      all_goals first|rfl|(rw [List.length_append];rfl)|exact⟨rfl,rfl⟩|skip
    ·
     refine zk ?_
     have hkk:k=(gl a.next (gq (stQ (usA a) (rcR ps) ⟨s,zT ps.length⟩ i) i).at_.toNat).length:=by omega
     subst hkk
     (try simp only [zR,zS,reduceIte,zF]);refine hK4 _ ?_
     refine zL fun K8 hK8=> ?_
     have hgi:gq (zp (nxL ps (gq (stQ (usA a) (rcR ps) ⟨s,zT ps.length⟩ i) i).record (gq (stQ (usA a) (rcR ps) ⟨s,zT ps.length⟩ i) i).at_) (gl a.next (gq (stQ (usA a) (rcR ps) ⟨s,zT ps.length⟩ i) i).at_.toNat) (stQ (usA a) (rcR ps) ⟨s,zT ps.length⟩ i) (gl a.next (gq (stQ (usA a) (rcR ps) ⟨s,zT ps.length⟩ i) i).at_.toNat).length).1 i=(gq (stQ (usA a) (rcR ps) ⟨s,zT ps.length⟩ i) i):=kP (by omega) (Nat.le_refl _)
     have hrl9:=qF (r:=(nxL ps (gq (stQ (usA a) (rcR ps) ⟨s,zT ps.length⟩ i) i).record (gq (stQ (usA a) (rcR ps) ⟨s,zT ps.length⟩ i) i).at_)) (us:=(gl a.next (gq (stQ (usA a) (rcR ps) ⟨s,zT ps.length⟩ i) i).at_.toNat)) (ps:=(stQ (usA a) (rcR ps) ⟨s,zT ps.length⟩ i)) (k:=(gl a.next (gq (stQ (usA a) (rcR ps) ⟨s,zT ps.length⟩ i) i).at_.toNat).length) (Nat.le_refl _)
     refine zL fun K hK=> ?_
     refine zM zO zN [] rfl ?_
     all_goals simp only [push_cast,↓zK,↓zJ,↓reduceIte,zA,zB,zC,zD,zE,zF,zG,zH,zI,reduceCtorEq]
     all_goals repeat'(first|(apply zP<;>(intro hg;(try simp only [push_cast]at hg)))|apply And.intro|(intro hg;(try simp only [push_cast]at hg)))
     all_goals first|exact gA|(exact zb (by omega))|skip
     all_goals first|(refine hK _ ?_;clear hK K)|(simp only [push_cast];done)
     refine zU rfl (fun hc=> ?_) (fun hc=> ?_)<;>(try simp only [push_cast]at hc)
     ·
      refine zL fun K hK=> ?_
      refine zM zO zN [] rfl ?_
      all_goals simp only [push_cast,↓zK,↓zJ,↓reduceIte,zA,zB,zC,zD,zE,zF,zG,zH,zI,reduceCtorEq]
      all_goals repeat'(first|(apply zP<;>(intro hg;(try simp only [push_cast]at hg)))|apply And.intro|(intro hg;(try simp only [push_cast]at hg)))
      all_goals first|exact gA|(exact zb (by omega))|skip
      all_goals first|(refine hK _ ?_;clear hK K)|(simp only [push_cast];done)
      refine zX ?_
      (try simp only [zR,zS])
      refine⟨Or.inl rfl,?_⟩
      simp only [yE,yj,push_cast,↓zK,↓zJ,↓reduceIte,zA,zB,zC,zD,zE,zF,zG,zH,zI,reduceCtorEq]
      refine⟨_,?_,hKA (zEU hi (by rw [Vg (by omega)];show 256<(zp (nxL ps (gq (stQ (usA a) (rcR ps) ⟨s,zT ps.length⟩ i) i).record (gq (stQ (usA a) (rcR ps) ⟨s,zT ps.length⟩ i) i).at_) (gl a.next (gq (stQ (usA a) (rcR ps) ⟨s,zT ps.length⟩ i) i).at_.toNat) (stQ (usA a) (rcR ps) ⟨s,zT ps.length⟩ i) (gl a.next (gq (stQ (usA a) (rcR ps) ⟨s,zT ps.length⟩ i) i).at_.toNat).length).1.length;omega))⟩
      simp only [push_cast,↓zK,↓zJ,↓reduceIte,zA,zB,zC,zD,zE,zF,zG,zH,zI,reduceCtorEq]
      all_goals first|exact⟨trivial,trivial⟩|skip
     ·
      refine zV ?_
      (try simp only [zR,zS,reduceIte,zF]);refine hK8 _ ?_
      have hSo:FnG Try.prog tyT 131 [.c (DI (List.take (gl a.next (gq (stQ (usA a) (rcR ps) ⟨s,zT ps.length⟩ i) i).at_.toNat).length (zp (nxL ps (gq (stQ (usA a) (rcR ps) ⟨s,zT ps.length⟩ i) i).record (gq (stQ (usA a) (rcR ps) ⟨s,zT ps.length⟩ i) i).at_) (gl a.next (gq (stQ (usA a) (rcR ps) ⟨s,zT ps.length⟩ i) i).at_.toNat) (stQ (usA a) (rcR ps) ⟨s,zT ps.length⟩ i) (gl a.next (gq (stQ (usA a) (rcR ps) ⟨s,zT ps.length⟩ i) i).at_.toNat).length).2))] [0] [(0,2,dI (yJ (zp (nxL ps (gq (stQ (usA a) (rcR ps) ⟨s,zT ps.length⟩ i) i).record (gq (stQ (usA a) (rcR ps) ⟨s,zT ps.length⟩ i) i).at_) (gl a.next (gq (stQ (usA a) (rcR ps) ⟨s,zT ps.length⟩ i) i).at_.toNat) (stQ (usA a) (rcR ps) ⟨s,zT ps.length⟩ i) (gl a.next (gq (stQ (usA a) (rcR ps) ⟨s,zT ps.length⟩ i) i).at_.toNat).length).2))] []:=by rw [List.take_of_length_le (l:=(zp (nxL ps (gq (stQ (usA a) (rcR ps) ⟨s,zT ps.length⟩ i) i).record (gq (stQ (usA a) (rcR ps) ⟨s,zT ps.length⟩ i) i).at_) (gl a.next (gq (stQ (usA a) (rcR ps) ⟨s,zT ps.length⟩ i) i).at_.toNat) (stQ (usA a) (rcR ps) ⟨s,zT ps.length⟩ i) (gl a.next (gq (stQ (usA a) (rcR ps) ⟨s,zT ps.length⟩ i) i).at_.toNat).length).2) (by omega)];exact zG6 _ (by omega)
      refine zL fun K hK=> ?_
      refine Ul 74 [0] [(0,2,dI (yJ (zp (nxL ps (gq (stQ (usA a) (rcR ps) ⟨s,zT ps.length⟩ i) i).record (gq (stQ (usA a) (rcR ps) ⟨s,zT ps.length⟩ i) i).at_) (gl a.next (gq (stQ (usA a) (rcR ps) ⟨s,zT ps.length⟩ i) i).at_.toNat) (stQ (usA a) (rcR ps) ⟨s,zT ps.length⟩ i) (gl a.next (gq (stQ (usA a) (rcR ps) ⟨s,zT ps.length⟩ i) i).at_.toNat).length).2))] zO zN [] rfl ?_
      simp only [push_cast,↓zK,↓zJ,↓reduceIte,zA,zB,zC,zD,zE,zF,zG,zH,zI,reduceCtorEq]
      all_goals repeat'(first|(apply zP<;>(intro hg;(try simp only [push_cast]at hg)))|(refine⟨_,hSo,?_⟩;simp only [push_cast,↓zK,↓zJ,↓reduceIte,zA,zB,zC,zD,zE,zF,zG,zH,zI,reduceCtorEq])|apply And.intro|(intro hg;(try simp only [push_cast]at hg)))
      all_goals first|exact gA|(exact zb (by omega))|skip
      all_goals first|(refine hK _ ?_;clear hK K)|(simp only [push_cast];done)
      have hPv:FnX Try.prog tyT 110 [.v (.agg [.int .i64 (gq (stQ (usA a) (rcR ps) ⟨s,zT ps.length⟩ i) i).at_,DI (List.take (gq (stQ (usA a) (rcR ps) ⟨s,zT ps.length⟩ i) i).record.length (gq (zp (nxL ps (gq (stQ (usA a) (rcR ps) ⟨s,zT ps.length⟩ i) i).record (gq (stQ (usA a) (rcR ps) ⟨s,zT ps.length⟩ i) i).at_) (gl a.next (gq (stQ (usA a) (rcR ps) ⟨s,zT ps.length⟩ i) i).at_.toNat) (stQ (usA a) (rcR ps) ⟨s,zT ps.length⟩ i) (gl a.next (gq (stQ (usA a) (rcR ps) ⟨s,zT ps.length⟩ i) i).at_.toNat).length).1 i).record)]), .ref (.lst 2 [.lst 90 (dII (ilv ps))])] [.c (.int .i64 ((qt ps (gq (stQ (usA a) (rcR ps) ⟨s,zT ps.length⟩ i) i).record (gq (stQ (usA a) (rcR ps) ⟨s,zT ps.length⟩ i) i).at_)))]:=by rw [hgi,List.take_length];exact zAq ps hp (gq (stQ (usA a) (rcR ps) ⟨s,zT ps.length⟩ i) i) hP.2.2
      have hsl9:=xh (zp (nxL ps (gq (stQ (usA a) (rcR ps) ⟨s,zT ps.length⟩ i) i).record (gq (stQ (usA a) (rcR ps) ⟨s,zT ps.length⟩ i) i).at_) (gl a.next (gq (stQ (usA a) (rcR ps) ⟨s,zT ps.length⟩ i) i).at_.toNat) (stQ (usA a) (rcR ps) ⟨s,zT ps.length⟩ i) (gl a.next (gq (stQ (usA a) (rcR ps) ⟨s,zT ps.length⟩ i) i).at_.toNat).length).2
      have hWV:FnG Try.prog tyT 146 [.agg [DI (List.take i (xn a (rcR ps) ⟨s,zT ps.length⟩ i)),DII (List.take i (nxG a (rcR ps) ⟨s,zT ps.length⟩ i)),DI (List.take i (prG a (rcR ps) (prR ps) ⟨s,zT ps.length⟩ i))], .c (.int .i64 (gi a.owner (gq (stQ (usA a) (rcR ps) ⟨s,zT ps.length⟩ i) i).at_.toNat)), .c (.int .i64 ((qt ps (gq (stQ (usA a) (rcR ps) ⟨s,zT ps.length⟩ i) i).record (gq (stQ (usA a) (rcR ps) ⟨s,zT ps.length⟩ i) i).at_))), .c (DI (List.take (gl a.next (gq (stQ (usA a) (rcR ps) ⟨s,zT ps.length⟩ i) i).at_.toNat).length (yJ (zp (nxL ps (gq (stQ (usA a) (rcR ps) ⟨s,zT ps.length⟩ i) i).record (gq (stQ (usA a) (rcR ps) ⟨s,zT ps.length⟩ i) i).at_) (gl a.next (gq (stQ (usA a) (rcR ps) ⟨s,zT ps.length⟩ i) i).at_.toNat) (stQ (usA a) (rcR ps) ⟨s,zT ps.length⟩ i) (gl a.next (gq (stQ (usA a) (rcR ps) ⟨s,zT ps.length⟩ i) i).at_.toNat).length).2)))] [0,1,2,48] [] [.agg [DI (xn a (rcR ps) ⟨s,zT ps.length⟩ i++ [gi a.owner (gq (stQ (usA a) (rcR ps) ⟨s,zT ps.length⟩ i) i).at_.toNat]),DII (nxG a (rcR ps) ⟨s,zT ps.length⟩ i++ [yJ (zp (nxL ps (gq (stQ (usA a) (rcR ps) ⟨s,zT ps.length⟩ i) i).record (gq (stQ (usA a) (rcR ps) ⟨s,zT ps.length⟩ i) i).at_) (gl a.next (gq (stQ (usA a) (rcR ps) ⟨s,zT ps.length⟩ i) i).at_.toNat) (stQ (usA a) (rcR ps) ⟨s,zT ps.length⟩ i) (gl a.next (gq (stQ (usA a) (rcR ps) ⟨s,zT ps.length⟩ i) i).at_.toNat).length).2]),DI (prG a (rcR ps) (prR ps) ⟨s,zT ps.length⟩ i++ [(qt ps (gq (stQ (usA a) (rcR ps) ⟨s,zT ps.length⟩ i) i).record (gq (stQ (usA a) (rcR ps) ⟨s,zT ps.length⟩ i) i).at_)])]]:=by rw [List.take_of_length_le (l:=xn a (rcR ps) ⟨s,zT ps.length⟩ i) (by omega),List.take_of_length_le (l:=nxG a (rcR ps) ⟨s,zT ps.length⟩ i) (by omega),List.take_of_length_le (l:=prG a (rcR ps) (prR ps) ⟨s,zT ps.length⟩ i) (by omega),List.take_of_length_le (l:=yJ (zp (nxL ps (gq (stQ (usA a) (rcR ps) ⟨s,zT ps.length⟩ i) i).record (gq (stQ (usA a) (rcR ps) ⟨s,zT ps.length⟩ i) i).at_) (gl a.next (gq (stQ (usA a) (rcR ps) ⟨s,zT ps.length⟩ i) i).at_.toNat) (stQ (usA a) (rcR ps) ⟨s,zT ps.length⟩ i) (gl a.next (gq (stQ (usA a) (rcR ps) ⟨s,zT ps.length⟩ i) i).at_.toNat).length).2) (by omega)];exact ui (gmA a (rcR ps) (prR ps) ⟨s,zT ps.length⟩ i) ⟨⟨by show(xn _ _ _ i).length≤_;omega,⟨by show(nxG _ _ _ i).length≤_;omega,fun r hr=>by have :=zHw h1 h3 (n:=i) (zGN hil) r hr;omega⟩⟩,by show(prG _ _ _ _ i).length≤_;omega⟩ (gi a.owner (gq (stQ (usA a) (rcR ps) ⟨s,zT ps.length⟩ i) i).at_.toNat) ((qt ps (gq (stQ (usA a) (rcR ps) ⟨s,zT ps.length⟩ i) i).record (gq (stQ (usA a) (rcR ps) ⟨s,zT ps.length⟩ i) i).at_)) (yJ (zp (nxL ps (gq (stQ (usA a) (rcR ps) ⟨s,zT ps.length⟩ i) i).record (gq (stQ (usA a) (rcR ps) ⟨s,zT ps.length⟩ i) i).at_) (gl a.next (gq (stQ (usA a) (rcR ps) ⟨s,zT ps.length⟩ i) i).at_.toNat) (stQ (usA a) (rcR ps) ⟨s,zT ps.length⟩ i) (gl a.next (gq (stQ (usA a) (rcR ps) ⟨s,zT ps.length⟩ i) i).at_.toNat).length).2) (by omega)
      refine zBQ false false 11 (un Try.prog tyT 2) [84] (fun _ _ _ h=>zDk rfl h) (QL Try.prog tyT [0,1,2,48] []) (fun _ _ _ _ _ _ _ _ _ h1 h2 h3 h4=>Vk h1 h2 h3 h4) zO zN qb ?_ rfl rfl ?_
      ·kernel_rfl
      intro E hE
      all_goals simp only [push_cast,↓zK,↓zJ,↓reduceIte,zA,zB,zC,zD,zE,zF,zG,zH,zI,reduceCtorEq]
      all_goals repeat'(first|(apply zP<;>(intro hg;(try simp only [push_cast]at hg)))|(refine⟨_,_,hPv,?_⟩;(try simp only [push_cast,↓zK,↓zJ,↓reduceIte,zA,zB,zC,zD,zE,zF,zG,zH,zI,reduceCtorEq]))|(refine⟨_,hWV,?_⟩;simp only [push_cast,↓zK,↓zJ,↓reduceIte,zA,zB,zC,zD,zE,zF,zG,zH,zI,reduceCtorEq])|apply And.intro|(intro hg;(try simp only [push_cast]at hg)))
      all_goals first|exact gA|(refine hE _ _ ?_ rfl ?_;kernel_rfl)|(exact zb (by omega))|skip
      all_goals clear hE E
      all_goals simp only [push_cast,↓zK,↓zJ,↓reduceIte,zA,zB,zC,zD,zE,zF,zG,zH,zI,reduceCtorEq]
      all_goals repeat'(first|(apply zP<;>(intro hg;(try simp only [push_cast]at hg)))|(refine⟨_,_,hPv,?_⟩;(try simp only [push_cast,↓zK,↓zJ,↓reduceIte,zA,zB,zC,zD,zE,zF,zG,zH,zI,reduceCtorEq]))|(refine⟨_,hWV,?_⟩;simp only [push_cast,↓zK,↓zJ,↓reduceIte,zA,zB,zC,zD,zE,zF,zG,zH,zI,reduceCtorEq])|apply And.intro|(intro hg;(try simp only [push_cast]at hg)))
      all_goals first|exact gA|(exact zb (by omega))|skip
      all_goals first|(refine hg _ _ ?_ ?_;kernel_rfl)|skip
      (try simp only [zR,zS,reduceIte,zF]);refine hK3 _ ?_
      refine Xq [.sl 2, .sl 22, .sl 2] 12 ?_
      simp only [push_cast,↓zK,↓zJ,↓reduceIte,zA,zB,zC,zD,zE,zF,zG,zH,zI,reduceCtorEq]
      refine zM zO zN [] rfl ?_
      all_goals simp only [push_cast,↓zK,↓zJ,↓reduceIte,zA,zB,zC,zD,zE,zF,zG,zH,zI,reduceCtorEq]
      all_goals repeat'(first|(apply zP<;>(intro hg;(try simp only [push_cast]at hg)))|apply And.intro|(intro hg;(try simp only [push_cast]at hg)))
      all_goals first|exact gA|(exact zb (by omega))|skip
      have hst:(stQ (usA a) (rcR ps) ⟨s,zT ps.length⟩ (i+1))=(zp (nxL ps (gq (stQ (usA a) (rcR ps) ⟨s,zT ps.length⟩ i) i).record (gq (stQ (usA a) (rcR ps) ⟨s,zT ps.length⟩ i) i).at_) (gl a.next (gq (stQ (usA a) (rcR ps) ⟨s,zT ps.length⟩ i) i).at_.toNat) (stQ (usA a) (rcR ps) ⟨s,zT ps.length⟩ i) (gl a.next (gq (stQ (usA a) (rcR ps) ⟨s,zT ps.length⟩ i) i).at_.toNat).length).1:=Vg (by omega)
      refine hL0 _ ⟨i+1,⟨by omega,(by rw [hst];omega),(by rw [hst];omega)⟩,by omega,?_⟩
      (try rw [List.take_of_length_le (l:=xn a (rcR ps) ⟨s,zT ps.length⟩ i) (by omega)])
      (try rw [List.take_of_length_le (l:=nxG a (rcR ps) ⟨s,zT ps.length⟩ i) (by omega)])
      (try rw [List.take_of_length_le (l:=prG a (rcR ps) (prR ps) ⟨s,zT ps.length⟩ i) (by omega)])
      rw [hst,zEX,zGo,zGr,show plQ (usA a) (rcR ps) ⟨s,zT ps.length⟩ i=(gq (stQ (usA a) (rcR ps) ⟨s,zT ps.length⟩ i) i)from rfl,show nxQ (usA a) (rcR ps) ⟨s,zT ps.length⟩ i=yJ (zp (nxL ps (gq (stQ (usA a) (rcR ps) ⟨s,zT ps.length⟩ i) i).record (gq (stQ (usA a) (rcR ps) ⟨s,zT ps.length⟩ i) i).at_) (gl a.next (gq (stQ (usA a) (rcR ps) ⟨s,zT ps.length⟩ i) i).at_.toNat) (stQ (usA a) (rcR ps) ⟨s,zT ps.length⟩ i) (gl a.next (gq (stQ (usA a) (rcR ps) ⟨s,zT ps.length⟩ i) i).at_.toNat).length).2 from rfl,show(prR ps) (gq (stQ (usA a) (rcR ps) ⟨s,zT ps.length⟩ i) i)=(qt ps (gq (stQ (usA a) (rcR ps) ⟨s,zT ps.length⟩ i) i).record (gq (stQ (usA a) (rcR ps) ⟨s,zT ps.length⟩ i) i).at_)from rfl]
      refine zY rfl ?_ ?_ ?_<;>simp only [zf,ze,push_cast,↓zK,↓zJ,↓reduceIte,zA,zB,zC,zD,zE,zF,zG,zH,zI,reduceCtorEq]
      all_goals first|rfl|exact⟨rfl,rfl,rfl,rfl⟩|(rw [List.length_append,List.length_append,List.length_append,ho1,ho2,ho3];rfl)|skip
  ·
   refine zk ?_
   (try simp only [zR,zS,reduceIte,zF]);refine hK1 _ ?_
   refine zL fun K hK=> ?_
   refine zM zO zN [] rfl ?_
   all_goals simp only [push_cast,↓zK,↓zJ,↓reduceIte,zA,zB,zC,zD,zE,zF,zG,zH,zI,reduceCtorEq]
   all_goals repeat'(first|(apply zP<;>(intro hg;(try simp only [push_cast]at hg)))|apply And.intro|(intro hg;(try simp only [push_cast]at hg)))
   all_goals first|exact gA|(exact zb (by omega))|skip
   all_goals first|(refine hK _ ?_;clear hK K)|(simp only [push_cast];done)
   refine zX ?_
   (try simp only [zR,zS])
   refine⟨Or.inl rfl,?_⟩
   simp only [yE,yj,push_cast,↓zK,↓zJ,↓reduceIte,zA,zB,zC,zD,zE,zF,zG,zH,zI,reduceCtorEq]
   refine⟨_,?_,hKB i hi (by omega) hil⟩
   simp only [push_cast,↓zK,↓zJ,↓reduceIte,zA,zB,zC,zD,zE,zF,zG,zH,zI,reduceCtorEq]
   all_goals first|exact⟨trivial,trivial⟩|skip
attribute [local irreducible] okQ stQ gmR plR QM
set_option maxRecDepth 20000 in
set_option maxHeartbeats 8000000 in
theorem zBl (a:Ar)(ha:a.Ln 1048576)(ps:List Pr)(hp:PLn 1048576 ps)(s:Int)(hC:rgC a ps s=true):Fn Try.prog tyT 61 [.agg (dAr a), .c (.lst 90 (dII (ilv ps))), .c (.int .i64 s)] [.agg (dPa (rgG a ps s)), .c (.lst 102 (yp (rgP a ps s))), .c (.bool (rgB a ps s))]:=by
 have hno:=ha.owner
 have hnn:=ha.next.1
 unfold LnI at hno
 have hli:=xx ps
 have hpl0:=hp.1
 obtain⟨h1,h2,h3⟩:=wE hC
 have hln:=yv h1
 unfold dAr dPa
 refine Kb (fn:=Try.f61) (rs:= [.cell 6 84, .tmp 7, .tmp 8]) zO zN Try.func61 (by kernel_rfl) rfl rfl (by rw [Try.ntmps61];exact Nat.le_of_ble_eq_true rfl) rfl (by simp only [szA,List.mem_cons,List.not_mem_nil,or_false,forall_eq_or_imp,forall_eq,VT.cells,szL];try decide) ?_
 rw [Try.ntmps61]
 simp only [push_cast,↓zK,↓zJ,↓reduceIte,zA,zB,zC,zD,zE,zF,zG,zH,zI,reduceCtorEq]
 refine zL fun K hK=> ?_
 refine zM zO zN [] rfl ?_
 simp only [push_cast,↓zK,↓zJ,↓reduceIte,zA,zB,zC,zD,zE,zF,zG,zH,zI,reduceCtorEq]
 repeat' apply And.intro
 all_goals try exact gB
 all_goals first|(refine hK _ ?_;clear hK K)|(simp only [push_cast];done)
 refine zL fun K hK=> ?_
 refine zM zO zN [] rfl ?_
 simp only [push_cast,↓zK,↓zJ,↓reduceIte,zA,zB,zC,zD,zE,zF,zG,zH,zI,reduceCtorEq]
 repeat' apply And.intro
 all_goals try exact gB
 all_goals first|(refine hK _ ?_;clear hK K)|(simp only [push_cast];done)
 refine zL fun K1 hK1=> ?_
 refine zL fun K hK=> ?_
 refine zM zO zN [] rfl ?_
 simp only [push_cast,↓zK,↓zJ,↓reduceIte,zA,zB,zC,zD,zE,zF,zG,zH,zI,reduceCtorEq]
 repeat' apply And.intro
 all_goals try exact gB
 all_goals first|(refine hK _ ?_;clear hK K)|(simp only [push_cast];done)
 refine zW ?_
 refine zi [9,10,15,16,17,18,19,20,21,22,23,24] [144,145] (fun(k:Nat)=> [(15, .int .i64 k),(9, .bp 9 0)]) (fun k=> [(9,[.int .i64 s, .sl 145 [] 0 k 2])]) (fun k=> [(145,⟨.ex,2,dI (zT k),none⟩)]) (fun k=>k≤ps.length) (fun k=>ps.length - k) 0 ?_ (by omega) ?_
 ·
  rw [show zT 0= []from rfl,show dI ([]:List Int)= []from rfl]
  refine zY rfl ?_ ?_ ?_<;>simp only [zf,ze,push_cast,↓zK,↓zJ,↓reduceIte,zA,zB,zC,zD,zE,zF,zG,zH,zI,reduceCtorEq]
 ·rintro k hk KL0 hL0
  have hio:=VG k
  simp only [push_cast,↓zK,↓zJ,↓reduceIte,zA,zB,zC,zD,zE,zF,zG,zH,zI,reduceCtorEq]
  refine zL fun K hK=> ?_
  refine zM zO zN [] rfl ?_
  simp only [push_cast,↓zK,↓zJ,↓reduceIte,zA,zB,zC,zD,zE,zF,zG,zH,zI,reduceCtorEq]
  repeat' apply And.intro
  all_goals try exact gB
  all_goals first|(refine hK _ ?_;clear hK K)|(simp only [push_cast];done)
  refine zL fun K2 hK2=> ?_
  refine zU rfl (fun hc=> ?_) (fun hc=> ?_)<;>(try simp only [push_cast]at hc)
  ·
   refine zV ?_
   (try simp only [zR,zS,reduceIte,zF]);refine hK2 _ ?_
   refine zL fun K3 hK3=> ?_
   refine zW ?_
   refine zL fun K hK=> ?_
   refine zM zO zN [] rfl ?_
   simp only [push_cast,↓zK,↓zJ,↓reduceIte,zA,zB,zC,zD,zE,zF,zG,zH,zI,reduceCtorEq]
   repeat' apply And.intro
   all_goals try exact gB
   all_goals first|(refine hK _ ?_;clear hK K)|(simp only [push_cast];done)
   refine zM zO zN [] rfl ?_
   simp only [push_cast,↓zK,↓zJ,↓reduceIte,zA,zB,zC,zD,zE,zF,zG,zH,zI,reduceCtorEq]
   repeat' apply And.intro
   all_goals try exact gB
   (try simp only [zR,zS,reduceIte,zF]);refine hK3 _ ?_
   refine Xq [.int .i64, .sl 2] 9 ?_
   simp only [push_cast,↓zK,↓zJ,↓reduceIte,zA,zB,zC,zD,zE,zF,zG,zH,zI,reduceCtorEq]
   refine zM zO zN [] rfl ?_
   simp only [push_cast,↓zK,↓zJ,↓reduceIte,zA,zB,zC,zD,zE,zF,zG,zH,zI,reduceCtorEq]
   repeat' apply And.intro
   all_goals try exact gB
   refine hL0 _ ⟨k+1,by omega,by omega,?_⟩
   (try rw [List.take_of_length_le (l:=zT k) (by omega)])
   rw [zEH]
   refine zY rfl ?_ ?_ ?_<;>simp only [zf,ze,push_cast,↓zK,↓zJ,↓reduceIte,zA,zB,zC,zD,zE,zF,zG,zH,zI,reduceCtorEq]
   all_goals first|rfl|skip
  ·
   refine zk ?_
   have hkk:k=ps.length:=by omega
   subst hkk
   (try simp only [zR,zS,reduceIte,zF]);refine hK1 _ ?_
   refine zL fun K hK=> ?_
   refine zBS 29 6 zO zN [] rfl ?_
   all_goals simp only [push_cast,↓zK,↓zJ,↓reduceIte,zA,zB,zC,zD,zE,zF,zG,zH,zI,reduceCtorEq]
   all_goals repeat'(first|(apply zP<;>(intro hg;(try simp only [push_cast]at hg)))|apply And.intro|(intro hg;(try simp only [push_cast]at hg)))
   all_goals try exact gA
   refine zDh (fn:=Try.f107) (rs:= [.cell 8 84, .tmp 9, .tmp 10]) rfl rfl (by decide) rfl Try.func107 (by kernel_rfl) rfl rfl (by rw [Try.ntmps107];exact Nat.le_of_ble_eq_true rfl) ?_
   rw [Try.ntmps107]
   simp only [push_cast,↓zK,↓zJ,↓reduceIte,zA,zB,zC,zD,zE,zF,zG,zH,zI,reduceCtorEq]
   refine zB2 ?_ (kM a ha ps hp h2 s ⟨h1,h3⟩ _ (fun hok9=> ?_) (fun i hi9 hn9 hil9=> ?_))
   ·refine zY rfl ?_ ?_ ?_<;>simp only [zf,ze,push_cast,↓zK,↓zJ,↓reduceIte,zA,zB,zC,zD,zE,zF,zG,zH,zI,reduceCtorEq]
    all_goals first|rfl|(rw [VG];done)|skip
   all_goals simp only [push_cast,↓zK,↓zJ,↓reduceIte,zA,zB,zC,zD,zE,zF,zG,zH,zI,reduceCtorEq]
   all_goals repeat'(first|(apply zP<;>(intro hg;(try simp only [push_cast]at hg)))|apply And.intro|(intro hg;(try simp only [push_cast]at hg)))
   all_goals try exact gA
   all_goals first|(refine hK _ ?_;clear hK K)|(simp only [push_cast];done)
   all_goals(
     refine zX ?_
     (try simp only [zR,zS])
     refine⟨Or.inl rfl,?_⟩
     simp only [zd,yE,yj,push_cast,↓zK,↓zJ,↓reduceIte,zA,zB,zC,zD,zE,zF,zG,zH,zI,reduceCtorEq]
     first
      |(
       obtain⟨e1,e2,e3⟩:=zEh (a:=a) (ps:=ps) (s:=s) hok9
       rw [e1,e2,e3]
       all_goals first|rfl|exact⟨rfl,rfl⟩|(simp [dI,dII,yp];done))
      |(
       obtain⟨e1,e2,e3⟩:=zCC (a:=a) (rc:=rcR ps) (pr:=prR ps) (p0:=⟨s,zT ps.length⟩) (i:=i) hC hi9 hn9 hil9
       unfold rgG rgP rgB
       rw [e1,e2,e3]
       simp only [gmA,vD,Qe,Yq]
       all_goals first|rfl|exact⟨⟨⟨rfl,rfl⟩,⟨rfl,rfl⟩,⟨rfl,rfl⟩⟩,rfl,rfl⟩|exact⟨rfl,rfl⟩|(simp;done)))
theorem zEB {xs:List Int}{x:Int}{j:Nat}(h:j<xs.length):gi (xs++ [x]) j=gi xs j:=by
 unfold gi
 rw [List.getD_eq_getElem?_getD,List.getD_eq_getElem?_getD,List.getElem?_append_left h]
theorem zEC (xs:List Int)(x:Int):gi (xs++ [x]) xs.length=x:=by
 unfold gi
 rw [List.getD_eq_getElem?_getD,List.getElem?_append_right (Nat.le_refl _)]
 simp
theorem zJK (ps:List Plc)(p:Plc):gq (ps++ [p]) ps.length=p:=by
 unfold gq
 rw [List.getD_eq_getElem?_getD,List.getElem?_append_right (Nat.le_refl _)]
 simp
theorem zJP {p:Plc→Bool}{ps:List Plc}(h: ¬ixQ p ps<0):(ixQ p ps).toNat<ps.length∧p (gq ps (ixQ p ps).toNat)=true:=by
 unfold ixQ at h⊢
 split
 ·rename_i h1
  rw [Int.toNat_natCast]
  refine⟨h1,?_⟩
  rw [←jB h1]
  exact List.findIdx_getElem (w:=h1)
 ·rename_i h1
  rw [if_neg h1]at h
  omega
theorem zGK {u:Int}{r:List Int}{p:Plc}(h:yg u r p=true):p=⟨u,r⟩:=by
 unfold yg at h
 rw [Bool.and_eq_true,decide_eq_true_eq,decide_eq_true_eq]at h
 obtain⟨a,b⟩:=p
 obtain⟨h1,h2⟩:=h
 simp only at h1 h2
 rw [h1,h2]
theorem jZ {r us:List Int}{ps:List Plc}: ∀{k:Nat},k≤us.length→∀j,j<k→(0≤gi (zp r us ps k).2 j∧gi (zp r us ps k).2 j<(zp r us ps k).1.length)∧gq (zp r us ps k).1 (gi (zp r us ps k).2 j).toNat=⟨gi us j,r⟩
 |0,_,j,hj=>absurd hj (Nat.not_lt_zero j)
 |k+1,hk,j,hj=>by
  have ih:=jZ (r:=r) (us:=us) (ps:=ps) (k:=k) (by omega)
  have hl:=qF (r:=r) (us:=us) (ps:=ps) (k:=k) (by omega)
  by_cases h2:ixQ (yg (gi us k) r) (zp r us ps k).1<0
  ·rw [vc (by omega) h2]
   simp only
   by_cases e:j=k
   ·subst e
    rw [show gi ((zp r us ps j).2++ [((zp r us ps j).1.length:Int)]) j=((zp r us ps j).1.length:Int)from by
     have :=zEC (zp r us ps j).2 ((zp r us ps j).1.length:Int)
     rw [hl.1]at this
     exact this]
    rw [List.length_append,List.length_singleton,Int.toNat_natCast,zJK]
    exact⟨by omega,rfl⟩
   ·have h3:=ih j (by omega)
    rw [zEB (by omega),List.length_append,List.length_singleton,zEE (by omega)]
    exact⟨by omega,h3.2⟩
  ·rw [wF (by omega) h2]
   simp only
   by_cases e:j=k
   ·subst e
    have h4:=zJP h2
    rw [show gi ((zp r us ps j).2++ [ixQ (yg (gi us j) r) (zp r us ps j).1]) j=ixQ (yg (gi us j) r) (zp r us ps j).1 from by
     have :=zEC (zp r us ps j).2 (ixQ (yg (gi us j) r) (zp r us ps j).1)
     rw [hl.1]at this
     exact this]
    exact⟨by omega,zGK h4.2⟩
   ·have h3:=ih j (by omega)
    rw [zEB (by omega)]
    exact h3
theorem Zy {r:List Int}{i:Nat}(h:i<r.length):gi r i=r[i]:=by
 unfold gi
 rw [List.getD_eq_getElem?_getD,List.getElem?_eq_getElem h]
 rfl
theorem zEk {r us:List Int}{ps:List Plc}(hu:us.Pairwise (· < ·)):(zp r us ps us.length).2.Nodup:=by
 have hl:=(qF (r:=r) (us:=us) (ps:=ps) (Nat.le_refl _)).1
 rw [List.Nodup,List.pairwise_iff_getElem]
 intro i j hi hj hij e
 rw [hl]at hi hj
 have h1:=(jZ (r:=r) (us:=us) (ps:=ps) (Nat.le_refl _) i hi).2
 have h2:=(jZ (r:=r) (us:=us) (ps:=ps) (Nat.le_refl _) j hj).2
 rw [Zy (by omega),e,←Zy (by omega),h2]at h1
 have h3:gi us j=gi us i:=congrArg Plc.at_ h1
 rw [Zy hi,Zy hj]at h3
 have :=(List.pairwise_iff_getElem.1 hu) i j hi hj hij
 omega
theorem zEp {xs:List Int}{n:Int}(h:xs.Pairwise (· < ·))(h2: ∀x∈xs,0≤x∧x<n):yx xs n=true:=by
 refine vp fun k hk=> ?_
 unfold qH
 have h3:=h2 (gi xs k) (by rw [Zy hk];exact List.getElem_mem hk)
 refine decide_eq_true ⟨h3.1,h3.2,?_⟩
 rcases Nat.eq_zero_or_pos k with e|e
 ·exact .inl e
 ·right
  rw [Zy hk,Zy (by omega)]
  exact(List.pairwise_iff_getElem.1 h) (k - 1) k (by omega) hk (by omega)
theorem zIF {xs:List Int}(h:xs.Nodup):(yJ xs).Pairwise (· < ·):=by
 have h1:=XJ xs
 have h2:(yJ xs).Nodup:=(wW xs).nodup_iff.2 h
 exact(h1.and h2).imp fun{a b} hab=>by
  have h3:=hab.1
  have h4:=hab.2
  omega
section
variable {a:Ar} {rc:Plc→List Int} {pr:Plc→Int} {p0:Plc} {V:List Int→Prop} {B:Nat}
theorem zIG (hok:okQ (usA a) rc p0=true){n:Nat}(hn:n=(stQ (usA a) rc p0 257).length):n≤256∧stQ (usA a) rc p0 n=stQ (usA a) rc p0 257∧1≤n∧∀j,j<n→j<(stQ (usA a) rc p0 j).length:=by
 have h1:n≤256:=by unfold okQ at hok;rw [decide_eq_true_eq]at hok;omega
 have h2:=zCY (a:=a) (rc:=rc) (p0:=p0) (n:=n) (by omega) (by omega)
 have h3:1≤(stQ (usA a) rc p0 257).length:=by
  have :=Vf (us:=usA a) (rc:=rc) (p0:=p0) (i:=0) (j:=257) (by omega)
  rwa [show stQ (usA a) rc p0 0= [p0]from by rw [stQ]]at this
 have h4:=Vf (us:=usA a) (rc:=rc) (p0:=p0) (i:=n) (j:=257) (by omega)
 have h5:=Vh (us:=usA a) (rc:=rc) (p0:=p0) (i:=n) (by omega) (j:=257) (by omega)
 exact⟨h1,h5.symm,by omega,h2⟩
theorem zED (ha:yc a=true)(h:Qp a rc p0 V B)(hok:okQ (usA a) rc p0=true)(hpr: ∀p:Plc,0≤p.at_→p.at_<(a.owner.length:Int)→V p.record→0≤pr p∧pr p≤40):qk (gmA a rc pr p0 (stQ (usA a) rc p0 257).length)=true:=by
 obtain⟨n,hn⟩: ∃n,n=(stQ (usA a) rc p0 257).length:=⟨_,rfl⟩
 rw [←hn]
 obtain⟨h1,h2,h3,h4⟩:=zIG hok hn
 have hl:=yv ha
 have hplq: ∀v,v<n→0≤(plQ (usA a) rc p0 v).at_∧(plQ (usA a) rc p0 v).at_<a.owner.length∧V (plQ (usA a) rc p0 v).record:=fun v hv=>YL ha h v _ (YH (h4 v hv))
 refine zBg (Xn ⟨?_,?_,?_⟩ fun v hv=> ?_) ?_ fun k hk=> ?_
 ·show 1≤(xn a rc p0 n).length;rw [vD];exact h3
 ·show(xn a rc p0 n).length≤256;rw [vD];exact h1
 ·show(nxG a rc p0 n).length=(xn a rc p0 n).length;rw [vD,Qe]
 ·have hv:v<n:=by have :v<(xn a rc p0 n).length:=hv;rwa [vD]at this
  have hp:=hplq v hv
  have ho:gi (xn a rc p0 n) v=gi a.owner (plQ (usA a) rc p0 v).at_.toNat:=by
   unfold xn
   rw [Zy (by simp;exact hv)]
   simp
  have hx:gl (nxG a rc p0 n) v=nxQ (usA a) rc p0 v:=by
   unfold nxG gl
   rw [List.getD_eq_getElem?_getD,List.getElem?_map,List.getElem?_range hv]
   rfl
  have hat:=xR ha (v:=(plQ (usA a) rc p0 v).at_.toNat) (by omega)
  have hnl:(nxQ (usA a) rc p0 v).length=(usA a (plQ (usA a) rc p0 v)).length:=by
   unfold nxQ
   rw [xh]
   exact(qF (Nat.le_refl _)).1
  unfold vK VV
  rw [Bool.and_eq_true,decide_eq_true_eq]
  show(0≤gi (xn a rc p0 n) v∧gi (xn a rc p0 n) v≤1∧1≤(gl (nxG a rc p0 n) v).length∧(gl (nxG a rc p0 n) v).length≤16)∧yx (gl (nxG a rc p0 n) v) (xn a rc p0 n).length=true
  rw [ho,hx,hnl,vD]
  refine⟨⟨hat.1,hat.2.1,hat.2.2.1,hat.2.2.2.1⟩,?_⟩
  refine zEp (zIF (zEk (zEq hat.2.2.2.2))) fun x hx=> ?_
  have hx2:=(wW _).mem_iff.1 hx
  obtain⟨j,hj,rfl⟩:=List.mem_iff_getElem.1 hx2
  have hlen:=(qF (r:=rc (plQ (usA a) rc p0 v)) (us:=usA a (plQ (usA a) rc p0 v)) (ps:=stQ (usA a) rc p0 v) (Nat.le_refl _)).1
  have hj2:j<(usA a (plQ (usA a) rc p0 v)).length:=Nat.lt_of_lt_of_eq hj hlen
  have h5:=(jZ (r:=rc (plQ (usA a) rc p0 v)) (us:=usA a (plQ (usA a) rc p0 v)) (ps:=stQ (usA a) rc p0 v) (Nat.le_refl _) j hj2).1
  rw [Zy (by omega)]at h5
  have h6:(stQ (usA a) rc p0 (v+1)).length≤n:=by
   have :=Vf (us:=usA a) (rc:=rc) (p0:=p0) (i:=v+1) (j:=n) (by omega)
   rw [h2]at this
   omega
  rw [Vg (h4 v hv)]at h6
  have h7:(zp (rc (plQ (usA a) rc p0 v)) (usA a (plQ (usA a) rc p0 v)) (stQ (usA a) rc p0 v) (usA a (plQ (usA a) rc p0 v)).length).1.length≤n:=h6
  exact⟨h5.1,Int.lt_of_lt_of_le h5.2 (by omega)⟩
 ·show(prG a rc pr p0 n).length=(xn a rc p0 n).length;rw [vD,Yq]
 ·have hk:k<n:=by have :k<(prG a rc pr p0 n).length:=hk;rwa [Yq]at this
  have hp:=hplq k hk
  have :gi (prG a rc pr p0 n) k=pr (plQ (usA a) rc p0 k):=by
   unfold prG
   rw [Zy (by simp;exact hk)]
   simp
  show 0≤gi (prG a rc pr p0 n) k∧gi (prG a rc pr p0 n) k≤40
  rw [this]
  exact hpr _ hp.1 hp.2.1 hp.2.2
end
theorem JC {r:List Int}{i:Nat}(h:i<r.length):gi r i=r[i]:=by
 unfold gi
 rw [List.getD_eq_getElem?_getD,List.getElem?_eq_getElem h]
 rfl
theorem uy {r:List Int}{x:Int}(h:x∈r): ∃i,i<r.length∧gi r i=x:=by
 obtain⟨i,hi,e⟩:=List.mem_iff_getElem.1 h
 exact⟨i,hi,by rw [JC hi];exact e⟩
theorem zGg {r:List Int}(h:r.Nodup){i j:Nat}(hi:i<r.length)(hj:j<r.length)(e:gi r i=gi r j):i=j:=by
 rw [JC hi,JC hj]at e
 have h2:=List.pairwise_iff_getElem.1 h
 rcases Nat.lt_trichotomy i j with h1|h1|h1
 ·exact absurd e (h2 i j hi hj h1)
 ·exact h1
 ·exact absurd e.symm (h2 j i hj hi h1)
theorem zH3 {q:Int→Bool}{r:List Int}{i:Nat}(hi:i<r.length)(hx:q (gi r i)=false): ∃j,i≤j∧j<(r.filter q++r.filter (fun x=> !q x)).length∧gi (r.filter q++r.filter (fun x=> !q x)) j=gi r i∧((∃m,i<m∧m<r.length∧q (gi r m)=true)→i<j):=by
 have hr:r=r.take i++gi r i::r.drop (i+1):=by
  rw [JC hi]
  rw [List.getElem_cons_drop,List.take_append_drop]
 have hsplit: ∀l:List Int,l.length=(l.filter q).length+(l.filter (fun x=> !q x)).length:=fun l=>by
  induction l with
  |nil=>rfl
  |cons y l ih=>
   cases hy:q y<;>simp only [List.filter_cons,hy,List.length_cons,ih]<;>simp<;>omega
 have hti:(r.take i).length=i:=by rw [List.length_take];omega
 have h1:=hsplit (r.take i)
 rw [hti]at h1
 have hp:(r.filter q).length=((r.take i).filter q).length+((r.drop (i+1)).filter q).length:=by
  conv=>lhs;rw [hr]
  rw [List.filter_append,List.filter_cons,if_neg (by rw [hx];decide),List.length_append]
 have hq:r.filter (fun x=> !q x)=(r.take i).filter (fun x=> !q x)++gi r i::(r.drop (i+1)).filter (fun x=> !q x):=by
  conv=>lhs;rw [hr]
  rw [List.filter_append,List.filter_cons,if_pos (by rw [hx];rfl)]
 refine⟨(r.filter q).length+((r.take i).filter (fun x=> !q x)).length,by omega,?_,?_,?_⟩
 ·rw [List.length_append,hq,List.length_append,List.length_cons]
  omega
 ·unfold gi
  rw [List.getD_eq_getElem?_getD,List.getElem?_append_right (by omega),Nat.add_sub_cancel_left,hq,List.getElem?_append_right (Nat.le_refl _),Nat.sub_self]
  rfl
 ·rintro⟨m,h2,h3,h4⟩
  have h5:gi r m∈(r.drop (i+1)).filter q:=by
   refine List.mem_filter.2 ⟨?_,h4⟩
   rw [JC h3]
   refine List.mem_iff_getElem.2 ⟨m - (i+1),by rw [List.length_drop];omega,?_⟩
   rw [List.getElem_drop]
   congr 1
   omega
  have h6:0<((r.drop (i+1)).filter q).length:=List.length_pos_of_mem h5
  omega
theorem zFa {r:List Int}(hn:r.Nodup){v:Int}(h:v∈r):r.filter (fun x=>decide (x=v))= [v]:=by
 induction r with
 |nil=>cases h
 |cons y r ih=>
  rw [List.nodup_cons]at hn
  by_cases e:y=v
  ·subst e
   rw [List.filter_cons,if_pos (decide_eq_true rfl)]
   congr 1
   rw [List.filter_eq_nil_iff]
   intro x hx h9
   rw [decide_eq_true_eq]at h9
   subst h9
   exact hn.1 hx
  ·rw [List.filter_cons,if_neg (by rw [decide_eq_true_eq];exact e)]
   rcases List.mem_cons.1 h with h9|h9
   ·exact absurd h9.symm e
   ·exact ih hn.2 h9
theorem zDH {r:List Int}(hn:r.Nodup)(v:Int):JJ r v=r.filter (fun x=>decide (x=v))++r.filter (fun x=> !decide (x=v)):=by
 cases hb:yD r v with
 |true=>
  rw [zES hb,zFa hn ((vX _ _).1 hb)]
  rfl
 |false=>
  have hnv: ¬v∈r:=fun h=>by rw [(vX _ _).2 h]at hb;cases hb
  rw [zFv hb,List.filter_eq_nil_iff.2 fun x hx h9=>by rw [decide_eq_true_eq]at h9;subst h9;exact hnv hx,List.nil_append]
  symm
  rw [List.filter_eq_self]
  intro x hx
  rw [Bool.not_eq_true',decide_eq_false_iff_not]
  rintro rfl
  exact hnv hx
structure xv (f:Fm)(L:Nat)(rec:Nat→List Int)(v:Nat→Int):Prop where
 pos:0<L
 ok: ∀t,visB f (rec t)=true
 next: ∀t,rec (t+1)=JJ (rec t) (v t)
 perR: ∀t,rec (t+L)=rec t
 perV: ∀t,v (t+L)=v t
section
variable {f:Fm} {L:Nat} {rec:Nat→List Int} {v:Nat→Int}
theorem xv.nd (h:xv f L rec v)(t:Nat):(rec t).Nodup:=(Wj (h.ok t)).2.2.2.1
theorem xv.mem (h:xv f L rec v)(t:Nat)(x:Int):x∈rec t↔x∈f.names:=(Wj (h.ok t)).2.2.2.2 x
theorem xv.len (h:xv f L rec v)(t:Nat):(rec t).length=f.names.length:=by
 have :=(Wj (h.ok t)).2.1
 rw [←this,xh]
theorem xv.up (h:xv f L rec v){t i:Nat}(hi:i<f.names.length)(hx: ¬gi (rec t) i=v t): ∃j,i≤j∧j<f.names.length∧gi (rec (t+1)) j=gi (rec t) i∧((∃m,i<m∧m<f.names.length∧gi (rec t) m=v t)→i<j):=by
 obtain⟨j,h1,h2,h3,h4⟩:=zH3 (q:=fun x=>decide (x=v t)) (r:=rec t) (i:=i) (by rw [h.len];exact hi) (decide_eq_false hx)
 rw [←zDH (h.nd t),←h.next]at h2 h3
 rw [h.len]at h2
 exact⟨j,h1,h2,h3,fun⟨m,m1,m2,m3⟩=>h4 ⟨m,m1,by rw [h.len];exact m2,decide_eq_true m3⟩⟩
theorem xv.mono (h:xv f L rec v){T i:Nat}(hi:i<f.names.length): ∀d,(∀s,s<d→¬gi (rec T) i=v (T+s))→∃j,i≤j∧j<f.names.length∧gi (rec (T+d)) j=gi (rec T) i
 |0,_=>⟨i,Nat.le_refl _,hi,rfl⟩
 |d+1,hg=>by
  obtain⟨j,h1,h2,h3⟩:=xv.mono h hi d fun s hs=>hg s (by omega)
  have hgd:=hg d (by omega)
  rw [←h3]at hgd
  obtain⟨m,k1,k2,k3,-⟩:=h.up h2 hgd
  exact⟨m,by omega,k2,k3.trans h3⟩
theorem xv.per (h:xv f L rec v)(t:Nat): ∀m,rec (t+m*L)=rec t∧v (t+m*L)=v t
 |0=>by simp
 |m+1=>by
  have ih:=xv.per h t m
  rw [show t+(m+1)*L=(t+m*L)+L from by rw [Nat.succ_mul];omega,h.perR,h.perV]
  exact ih
theorem xv.mod (h:xv f L rec v)(t:Nat):rec t=rec (t%L)∧v t=v (t%L):=by
 have :=h.per (t%L) (t / L)
 rw [show t%L+t / L*L=t from by rw [Nat.mul_comm];exact Nat.mod_add_div t L]at this
 exact this
theorem xv.never (h:xv f L rec v){t i:Nat}(hi:i<f.names.length)(hn: ∀s,¬gi (rec t) i=v s){m:Nat}(hm:m<f.names.length)(hg:gi (rec t) m=v t):m<i:=by
 rcases Nat.lt_trichotomy m i with h1|h1|h1
 ·exact h1
 ·subst h1;exact absurd hg (hn t)
 ·exfalso
  obtain⟨j,k1,k2,k3,k4⟩:=h.up (t:=t) hi (hn t)
  have k5:=k4 ⟨m,h1,hm,hg⟩
  obtain⟨q,q1,q2,q3⟩:=h.mono (T:=t+1) k2 (L - 1) fun s _=>by rw [k3];exact hn _
  rw [show t+1+(L - 1)=t+L from by have :=h.pos;omega,h.perR,k3]at q3
  have hl:=h.len t
  have :=zGg (h.nd t) (by omega) (by omega) q3
  omega
theorem Wb {r:List Int}{x:Int}(hn:r.Nodup){i:Nat}(hi:i<r.length)(e:gi r i=x):Yg f r x=2*i+(if QA f.sets (Zb f.names (r.take (i+1)))then 2 else 1):=
 zGA hi (fun j hj e9=>by have :=zGg hn (i:=j) (j:=i) (by omega) hi (e9.trans e.symm);omega) e
theorem xv.law (h:xv f L rec v){M:Int}(h1: ∃T,T<L∧Yg f (rec T) (v T)=M)(h2: ∀t,t<L→Yg f (rec t) (v t)≤M){met:List Int}(hm: ∀x,x∈f.names→(yD met x=true↔∃t,t<L∧v t=x)):
  M%2=0↔QA f.sets (Zb f.names met)=true:=by
 have hmax: ∀t,Yg f (rec t) (v t)≤M:=fun t=>by
  have :=h.mod t
  rw [this.1,this.2]
  exact h2 _ (Nat.mod_lt _ h.pos)
 obtain⟨T,hT,hM⟩:=h1
 have hnone: ∀t,yD (rec t) (v t)=false→Yg f (rec t) (v t)=if QA f.sets []then 0 else 1:=fun t e=>by unfold Yg;rw [e];rfl
 rcases Classical.em (∃t,yD (rec t) (v t)=true)with hex|hno
 ·-- a time at which a name is met,with the greatest priority
  have key: ∃T1,yD (rec T1) (v T1)=true∧Yg f (rec T1) (v T1)=M:=by
   cases hb:yD (rec T) (v T)with
   |true=>exact⟨T,hb,hM⟩
   |false=>
    obtain⟨t0,ht0⟩:=hex
    refine⟨t0,ht0,?_⟩
    obtain⟨i,hi,e⟩:=uy ((vX _ _).1 ht0)
    have e1:=Wb (f:=f) (h.nd t0) hi e
    have e2:=hnone T hb
    have e3:=hmax t0
    have e4:M≤1:=by rw [←hM,e2];split<;>omega
    have e5:(1:Int)≤(if QA f.sets (Zb f.names ((rec t0).take (i+1)))then 2 else 1):=by split<;>omega
    rw [e1]at e3⊢
    omega
  obtain⟨T1,ht1,hM1⟩:=key
  obtain⟨c,hc,hce⟩:=uy ((vX _ _).1 ht1)
  have hlc:=h.len T1
  have e1:=Wb (f:=f) (h.nd T1) hc hce
  have hset:Zb f.names ((rec T1).take (c+1))=Zb f.names met:=by
   unfold Zb
   refine List.filter_congr fun x hx=> ?_
   rw [Bool.eq_iff_iff,hm x hx,vX]
   constructor
   ·intro hxm
    obtain⟨p,hp,hpe⟩:=uy hxm
    rw [List.length_take]at hp
    have hpe2:gi (rec T1) p=x:=by
     rw [←hpe]
     unfold gi
     rw [List.getD_eq_getElem?_getD,List.getD_eq_getElem?_getD,List.getElem?_take,if_pos (by omega)]
    rcases Classical.em (∃s,v s=x)with⟨s,hs⟩|hv
    ·exact⟨s%L,Nat.mod_lt _ h.pos,by rw [←(h.mod s).2];exact hs⟩
    ·exfalso
     have :=h.never (t:=T1) (i:=p) (by omega) (fun s e=>hv ⟨s,by rw [←e];exact hpe2⟩) (m:=c) (by omega) hce
     omega
   ·rintro⟨s,hs,hse⟩
    obtain⟨p,hp,hpe⟩:=uy ((h.mem T1 x).2 hx)
    rcases Nat.lt_or_ge c p with hcp|hcp
    ·exfalso
     -- its first visit from T1 on
     have hexd: ∃d,v (T1+d)=x:=by
      have h9:=h.per s (T1+1)
      have h10:T1+1≤(T1+1)*L:=Nat.le_mul_of_pos_right _ h.pos
      refine⟨s+(T1+1)*L - T1,?_⟩
      rw [show T1+(s+(T1+1)*L - T1)=s+(T1+1)*L from by omega,h9.2]
      exact hse
     have hfst9: ∀n,(∃d,d<n∧v (T1+d)=x∧∀q,q<d→¬v (T1+q)=x)∨∀q,q<n→¬v (T1+q)=x:=by
      intro n
      induction n with
      |zero=>exact .inr fun q hq=>absurd hq (Nat.not_lt_zero q)
      |succ n ih=>
       rcases ih with⟨d,d1,d2,d3⟩|ih
       ·exact .inl ⟨d,by omega,d2,d3⟩
       ·by_cases hb:v (T1+n)=x
        ·exact .inl ⟨n,by omega,hb,ih⟩
        ·refine .inr fun q hq=> ?_
         rcases Nat.lt_or_ge q n with h9|h9
         ·exact ih q h9
         ·rw [show q=n by omega];exact hb
     obtain⟨d0,hd0⟩:=hexd
     rcases hfst9 (d0+1)with⟨d,-,d2,d3⟩|hk
     ·obtain⟨j,j1,j2,j3⟩:=h.mono (T:=T1) (i:=p) (by omega) d fun q hq=>by rw [hpe];exact fun e=>d3 q hq e.symm
      have hlj:=h.len (T1+d)
      have e5:=Wb (f:=f) (h.nd (T1+d)) (i:=j) (x:=v (T1+d)) (by omega) (by rw [j3,hpe,d2])
      have e6:=hmax (T1+d)
      rw [e5]at e6
      rw [←hM1,e1]at e6
      split at e6<;>split at e6<;>omega
     ·exact absurd hd0 (hk d0 (by omega))
    ·refine List.mem_iff_getElem.2 ⟨p,by rw [List.length_take];omega,?_⟩
     rw [List.getElem_take,←JC hp]
     exact hpe
  rw [←hset,←hM1,e1]
  cases QA f.sets (Zb f.names ((rec T1).take (c+1)))with
  |true=>simp only [if_true,iff_true];omega
  |false=>simp only [Bool.false_eq_true,if_false,iff_false];omega
 ·have hb: ∀t,yD (rec t) (v t)=false:=fun t=>by
   cases hb:yD (rec t) (v t)with
   |false=>rfl
   |true=>exact absurd ⟨t,hb⟩ hno
  have hset:Zb f.names met= []:=by
   unfold Zb
   rw [List.filter_eq_nil_iff]
   intro x hx hxm
   obtain⟨t,ht,e⟩:=(hm x hx).1 hxm
   have :=hb t
   rw [e,(vX _ _).2 ((h.mem t x).2 hx)]at this
   cases this
  rw [hset,←hM,hnone T (hb T)]
  cases QA f.sets []<;>simp
end
section
variable {a:Ar} {rc:Plc→List Int} {pr:Plc→Int} {p0:Plc} {V:List Int→Prop} {B:Nat}
abbrev plA (a:Ar)(rc:Plc→List Int)(p0:Plc):List Plc:=stQ (usA a) rc p0 257
end
section
variable {a:Ar} {ps:List Pr} {s:Int}
theorem uV (h:rgB a ps s=true):rgC a ps s=true∧okQ (usA a) (rcR ps) ⟨s,zT ps.length⟩=true:=by
 unfold rgB at h
 rw [Bool.and_eq_true]at h
 exact h
theorem zJl (h:rgB a ps s=true):rgG a ps s=gmA a (rcR ps) (prR ps) ⟨s,zT ps.length⟩ (plA a (rcR ps) ⟨s,zT ps.length⟩).length∧rgP a ps s=plA a (rcR ps) ⟨s,zT ps.length⟩:=by
 obtain⟨h1,h2⟩:=uV h
 unfold rgG rgP gmR plR
 rw [h1,h2,Bool.and_self,if_pos rfl,if_pos rfl]
 unfold plA
 exact⟨Eq.refl _,Eq.refl _⟩
theorem rg_pr {p:Plc}{k:Nat}(h:vO p.record (k:Int)=true):0≤prR ps p∧prR ps p≤40:=by
 have h1:=(qu h).1
 have h2:=zF9 ps p.record p.at_
 unfold prR
 omega
theorem Xg (h:rgB a ps s=true):qk (rgG a ps s)=true:=by
 obtain⟨h1,h2⟩:=uV h
 obtain⟨k1,k2,k3⟩:=wE h1
 rw [(zJl h).1]
 exact zED k1 k3 h2 fun p _ _ hp=>rg_pr hp
end
end Go.Proofs.Ythepmdkpbjfdcaa
