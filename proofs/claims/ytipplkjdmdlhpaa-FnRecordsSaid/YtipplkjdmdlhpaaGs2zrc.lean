/- Recorded: the program's side -/
import Derived.Test.YtipplkjdmdlhpaaB14zrc
import Derived.Test.YtipplkjdmdlhpaaGszrc
namespace Go.Proofs.Ytipplkjdmdlhpaa
open Nat renaming reduceMod → zA, reduceMul → zB, reduceDiv → zC, reduceAdd → zD, reduceSub → zE, reduceEqDiff → zF, reduceBEq → zG, reduceLT → zH, reduceLeDiff → zI
open Go.RowKit
set_option linter.unusedVariables false
set_option linter.unusedSimpArgs false
set_option maxRecDepth 20000 in
set_option maxHeartbeats 4000000 in
theorem Uy (ps:List Pr)(hp:PLn 1048576 ps)(p:Plc)(hv:qh p.record ps.length=true):FnX Try.prog tyT 69 [.v (.agg [.int .i64 p.at_,DI p.record]), .ref (.lst 2 [.lst 64 (dII (ilv ps))])] [.c (DI (nxL ps p.record p.at_))]:=by
 have hl:=hp.1
 have hli:=xY ps
 have hrf:=(xZ hv).1
 have hN:=zAt ps hp p.record p.at_ hv
 refine Jq (fn:=Try.f69) (rs:= [.tmp 3]) zQ zN Try.func69 (by kernel_rfl) rfl rfl (by rw [Try.ntmps69];exact Nat.le_of_ble_eq_true rfl) rfl (by simp only [szX,List.mem_cons,List.not_mem_nil,or_false,forall_eq_or_imp,forall_eq,XT.cells,VT.cells,szL];try decide) ?_
 rw [Try.ntmps69]
 simp only [push_cast,↓zK,↓zJ,↓reduceIte,zA,zB,zC,zD,zE,zF,zG,zH,zI,reduceCtorEq]
 refine zL fun K hK=> ?_
 refine zM zQ zN [] rfl ?_
 simp only [push_cast,↓zK,↓zJ,↓reduceIte,zA,zB,zC,zD,zE,zF,zG,zH,zI,reduceCtorEq]
 repeat' apply And.intro
 all_goals try exact gB
 all_goals first|(refine hK _ ?_;clear hK K)|(simp only [push_cast];done)
 refine zL fun K hK=> ?_
 refine zM zQ zN [] rfl ?_
 all_goals refine yC 6 fun K9 hK9=> ?_
 all_goals simp only [push_cast,↓zK,↓zJ,↓reduceIte,zA,zB,zC,zD,zE,zF,zG,zH,zI,reduceCtorEq]
 all_goals repeat'(first|(apply zO<;>(intro hg;(try simp only [push_cast]at hg)))|(refine⟨_,hN,?_⟩;simp only [push_cast,↓zK,↓zJ,↓reduceIte,zA,zB,zC,zD,zE,zF,zG,zH,zI,reduceCtorEq])|apply And.intro|(intro hg;(try simp only [push_cast]at hg)))
 all_goals try exact gA
 all_goals first|(refine hK9 _ ?_;clear hK9 K9)|(simp only [push_cast];done)
 all_goals simp only [push_cast,↓zK,↓zJ,↓reduceIte,zA,zB,zC,zD,zE,zF,zG,zH,zI,reduceCtorEq]
 all_goals repeat'(first|(apply zO<;>(intro hg;(try simp only [push_cast]at hg)))|(refine⟨_,hN,?_⟩;simp only [push_cast,↓zK,↓zJ,↓reduceIte,zA,zB,zC,zD,zE,zF,zG,zH,zI,reduceCtorEq])|apply And.intro|(intro hg;(try simp only [push_cast]at hg)))
 all_goals try exact gA
 all_goals first|(refine hK _ ?_;clear hK K)|(simp only [push_cast];done)
 refine zZ ?_
 (try simp only [zR,zT])
 refine⟨Or.inl rfl,?_⟩
 simp only [zf,yF,ye,push_cast,↓zK,↓zJ,↓reduceIte,zA,zB,zC,zD,zE,zF,zG,zH,zI,reduceCtorEq]
set_option maxRecDepth 20000 in
set_option maxHeartbeats 4000000 in
theorem Uz (ps:List Pr)(hp:PLn 1048576 ps)(p:Plc)(hv:qh p.record ps.length=true):FnX Try.prog tyT 71 [.v (.agg [.int .i64 p.at_,DI p.record]), .ref (.lst 2 [.lst 64 (dII (ilv ps))])] [.c (.int .i64 (xW ps p.record p.at_))]:=by
 have hl:=hp.1
 have hli:=xY ps
 have hrf:=(xZ hv).1
 have hN:=zA3 ps hp p.record p.at_ hv
 refine Jq (fn:=Try.f71) (rs:= [.tmp 3]) zQ zN Try.func71 (by kernel_rfl) rfl rfl (by rw [Try.ntmps71];exact Nat.le_of_ble_eq_true rfl) rfl (by simp only [szX,List.mem_cons,List.not_mem_nil,or_false,forall_eq_or_imp,forall_eq,XT.cells,VT.cells,szL];try decide) ?_
 rw [Try.ntmps71]
 simp only [push_cast,↓zK,↓zJ,↓reduceIte,zA,zB,zC,zD,zE,zF,zG,zH,zI,reduceCtorEq]
 refine zL fun K hK=> ?_
 refine zM zQ zN [] rfl ?_
 simp only [push_cast,↓zK,↓zJ,↓reduceIte,zA,zB,zC,zD,zE,zF,zG,zH,zI,reduceCtorEq]
 repeat' apply And.intro
 all_goals try exact gB
 all_goals first|(refine hK _ ?_;clear hK K)|(simp only [push_cast];done)
 refine zL fun K hK=> ?_
 refine zM zQ zN [] rfl ?_
 all_goals refine yC 6 fun K9 hK9=> ?_
 all_goals simp only [push_cast,↓zK,↓zJ,↓reduceIte,zA,zB,zC,zD,zE,zF,zG,zH,zI,reduceCtorEq]
 all_goals repeat'(first|(apply zO<;>(intro hg;(try simp only [push_cast]at hg)))|(refine⟨_,hN,?_⟩;simp only [push_cast,↓zK,↓zJ,↓reduceIte,zA,zB,zC,zD,zE,zF,zG,zH,zI,reduceCtorEq])|apply And.intro|(intro hg;(try simp only [push_cast]at hg)))
 all_goals try exact gA
 all_goals first|(refine hK9 _ ?_;clear hK9 K9)|(simp only [push_cast];done)
 all_goals simp only [push_cast,↓zK,↓zJ,↓reduceIte,zA,zB,zC,zD,zE,zF,zG,zH,zI,reduceCtorEq]
 all_goals repeat'(first|(apply zO<;>(intro hg;(try simp only [push_cast]at hg)))|(refine⟨_,hN,?_⟩;simp only [push_cast,↓zK,↓zJ,↓reduceIte,zA,zB,zC,zD,zE,zF,zG,zH,zI,reduceCtorEq])|apply And.intro|(intro hg;(try simp only [push_cast]at hg)))
 all_goals try exact gA
 all_goals first|(refine hK _ ?_;clear hK K)|(simp only [push_cast];done)
 refine zZ ?_
 (try simp only [zR,zT])
 refine⟨Or.inl rfl,?_⟩
 simp only [zf,yF,ye,push_cast,↓zK,↓zJ,↓reduceIte,zA,zB,zC,zD,zE,zF,zG,zH,zI,reduceCtorEq]
set_option maxRecDepth 20000 in
set_option maxHeartbeats 16000000 in
theorem jc (a:Ar)(ha:a.Ln 1048576)(ps:List Pr)(hp:PLn 1048576 ps)(hp4:ps.length≤4)(s:Int)(hPre:zv a=true∧XH a (rcR ps) ⟨s,zS ps.length⟩ (fun r=>qh r ps.length=true) 4)(K0:AV→List AV→List (Nat×zo)→Prop)(hKA:okQ (usA a) (rcR ps) ⟨s,zS ps.length⟩=false→K0 (.tup [.agg [.sl 128 [] 0 0 2, .sl 129 [] 0 0 27, .sl 130 [] 0 0 2], .sl 144 [] 0 0 72, .bool false]) [.sl 96 [] 0 0 2, .sl 97 [] 0 0 27, .sl 98 [] 0 0 2] [(128,⟨.ex,2,[],none⟩),(129,⟨.ex,27,[],none⟩),(130,⟨.ex,2,[],none⟩),(144,⟨.ex,72,[],none⟩)])(hKB: ∀i,i≤256→¬i<(stQ (usA a) (rcR ps) ⟨s,zS ps.length⟩ i).length→i≤(stQ (usA a) (rcR ps) ⟨s,zS ps.length⟩ i).length→K0 (.tup [.agg [.sl 128 [] 0 i 2, .sl 129 [] 0 i 27, .sl 130 [] 0 i 2], .sl 144 [] 0 (stQ (usA a) (rcR ps) ⟨s,zS ps.length⟩ i).length 72, .bool true]) [.sl 96 [] 0 0 2, .sl 97 [] 0 0 27, .sl 98 [] 0 0 2] [(128,⟨.ex,2,dI (xx a (rcR ps) ⟨s,zS ps.length⟩ i),none⟩),(129,⟨.ex,27,dII (nxG a (rcR ps) ⟨s,zS ps.length⟩ i),none⟩),(130,⟨.ex,2,dI (prG a (rcR ps) (prR ps) ⟨s,zS ps.length⟩ i),none⟩),(144,⟨.ex,72,yn (stQ (usA a) (rcR ps) ⟨s,zS ps.length⟩ i),none⟩)]):awp Try.prog tyT (Try.f58.body.getD .skip) (RetI tyT [.cell 8 36, .tmp 9, .tmp 10] K0) ⟨89,[(0, .agg [.sl 0 [] 0 a.owner.length 2, .sl 1 [] 0 a.next.length 27]),(1, .agg [.int .i64 s, .sl 145 [] 0 (zS ps.length).length 2]),(2, .fn 69 [.bp 4 0]),(3, .fn 71 [.bp 4 0])],[(1000000,[.sl 96 [] 0 0 2, .sl 97 [] 0 0 27, .sl 98 [] 0 0 2]),(4,[.sl 16 [] 0 ps.length 64])],[(0,⟨.sh,2,dI a.owner,none⟩),(1,⟨.sh,27,dII a.next,none⟩),(16,⟨.sh,64,dII (ilv ps),none⟩),(145,⟨.ex,2,dI (zS ps.length),none⟩)]⟩:=by
 have hno:=ha.owner
 have hnn:=ha.next.1
 have hrr: ∀v,(gl a.next v).length≤1048576:=fun v=>YB ha.next v
 unfold LnI at hno
 have h1:=hPre.1
 have h3:=hPre.2
 have hln:=yS h1
 refine zEv 4 2000 rfl rfl ?_
 simp only [push_cast,↓zK,↓zJ,↓reduceIte,zA,zB,zC,zD,zE,zF,zG,zH,zI,reduceCtorEq]
 refine zH6 rfl ?_
 (try simp only [push_cast,↓zK,↓zJ,↓reduceIte,zA,zB,zC,zD,zE,zF,zG,zH,zI,reduceCtorEq])
 refine zL fun K hK=> ?_
 refine zM zQ zN [] rfl ?_
 all_goals simp only [push_cast,↓zK,↓zJ,↓reduceIte,zA,zB,zC,zD,zE,zF,zG,zH,zI,reduceCtorEq]
 all_goals repeat'(first|(apply zO<;>(intro hg;(try simp only [push_cast]at hg)))|apply And.intro|(intro hg;(try simp only [push_cast]at hg)))
 all_goals first|exact gA|(exact zU (by omega))|skip
 all_goals first|(refine hK _ ?_;clear hK K)|(simp only [push_cast];done)
 refine zL fun K hK=> ?_
 refine ze false zQ zN ?_ rfl ?_
 ·kernel_rfl
 simp only [push_cast,↓zK,↓zJ,↓reduceIte,zA,zB,zC,zD,zE,zF,zG,zH,zI,reduceCtorEq]
 all_goals repeat'(first|(apply zO<;>(intro hg;(try simp only [push_cast]at hg)))|apply And.intro|(intro hg;(try simp only [push_cast]at hg)))
 all_goals first|exact gA|(exact zU (by omega))|skip
 all_goals first|(refine hK _ ?_;clear hK K)|(simp only [push_cast];done)
 refine zL fun K hK=> ?_
 refine zM zQ zN [] rfl ?_
 all_goals simp only [push_cast,↓zK,↓zJ,↓reduceIte,zA,zB,zC,zD,zE,zF,zG,zH,zI,reduceCtorEq]
 all_goals repeat'(first|(apply zO<;>(intro hg;(try simp only [push_cast]at hg)))|apply And.intro|(intro hg;(try simp only [push_cast]at hg)))
 all_goals first|exact gA|(exact zU (by omega))|skip
 all_goals first|(refine hK _ ?_;clear hK K)|(simp only [push_cast];done)
 refine zL fun K1 hK1=> ?_
 refine Zy 72 11 (Nat.le_of_ble_eq_true rfl) ?_
 simp only [push_cast,↓zK,↓zJ,↓reduceIte,zA,zB,zC,zD,zE,zF,zG,zH,zI,reduceCtorEq]
 refine zL fun K hK=> ?_
 refine zM zQ zN [] rfl ?_
 all_goals simp only [push_cast,↓zK,↓zJ,↓reduceIte,zA,zB,zC,zD,zE,zF,zG,zH,zI,reduceCtorEq]
 all_goals repeat'(first|(apply zO<;>(intro hg;(try simp only [push_cast]at hg)))|apply And.intro|(intro hg;(try simp only [push_cast]at hg)))
 all_goals first|exact gA|(exact zU (by omega))|skip
 all_goals first|(refine hK _ ?_;clear hK K)|(simp only [push_cast];done)
 refine zW ?_
 refine zk [9,10,11,12,13,14,15,16,18,19,23,24,25,26,27,28,29,30,31,32,33,34,35,36,37,38,39,40,41,42,43,44,45,46,47,48,49,50,51,52,53,54,55,56,57,58,59,60,61,62,63,64,65,66,67,68,69,70,71,72,73,74,75,76,77,78,79,80,81,82,83,84,85,86] [] (fun(i:Nat)=> [(13, .int .i64 i),(11, .sl 176 [] 0 (stQ (usA a) (rcR ps) ⟨s,zS ps.length⟩ i).length 72),(12, .bp 12 0)]) (fun i=> [(12,[.sl 192 [] 0 i 2, .sl 193 [] 0 i 27, .sl 194 [] 0 i 2])]) (fun i=> [(176,⟨.ex,72,yn (stQ (usA a) (rcR ps) ⟨s,zS ps.length⟩ i),none⟩),(192,⟨.ex,2,dI (xx a (rcR ps) ⟨s,zS ps.length⟩ i),none⟩),(193,⟨.ex,27,dII (nxG a (rcR ps) ⟨s,zS ps.length⟩ i),none⟩),(194,⟨.ex,2,dI (prG a (rcR ps) (prR ps) ⟨s,zS ps.length⟩ i),none⟩)]) (fun i=>i≤256∧i≤(stQ (usA a) (rcR ps) ⟨s,zS ps.length⟩ i).length∧(stQ (usA a) (rcR ps) ⟨s,zS ps.length⟩ i).length≤256) (fun i=>257 - i) 0 ?_ ⟨by omega,Nat.zero_le _,(by show 1≤256;decide)⟩ ?_
 ·
  rw [show stQ (usA a) (rcR ps) ⟨s,zS ps.length⟩ 0= [⟨s,zS ps.length⟩]from rfl,zD4,zF0,zF5]
  refine zb rfl ?_ ?_ ?_<;>simp only [zi,zh,push_cast,↓zK,↓zJ,↓reduceIte,zA,zB,zC,zD,zE,zF,zG,zH,zI,reduceCtorEq]
  all_goals first|rfl|exact⟨rfl,rfl,rfl,rfl⟩|skip
 ·rintro i ⟨hi,hil,hsl⟩ KL0 hL0
  have hall:=vS h1 h3 i
  have hq:QLn 1048576 (stQ (usA a) (rcR ps) ⟨s,zS ps.length⟩ i):=⟨by omega,fun p hp=>by have :=h3.small _ (hall p hp).2.2;omega⟩
  have hgl:=fun k=>WU hq k
  have ho1:=qb (a:=a) (rc:=(rcR ps)) (p0:=⟨s,zS ps.length⟩) i
  have ho2:=Xv (a:=a) (rc:=(rcR ps)) (p0:=⟨s,zS ps.length⟩) i
  have ho3:=YO (a:=a) (rc:=(rcR ps)) (pr:=(prR ps)) (p0:=⟨s,zS ps.length⟩) i
  simp only [push_cast,↓zK,↓zJ,↓reduceIte,zA,zB,zC,zD,zE,zF,zG,zH,zI,reduceCtorEq]
  refine zL fun K2 hK2=> ?_
  refine zL fun K hK=> ?_
  refine zM zQ zN [] rfl ?_
  all_goals simp only [push_cast,↓zK,↓zJ,↓reduceIte,zA,zB,zC,zD,zE,zF,zG,zH,zI,reduceCtorEq]
  all_goals repeat'(first|(apply zO<;>(intro hg;(try simp only [push_cast]at hg)))|apply And.intro|(intro hg;(try simp only [push_cast]at hg)))
  all_goals first|exact gA|(exact zU (by omega))|skip
  all_goals first|(refine hK _ ?_;clear hK K)|(simp only [push_cast];done)
  refine zV rfl (fun hc=> ?_) (fun hc=> ?_)<;>(try simp only [push_cast]at hc)
  ·
   refine zX ?_
   (try simp only [zR,zT,reduceIte,zF]);refine hK2 _ ?_
   refine zL fun K3 hK3=> ?_
   refine zW ?_
   have hP:=hall _ (vk (k:=i) (by omega))
   have hU:1≤(gl a.next (gq (stQ (usA a) (rcR ps) ⟨s,zS ps.length⟩ i) i).at_.toNat).length∧(gl a.next (gq (stQ (usA a) (rcR ps) ⟨s,zS ps.length⟩ i) i).at_.toNat).length≤16∧∀u∈(gl a.next (gq (stQ (usA a) (rcR ps) ⟨s,zS ps.length⟩ i) i).at_.toNat),0≤u∧u<(a.owner.length:Int):=Wl h1 ⟨hP.1,hP.2.1⟩
   have hpl:=h3.small _ hP.2.2
   have hnl:(nxL ps (gq (stQ (usA a) (rcR ps) ⟨s,zS ps.length⟩ i) i).record (gq (stQ (usA a) (rcR ps) ⟨s,zS ps.length⟩ i) i).at_).length≤4:=h3.small _ (h3.next _ hP.1 hP.2.1 hP.2.2)
   refine zL fun K hK=> ?_
   refine zM zQ zN [] rfl ?_
   all_goals simp only [push_cast,↓zK,↓zJ,↓reduceIte,zA,zB,zC,zD,zE,zF,zG,zH,zI,reduceCtorEq]
   all_goals repeat'(first|(apply zO<;>(intro hg;(try simp only [push_cast]at hg)))|apply And.intro|(intro hg;(try simp only [push_cast]at hg)))
   all_goals first|exact gA|(exact zU (by omega))|skip
   all_goals first|(refine hK _ ?_;clear hK K)|(simp only [push_cast];done)
   refine zL fun K hK=> ?_
   refine XN 35 2 rfl zQ zN [] rfl ?_
   simp only [push_cast,↓zK,↓zJ,↓reduceIte,zA,zB,zC,zD,zE,zF,zG,zH,zI,reduceCtorEq]
   repeat' apply And.intro
   all_goals(try simp only [push_cast,↓zK,↓zJ,↓reduceIte,zA,zB,zC,zD,zE,zF,zG,zH,zI,reduceCtorEq])
   all_goals repeat'(first|(apply zO<;>(intro hg;(try simp only [push_cast]at hg)))|(refine⟨_,Uy ps hp (gq (stQ (usA a) (rcR ps) ⟨s,zS ps.length⟩ i) i) hP.2.2,?_⟩;simp only [push_cast,↓zK,↓zJ,↓reduceIte,zA,zB,zC,zD,zE,zF,zG,zH,zI,reduceCtorEq])|apply And.intro|(intro hg;(try simp only [push_cast]at hg)))
   all_goals first|exact gA|(exact zU (by omega))|skip
   all_goals first|(refine hK _ ?_;clear hK K)|(simp only [push_cast];done)
   refine zL fun K hK=> ?_
   refine zM zQ zN [] rfl ?_
   all_goals simp only [push_cast,↓zK,↓zJ,↓reduceIte,zA,zB,zC,zD,zE,zF,zG,zH,zI,reduceCtorEq]
   all_goals repeat'(first|(apply zO<;>(intro hg;(try simp only [push_cast]at hg)))|apply And.intro|(intro hg;(try simp only [push_cast]at hg)))
   all_goals first|exact gA|(exact zU (by omega))|skip
   all_goals first|(refine hK _ ?_;clear hK K)|(simp only [push_cast];done)
   refine zL fun K4 hK4=> ?_
   refine zL fun K hK=> ?_
   refine zM zQ zN [] rfl ?_
   all_goals simp only [push_cast,↓zK,↓zJ,↓reduceIte,zA,zB,zC,zD,zE,zF,zG,zH,zI,reduceCtorEq]
   all_goals repeat'(first|(apply zO<;>(intro hg;(try simp only [push_cast]at hg)))|apply And.intro|(intro hg;(try simp only [push_cast]at hg)))
   all_goals first|exact gA|(exact zU (by omega))|skip
   all_goals first|(refine hK _ ?_;clear hK K)|(simp only [push_cast];done)
   refine zW ?_
   refine zk [11,14,16,18,19,24,29,31,32,33,34,44,45,46,47,48,49,50,51,52,53,54,55,56,57,58,59,60,61,62,63,64,65,66,67,68] [256,224,225] (fun(k:Nat)=> [(44, .int .i64 k),(11, .sl 176 [] 0 (zp (nxL ps (gq (stQ (usA a) (rcR ps) ⟨s,zS ps.length⟩ i) i).record (gq (stQ (usA a) (rcR ps) ⟨s,zS ps.length⟩ i) i).at_) (gl a.next (gq (stQ (usA a) (rcR ps) ⟨s,zS ps.length⟩ i) i).at_.toNat) (stQ (usA a) (rcR ps) ⟨s,zS ps.length⟩ i) k).1.length 72),(16, .sl 256 [] 0 k 2),(14, .bp 14 0)]) (fun k=> [(14,[.int .i64 (gq (stQ (usA a) (rcR ps) ⟨s,zS ps.length⟩ i) i).at_, .sl 176 [i*2+1] 0 (gq (stQ (usA a) (rcR ps) ⟨s,zS ps.length⟩ i) i).record.length 2])]) (fun k=> [(176,⟨.ex,72,yn (zp (nxL ps (gq (stQ (usA a) (rcR ps) ⟨s,zS ps.length⟩ i) i).record (gq (stQ (usA a) (rcR ps) ⟨s,zS ps.length⟩ i) i).at_) (gl a.next (gq (stQ (usA a) (rcR ps) ⟨s,zS ps.length⟩ i) i).at_.toNat) (stQ (usA a) (rcR ps) ⟨s,zS ps.length⟩ i) k).1,none⟩),(256,⟨.ex,2,dI (zp (nxL ps (gq (stQ (usA a) (rcR ps) ⟨s,zS ps.length⟩ i) i).record (gq (stQ (usA a) (rcR ps) ⟨s,zS ps.length⟩ i) i).at_) (gl a.next (gq (stQ (usA a) (rcR ps) ⟨s,zS ps.length⟩ i) i).at_.toNat) (stQ (usA a) (rcR ps) ⟨s,zS ps.length⟩ i) k).2,none⟩)]) (fun k=>k≤(gl a.next (gq (stQ (usA a) (rcR ps) ⟨s,zS ps.length⟩ i) i).at_.toNat).length) (fun k=>(gl a.next (gq (stQ (usA a) (rcR ps) ⟨s,zS ps.length⟩ i) i).at_.toNat).length - k) 0 ?_ (Nat.zero_le _) ?_
   ·
    rw [zAB]
    refine zb rfl ?_ ?_ ?_<;>simp only [zi,zh,push_cast,↓zK,↓zJ,↓reduceIte,zA,zB,zC,zD,zE,zF,zG,zH,zI,reduceCtorEq]
    all_goals first|rfl|skip
   ·rintro k hk KL1 hL1
    have hrl:=xy (r:=(nxL ps (gq (stQ (usA a) (rcR ps) ⟨s,zS ps.length⟩ i) i).record (gq (stQ (usA a) (rcR ps) ⟨s,zS ps.length⟩ i) i).at_)) (us:=(gl a.next (gq (stQ (usA a) (rcR ps) ⟨s,zS ps.length⟩ i) i).at_.toNat)) (ps:=(stQ (usA a) (rcR ps) ⟨s,zS ps.length⟩ i)) (k:=k) hk
    have hQr:QLn 1048576 (zp (nxL ps (gq (stQ (usA a) (rcR ps) ⟨s,zS ps.length⟩ i) i).record (gq (stQ (usA a) (rcR ps) ⟨s,zS ps.length⟩ i) i).at_) (gl a.next (gq (stQ (usA a) (rcR ps) ⟨s,zS ps.length⟩ i) i).at_.toNat) (stQ (usA a) (rcR ps) ⟨s,zS ps.length⟩ i) k).1:=⟨by omega,fun p hp=>by have :=h3.small _ (zD8 h1 h3 (i:=i) (k:=k) (by omega) hk p hp).2.2;omega⟩
    have hx:=zDs (yj (gi (gl a.next (gq (stQ (usA a) (rcR ps) ⟨s,zS ps.length⟩ i) i).at_.toNat) k) (nxL ps (gq (stQ (usA a) (rcR ps) ⟨s,zS ps.length⟩ i) i).record (gq (stQ (usA a) (rcR ps) ⟨s,zS ps.length⟩ i) i).at_)) (zp (nxL ps (gq (stQ (usA a) (rcR ps) ⟨s,zS ps.length⟩ i) i).record (gq (stQ (usA a) (rcR ps) ⟨s,zS ps.length⟩ i) i).at_) (gl a.next (gq (stQ (usA a) (rcR ps) ⟨s,zS ps.length⟩ i) i).at_.toNat) (stQ (usA a) (rcR ps) ⟨s,zS ps.length⟩ i) k).1
    simp only [push_cast,↓zK,↓zJ,↓reduceIte,zA,zB,zC,zD,zE,zF,zG,zH,zI,reduceCtorEq]
    refine zL fun K hK=> ?_
    refine zM zQ zN [] rfl ?_
    all_goals simp only [push_cast,↓zK,↓zJ,↓reduceIte,zA,zB,zC,zD,zE,zF,zG,zH,zI,reduceCtorEq]
    all_goals repeat'(first|(apply zO<;>(intro hg;(try simp only [push_cast]at hg)))|apply And.intro|(intro hg;(try simp only [push_cast]at hg)))
    all_goals first|exact gA|(exact zU (by omega))|skip
    all_goals first|(refine hK _ ?_;clear hK K)|(simp only [push_cast];done)
    refine zL fun K5 hK5=> ?_
    refine zV rfl (fun hc=> ?_) (fun hc=> ?_)<;>(try simp only [push_cast]at hc)
    ·
     refine zX ?_
     (try simp only [zR,zT,reduceIte,zF]);refine hK5 _ ?_
     refine zL fun K6 hK6=> ?_
     refine zW ?_
     refine zL fun K hK=> ?_
     refine zM zQ zN [] rfl ?_
     all_goals simp only [push_cast,↓zK,↓zJ,↓reduceIte,zA,zB,zC,zD,zE,zF,zG,zH,zI,reduceCtorEq]
     all_goals repeat'(first|(apply zO<;>(intro hg;(try simp only [push_cast]at hg)))|apply And.intro|(intro hg;(try simp only [push_cast]at hg)))
     all_goals first|exact gA|(exact zU (by omega))|skip
     all_goals first|(refine hK _ ?_;clear hK K)|(simp only [push_cast];done)
     refine zL fun K hK=> ?_
     refine zM zQ zN [] rfl ?_
     all_goals refine yC 4 fun K9 hK9=> ?_
     all_goals simp only [push_cast,↓zK,↓zJ,↓reduceIte,zA,zB,zC,zD,zE,zF,zG,zH,zI,reduceCtorEq]
     all_goals repeat'(first|(apply zO<;>(intro hg;(try simp only [push_cast]at hg)))|(refine⟨_,Kl (zp (nxL ps (gq (stQ (usA a) (rcR ps) ⟨s,zS ps.length⟩ i) i).record (gq (stQ (usA a) (rcR ps) ⟨s,zS ps.length⟩ i) i).at_) (gl a.next (gq (stQ (usA a) (rcR ps) ⟨s,zS ps.length⟩ i) i).at_.toNat) (stQ (usA a) (rcR ps) ⟨s,zS ps.length⟩ i) k).1 hQr (gi (gl a.next (gq (stQ (usA a) (rcR ps) ⟨s,zS ps.length⟩ i) i).at_.toNat) k) (nxL ps (gq (stQ (usA a) (rcR ps) ⟨s,zS ps.length⟩ i) i).record (gq (stQ (usA a) (rcR ps) ⟨s,zS ps.length⟩ i) i).at_) (by omega),?_⟩;simp only [push_cast,↓zK,↓zJ,↓reduceIte,zA,zB,zC,zD,zE,zF,zG,zH,zI,reduceCtorEq])|apply And.intro|(intro hg;(try simp only [push_cast]at hg)))
     all_goals first|exact gA|(exact zU (by omega))|skip
     all_goals first|(refine hK9 _ ?_;clear hK9 K9)|(simp only [push_cast];done)
     all_goals simp only [push_cast,↓zK,↓zJ,↓reduceIte,zA,zB,zC,zD,zE,zF,zG,zH,zI,reduceCtorEq]
     all_goals repeat'(first|(apply zO<;>(intro hg;(try simp only [push_cast]at hg)))|(refine⟨_,Kl (zp (nxL ps (gq (stQ (usA a) (rcR ps) ⟨s,zS ps.length⟩ i) i).record (gq (stQ (usA a) (rcR ps) ⟨s,zS ps.length⟩ i) i).at_) (gl a.next (gq (stQ (usA a) (rcR ps) ⟨s,zS ps.length⟩ i) i).at_.toNat) (stQ (usA a) (rcR ps) ⟨s,zS ps.length⟩ i) k).1 hQr (gi (gl a.next (gq (stQ (usA a) (rcR ps) ⟨s,zS ps.length⟩ i) i).at_.toNat) k) (nxL ps (gq (stQ (usA a) (rcR ps) ⟨s,zS ps.length⟩ i) i).record (gq (stQ (usA a) (rcR ps) ⟨s,zS ps.length⟩ i) i).at_) (by omega),?_⟩;simp only [push_cast,↓zK,↓zJ,↓reduceIte,zA,zB,zC,zD,zE,zF,zG,zH,zI,reduceCtorEq])|apply And.intro|(intro hg;(try simp only [push_cast]at hg)))
     all_goals first|exact gA|(exact zU (by omega))|skip
     all_goals first|(refine hK _ ?_;clear hK K)|(simp only [push_cast];done)
     refine zL fun K7 hK7=> ?_
     refine zL fun K hK=> ?_
     refine zM zQ zN [] rfl ?_
     all_goals simp only [push_cast,↓zK,↓zJ,↓reduceIte,zA,zB,zC,zD,zE,zF,zG,zH,zI,reduceCtorEq]
     all_goals repeat'(first|(apply zO<;>(intro hg;(try simp only [push_cast]at hg)))|apply And.intro|(intro hg;(try simp only [push_cast]at hg)))
     all_goals first|exact gA|(exact zU (by omega))|skip
     all_goals first|(refine hK _ ?_;clear hK K)|(simp only [push_cast];done)
     refine zV rfl (fun hc=> ?_) (fun hc=> ?_)<;>(try simp only [push_cast]at hc)
     ·
      refine zL fun K hK=> ?_
      refine zM zQ zN [] rfl ?_
      all_goals simp only [push_cast,↓zK,↓zJ,↓reduceIte,zA,zB,zC,zD,zE,zF,zG,zH,zI,reduceCtorEq]
      all_goals repeat'(first|(apply zO<;>(intro hg;(try simp only [push_cast]at hg)))|apply And.intro|(intro hg;(try simp only [push_cast]at hg)))
      all_goals first|exact gA|(exact zU (by omega))|skip
      all_goals first|(refine hK _ ?_;clear hK K)|(simp only [push_cast];done)
      refine Wu 7 14 1 1008 176 [176] zQ zN ?_ rfl rfl rfl fun K9 hK9=> ?_
      ·kernel_rfl
      all_goals simp only [push_cast,↓zK,↓zJ,↓reduceIte,zA,zB,zC,zD,zE,zF,zG,zH,zI,reduceCtorEq]
      all_goals repeat'(first|(apply zO<;>(intro hg;(try simp only [push_cast]at hg)))|apply And.intro|(intro hg;(try simp only [push_cast]at hg)))
      all_goals first|exact gA|(exact zU (by omega))|skip
      all_goals first|(refine hK9 _ ?_;clear hK9 K9)|(simp only [push_cast];done)
      all_goals simp only [push_cast,↓zK,↓zJ,↓reduceIte,zA,zB,zC,zD,zE,zF,zG,zH,zI,reduceCtorEq]
      all_goals repeat'(first|(apply zO<;>(intro hg;(try simp only [push_cast]at hg)))|apply And.intro|(intro hg;(try simp only [push_cast]at hg)))
      all_goals first|exact gA|(exact zU (by omega))|skip
      (try simp only [zR,zT,reduceIte,zF]);refine hK7 _ ?_
      refine zM zQ zN [] rfl ?_
      all_goals simp only [push_cast,↓zK,↓zJ,↓reduceIte,zA,zB,zC,zD,zE,zF,zG,zH,zI,reduceCtorEq]
      all_goals repeat'(first|(apply zO<;>(intro hg;(try simp only [push_cast]at hg)))|apply And.intro|(intro hg;(try simp only [push_cast]at hg)))
      all_goals first|exact gA|(exact zU (by omega))|skip
      (try simp only [zR,zT,reduceIte,zF]);refine hK6 _ ?_
      refine zM zQ zN [] rfl ?_
      all_goals simp only [push_cast,↓zK,↓zJ,↓reduceIte,zA,zB,zC,zD,zE,zF,zG,zH,zI,reduceCtorEq]
      all_goals repeat'(first|(apply zO<;>(intro hg;(try simp only [push_cast]at hg)))|apply And.intro|(intro hg;(try simp only [push_cast]at hg)))
      all_goals first|exact gA|(exact zU (by omega))|skip
      refine hL1 _ ⟨k+1,by omega,by omega,?_⟩
      (try rw [List.take_of_length_le (l:=(zp (nxL ps (gq (stQ (usA a) (rcR ps) ⟨s,zS ps.length⟩ i) i).record (gq (stQ (usA a) (rcR ps) ⟨s,zS ps.length⟩ i) i).at_) (gl a.next (gq (stQ (usA a) (rcR ps) ⟨s,zS ps.length⟩ i) i).at_.toNat) (stQ (usA a) (rcR ps) ⟨s,zS ps.length⟩ i) k).2) (by omega)])
      rw [qy (by omega) (by with_reducible assumption)]
      refine zb rfl ?_ ?_ ?_<;>simp only [zi,zh,push_cast,↓zK,↓zJ,↓reduceIte,zA,zB,zC,zD,zE,zF,zG,zH,zI,reduceCtorEq]
      all_goals first|rfl|(rw [List.length_append];rfl)|exact⟨rfl,rfl⟩|skip
     ·
      refine zX ?_
      (try simp only [zR,zT,reduceIte,zF]);refine hK7 _ ?_
      refine zM zQ zN [] rfl ?_
      all_goals simp only [push_cast,↓zK,↓zJ,↓reduceIte,zA,zB,zC,zD,zE,zF,zG,zH,zI,reduceCtorEq]
      all_goals repeat'(first|(apply zO<;>(intro hg;(try simp only [push_cast]at hg)))|apply And.intro|(intro hg;(try simp only [push_cast]at hg)))
      all_goals first|exact gA|(exact zU (by omega))|skip
      (try simp only [zR,zT,reduceIte,zF]);refine hK6 _ ?_
      refine zM zQ zN [] rfl ?_
      all_goals simp only [push_cast,↓zK,↓zJ,↓reduceIte,zA,zB,zC,zD,zE,zF,zG,zH,zI,reduceCtorEq]
      all_goals repeat'(first|(apply zO<;>(intro hg;(try simp only [push_cast]at hg)))|apply And.intro|(intro hg;(try simp only [push_cast]at hg)))
      all_goals first|exact gA|(exact zU (by omega))|skip
      refine hL1 _ ⟨k+1,by omega,by omega,?_⟩
      (try rw [List.take_of_length_le (l:=(zp (nxL ps (gq (stQ (usA a) (rcR ps) ⟨s,zS ps.length⟩ i) i).record (gq (stQ (usA a) (rcR ps) ⟨s,zS ps.length⟩ i) i).at_) (gl a.next (gq (stQ (usA a) (rcR ps) ⟨s,zS ps.length⟩ i) i).at_.toNat) (stQ (usA a) (rcR ps) ⟨s,zS ps.length⟩ i) k).2) (by omega)])
      rw [vN (by omega) (by with_reducible assumption)]
      refine zb rfl ?_ ?_ ?_<;>simp only [zi,zh,push_cast,↓zK,↓zJ,↓reduceIte,zA,zB,zC,zD,zE,zF,zG,zH,zI,reduceCtorEq]
      all_goals first|rfl|(rw [List.length_append];rfl)|exact⟨rfl,rfl⟩|skip
    ·
     refine zn ?_
     have hkk:k=(gl a.next (gq (stQ (usA a) (rcR ps) ⟨s,zS ps.length⟩ i) i).at_.toNat).length:=by omega
     subst hkk
     (try simp only [zR,zT,reduceIte,zF]);refine hK4 _ ?_
     refine zL fun K8 hK8=> ?_
     have hgi:gq (zp (nxL ps (gq (stQ (usA a) (rcR ps) ⟨s,zS ps.length⟩ i) i).record (gq (stQ (usA a) (rcR ps) ⟨s,zS ps.length⟩ i) i).at_) (gl a.next (gq (stQ (usA a) (rcR ps) ⟨s,zS ps.length⟩ i) i).at_.toNat) (stQ (usA a) (rcR ps) ⟨s,zS ps.length⟩ i) (gl a.next (gq (stQ (usA a) (rcR ps) ⟨s,zS ps.length⟩ i) i).at_.toNat).length).1 i=(gq (stQ (usA a) (rcR ps) ⟨s,zS ps.length⟩ i) i):=Wh (by omega) (Nat.le_refl _)
     have hrl9:=xy (r:=(nxL ps (gq (stQ (usA a) (rcR ps) ⟨s,zS ps.length⟩ i) i).record (gq (stQ (usA a) (rcR ps) ⟨s,zS ps.length⟩ i) i).at_)) (us:=(gl a.next (gq (stQ (usA a) (rcR ps) ⟨s,zS ps.length⟩ i) i).at_.toNat)) (ps:=(stQ (usA a) (rcR ps) ⟨s,zS ps.length⟩ i)) (k:=(gl a.next (gq (stQ (usA a) (rcR ps) ⟨s,zS ps.length⟩ i) i).at_.toNat).length) (Nat.le_refl _)
     refine zL fun K hK=> ?_
     refine zM zQ zN [] rfl ?_
     all_goals simp only [push_cast,↓zK,↓zJ,↓reduceIte,zA,zB,zC,zD,zE,zF,zG,zH,zI,reduceCtorEq]
     all_goals repeat'(first|(apply zO<;>(intro hg;(try simp only [push_cast]at hg)))|apply And.intro|(intro hg;(try simp only [push_cast]at hg)))
     all_goals first|exact gA|(exact zU (by omega))|skip
     all_goals first|(refine hK _ ?_;clear hK K)|(simp only [push_cast];done)
     refine zV rfl (fun hc=> ?_) (fun hc=> ?_)<;>(try simp only [push_cast]at hc)
     ·
      refine zL fun K hK=> ?_
      refine zM zQ zN [] rfl ?_
      all_goals simp only [push_cast,↓zK,↓zJ,↓reduceIte,zA,zB,zC,zD,zE,zF,zG,zH,zI,reduceCtorEq]
      all_goals repeat'(first|(apply zO<;>(intro hg;(try simp only [push_cast]at hg)))|apply And.intro|(intro hg;(try simp only [push_cast]at hg)))
      all_goals first|exact gA|(exact zU (by omega))|skip
      all_goals first|(refine hK _ ?_;clear hK K)|(simp only [push_cast];done)
      refine zZ ?_
      (try simp only [zR,zT])
      refine⟨Or.inl rfl,?_⟩
      simp only [yF,ye,push_cast,↓zK,↓zJ,↓reduceIte,zA,zB,zC,zD,zE,zF,zG,zH,zI,reduceCtorEq]
      refine⟨_,?_,hKA (zD3 hi (by rw [Zb (by omega)];show 256<(zp (nxL ps (gq (stQ (usA a) (rcR ps) ⟨s,zS ps.length⟩ i) i).record (gq (stQ (usA a) (rcR ps) ⟨s,zS ps.length⟩ i) i).at_) (gl a.next (gq (stQ (usA a) (rcR ps) ⟨s,zS ps.length⟩ i) i).at_.toNat) (stQ (usA a) (rcR ps) ⟨s,zS ps.length⟩ i) (gl a.next (gq (stQ (usA a) (rcR ps) ⟨s,zS ps.length⟩ i) i).at_.toNat).length).1.length;omega))⟩
      simp only [push_cast,↓zK,↓zJ,↓reduceIte,zA,zB,zC,zD,zE,zF,zG,zH,zI,reduceCtorEq]
      all_goals first|exact⟨trivial,trivial⟩|skip
     ·
      refine zX ?_
      (try simp only [zR,zT,reduceIte,zF]);refine hK8 _ ?_
      have hSo:FnG Try.prog tyT 79 [.c (DI (List.take (gl a.next (gq (stQ (usA a) (rcR ps) ⟨s,zS ps.length⟩ i) i).at_.toNat).length (zp (nxL ps (gq (stQ (usA a) (rcR ps) ⟨s,zS ps.length⟩ i) i).record (gq (stQ (usA a) (rcR ps) ⟨s,zS ps.length⟩ i) i).at_) (gl a.next (gq (stQ (usA a) (rcR ps) ⟨s,zS ps.length⟩ i) i).at_.toNat) (stQ (usA a) (rcR ps) ⟨s,zS ps.length⟩ i) (gl a.next (gq (stQ (usA a) (rcR ps) ⟨s,zS ps.length⟩ i) i).at_.toNat).length).2))] [0] [(0,2,dI (yH (zp (nxL ps (gq (stQ (usA a) (rcR ps) ⟨s,zS ps.length⟩ i) i).record (gq (stQ (usA a) (rcR ps) ⟨s,zS ps.length⟩ i) i).at_) (gl a.next (gq (stQ (usA a) (rcR ps) ⟨s,zS ps.length⟩ i) i).at_.toNat) (stQ (usA a) (rcR ps) ⟨s,zS ps.length⟩ i) (gl a.next (gq (stQ (usA a) (rcR ps) ⟨s,zS ps.length⟩ i) i).at_.toNat).length).2))] []:=by rw [List.take_of_length_le (l:=(zp (nxL ps (gq (stQ (usA a) (rcR ps) ⟨s,zS ps.length⟩ i) i).record (gq (stQ (usA a) (rcR ps) ⟨s,zS ps.length⟩ i) i).at_) (gl a.next (gq (stQ (usA a) (rcR ps) ⟨s,zS ps.length⟩ i) i).at_.toNat) (stQ (usA a) (rcR ps) ⟨s,zS ps.length⟩ i) (gl a.next (gq (stQ (usA a) (rcR ps) ⟨s,zS ps.length⟩ i) i).at_.toNat).length).2) (by omega)];exact zBK _ (by omega)
      refine zL fun K hK=> ?_
      refine uz 74 [0] [(0,2,dI (yH (zp (nxL ps (gq (stQ (usA a) (rcR ps) ⟨s,zS ps.length⟩ i) i).record (gq (stQ (usA a) (rcR ps) ⟨s,zS ps.length⟩ i) i).at_) (gl a.next (gq (stQ (usA a) (rcR ps) ⟨s,zS ps.length⟩ i) i).at_.toNat) (stQ (usA a) (rcR ps) ⟨s,zS ps.length⟩ i) (gl a.next (gq (stQ (usA a) (rcR ps) ⟨s,zS ps.length⟩ i) i).at_.toNat).length).2))] zQ zN [] rfl ?_
      simp only [push_cast,↓zK,↓zJ,↓reduceIte,zA,zB,zC,zD,zE,zF,zG,zH,zI,reduceCtorEq]
      all_goals repeat'(first|(apply zO<;>(intro hg;(try simp only [push_cast]at hg)))|(refine⟨_,hSo,?_⟩;simp only [push_cast,↓zK,↓zJ,↓reduceIte,zA,zB,zC,zD,zE,zF,zG,zH,zI,reduceCtorEq])|apply And.intro|(intro hg;(try simp only [push_cast]at hg)))
      all_goals first|exact gA|(exact zU (by omega))|skip
      all_goals first|(refine hK _ ?_;clear hK K)|(simp only [push_cast];done)
      have hPv:FnX Try.prog tyT 71 [.v (.agg [.int .i64 (gq (stQ (usA a) (rcR ps) ⟨s,zS ps.length⟩ i) i).at_,DI (List.take (gq (stQ (usA a) (rcR ps) ⟨s,zS ps.length⟩ i) i).record.length (gq (zp (nxL ps (gq (stQ (usA a) (rcR ps) ⟨s,zS ps.length⟩ i) i).record (gq (stQ (usA a) (rcR ps) ⟨s,zS ps.length⟩ i) i).at_) (gl a.next (gq (stQ (usA a) (rcR ps) ⟨s,zS ps.length⟩ i) i).at_.toNat) (stQ (usA a) (rcR ps) ⟨s,zS ps.length⟩ i) (gl a.next (gq (stQ (usA a) (rcR ps) ⟨s,zS ps.length⟩ i) i).at_.toNat).length).1 i).record)]), .ref (.lst 2 [.lst 64 (dII (ilv ps))])] [.c (.int .i64 ((xW ps (gq (stQ (usA a) (rcR ps) ⟨s,zS ps.length⟩ i) i).record (gq (stQ (usA a) (rcR ps) ⟨s,zS ps.length⟩ i) i).at_)))]:=by rw [hgi,List.take_length];exact Uz ps hp (gq (stQ (usA a) (rcR ps) ⟨s,zS ps.length⟩ i) i) hP.2.2
      have hsl9:=xH (zp (nxL ps (gq (stQ (usA a) (rcR ps) ⟨s,zS ps.length⟩ i) i).record (gq (stQ (usA a) (rcR ps) ⟨s,zS ps.length⟩ i) i).at_) (gl a.next (gq (stQ (usA a) (rcR ps) ⟨s,zS ps.length⟩ i) i).at_.toNat) (stQ (usA a) (rcR ps) ⟨s,zS ps.length⟩ i) (gl a.next (gq (stQ (usA a) (rcR ps) ⟨s,zS ps.length⟩ i) i).at_.toNat).length).2
      have hWV:FnG Try.prog tyT 85 [.agg [DI (List.take i (xx a (rcR ps) ⟨s,zS ps.length⟩ i)),DII (List.take i (nxG a (rcR ps) ⟨s,zS ps.length⟩ i)),DI (List.take i (prG a (rcR ps) (prR ps) ⟨s,zS ps.length⟩ i))], .c (.int .i64 (gi a.owner (gq (stQ (usA a) (rcR ps) ⟨s,zS ps.length⟩ i) i).at_.toNat)), .c (.int .i64 ((xW ps (gq (stQ (usA a) (rcR ps) ⟨s,zS ps.length⟩ i) i).record (gq (stQ (usA a) (rcR ps) ⟨s,zS ps.length⟩ i) i).at_))), .c (DI (List.take (gl a.next (gq (stQ (usA a) (rcR ps) ⟨s,zS ps.length⟩ i) i).at_.toNat).length (yH (zp (nxL ps (gq (stQ (usA a) (rcR ps) ⟨s,zS ps.length⟩ i) i).record (gq (stQ (usA a) (rcR ps) ⟨s,zS ps.length⟩ i) i).at_) (gl a.next (gq (stQ (usA a) (rcR ps) ⟨s,zS ps.length⟩ i) i).at_.toNat) (stQ (usA a) (rcR ps) ⟨s,zS ps.length⟩ i) (gl a.next (gq (stQ (usA a) (rcR ps) ⟨s,zS ps.length⟩ i) i).at_.toNat).length).2)))] [0,1,2,48] [] [.agg [DI (xx a (rcR ps) ⟨s,zS ps.length⟩ i++ [gi a.owner (gq (stQ (usA a) (rcR ps) ⟨s,zS ps.length⟩ i) i).at_.toNat]),DII (nxG a (rcR ps) ⟨s,zS ps.length⟩ i++ [yH (zp (nxL ps (gq (stQ (usA a) (rcR ps) ⟨s,zS ps.length⟩ i) i).record (gq (stQ (usA a) (rcR ps) ⟨s,zS ps.length⟩ i) i).at_) (gl a.next (gq (stQ (usA a) (rcR ps) ⟨s,zS ps.length⟩ i) i).at_.toNat) (stQ (usA a) (rcR ps) ⟨s,zS ps.length⟩ i) (gl a.next (gq (stQ (usA a) (rcR ps) ⟨s,zS ps.length⟩ i) i).at_.toNat).length).2]),DI (prG a (rcR ps) (prR ps) ⟨s,zS ps.length⟩ i++ [(xW ps (gq (stQ (usA a) (rcR ps) ⟨s,zS ps.length⟩ i) i).record (gq (stQ (usA a) (rcR ps) ⟨s,zS ps.length⟩ i) i).at_)])]]:=by rw [List.take_of_length_le (l:=xx a (rcR ps) ⟨s,zS ps.length⟩ i) (by omega),List.take_of_length_le (l:=nxG a (rcR ps) ⟨s,zS ps.length⟩ i) (by omega),List.take_of_length_le (l:=prG a (rcR ps) (prR ps) ⟨s,zS ps.length⟩ i) (by omega),List.take_of_length_le (l:=yH (zp (nxL ps (gq (stQ (usA a) (rcR ps) ⟨s,zS ps.length⟩ i) i).record (gq (stQ (usA a) (rcR ps) ⟨s,zS ps.length⟩ i) i).at_) (gl a.next (gq (stQ (usA a) (rcR ps) ⟨s,zS ps.length⟩ i) i).at_.toNat) (stQ (usA a) (rcR ps) ⟨s,zS ps.length⟩ i) (gl a.next (gq (stQ (usA a) (rcR ps) ⟨s,zS ps.length⟩ i) i).at_.toNat).length).2) (by omega)];exact kw (gmA a (rcR ps) (prR ps) ⟨s,zS ps.length⟩ i) ⟨⟨by show(xx _ _ _ i).length≤_;omega,⟨by show(nxG _ _ _ i).length≤_;omega,fun r hr=>by have :=zGx h1 h3 (n:=i) (zFe hil) r hr;omega⟩⟩,by show(prG _ _ _ _ i).length≤_;omega⟩ (gi a.owner (gq (stQ (usA a) (rcR ps) ⟨s,zS ps.length⟩ i) i).at_.toNat) ((xW ps (gq (stQ (usA a) (rcR ps) ⟨s,zS ps.length⟩ i) i).record (gq (stQ (usA a) (rcR ps) ⟨s,zS ps.length⟩ i) i).at_)) (yH (zp (nxL ps (gq (stQ (usA a) (rcR ps) ⟨s,zS ps.length⟩ i) i).record (gq (stQ (usA a) (rcR ps) ⟨s,zS ps.length⟩ i) i).at_) (gl a.next (gq (stQ (usA a) (rcR ps) ⟨s,zS ps.length⟩ i) i).at_.toNat) (stQ (usA a) (rcR ps) ⟨s,zS ps.length⟩ i) (gl a.next (gq (stQ (usA a) (rcR ps) ⟨s,zS ps.length⟩ i) i).at_.toNat).length).2) (by omega)
      refine zAf false false 11 (uB Try.prog tyT 2) [84] (fun _ _ _ h=>zDE rfl h) (Xi Try.prog tyT [0,1,2,48] []) (fun _ _ _ _ _ _ _ _ _ h1 h2 h3 h4=>VB h1 h2 h3 h4) zQ zN xC ?_ rfl rfl ?_
      ·kernel_rfl
      intro E hE
      all_goals simp only [push_cast,↓zK,↓zJ,↓reduceIte,zA,zB,zC,zD,zE,zF,zG,zH,zI,reduceCtorEq]
      all_goals repeat'(first|(apply zO<;>(intro hg;(try simp only [push_cast]at hg)))|(refine⟨_,_,hPv,?_⟩;(try simp only [push_cast,↓zK,↓zJ,↓reduceIte,zA,zB,zC,zD,zE,zF,zG,zH,zI,reduceCtorEq]))|(refine⟨_,hWV,?_⟩;simp only [push_cast,↓zK,↓zJ,↓reduceIte,zA,zB,zC,zD,zE,zF,zG,zH,zI,reduceCtorEq])|apply And.intro|(intro hg;(try simp only [push_cast]at hg)))
      all_goals first|exact gA|(refine hE _ _ ?_ rfl ?_;kernel_rfl)|(exact zU (by omega))|skip
      all_goals clear hE E
      all_goals simp only [push_cast,↓zK,↓zJ,↓reduceIte,zA,zB,zC,zD,zE,zF,zG,zH,zI,reduceCtorEq]
      all_goals repeat'(first|(apply zO<;>(intro hg;(try simp only [push_cast]at hg)))|(refine⟨_,_,hPv,?_⟩;(try simp only [push_cast,↓zK,↓zJ,↓reduceIte,zA,zB,zC,zD,zE,zF,zG,zH,zI,reduceCtorEq]))|(refine⟨_,hWV,?_⟩;simp only [push_cast,↓zK,↓zJ,↓reduceIte,zA,zB,zC,zD,zE,zF,zG,zH,zI,reduceCtorEq])|apply And.intro|(intro hg;(try simp only [push_cast]at hg)))
      all_goals first|exact gA|(exact zU (by omega))|skip
      all_goals first|(refine hg _ _ ?_ ?_;kernel_rfl)|skip
      (try simp only [zR,zT,reduceIte,zF]);refine hK3 _ ?_
      refine xz [.sl 2, .sl 27, .sl 2] 12 ?_
      simp only [push_cast,↓zK,↓zJ,↓reduceIte,zA,zB,zC,zD,zE,zF,zG,zH,zI,reduceCtorEq]
      refine zM zQ zN [] rfl ?_
      all_goals simp only [push_cast,↓zK,↓zJ,↓reduceIte,zA,zB,zC,zD,zE,zF,zG,zH,zI,reduceCtorEq]
      all_goals repeat'(first|(apply zO<;>(intro hg;(try simp only [push_cast]at hg)))|apply And.intro|(intro hg;(try simp only [push_cast]at hg)))
      all_goals first|exact gA|(exact zU (by omega))|skip
      have hst:(stQ (usA a) (rcR ps) ⟨s,zS ps.length⟩ (i+1))=(zp (nxL ps (gq (stQ (usA a) (rcR ps) ⟨s,zS ps.length⟩ i) i).record (gq (stQ (usA a) (rcR ps) ⟨s,zS ps.length⟩ i) i).at_) (gl a.next (gq (stQ (usA a) (rcR ps) ⟨s,zS ps.length⟩ i) i).at_.toNat) (stQ (usA a) (rcR ps) ⟨s,zS ps.length⟩ i) (gl a.next (gq (stQ (usA a) (rcR ps) ⟨s,zS ps.length⟩ i) i).at_.toNat).length).1:=Zb (by omega)
      refine hL0 _ ⟨i+1,⟨by omega,(by rw [hst];omega),(by rw [hst];omega)⟩,by omega,?_⟩
      (try rw [List.take_of_length_le (l:=xx a (rcR ps) ⟨s,zS ps.length⟩ i) (by omega)])
      (try rw [List.take_of_length_le (l:=nxG a (rcR ps) ⟨s,zS ps.length⟩ i) (by omega)])
      (try rw [List.take_of_length_le (l:=prG a (rcR ps) (prR ps) ⟨s,zS ps.length⟩ i) (by omega)])
      rw [hst,zD5,zF1,zF6,show plQ (usA a) (rcR ps) ⟨s,zS ps.length⟩ i=(gq (stQ (usA a) (rcR ps) ⟨s,zS ps.length⟩ i) i)from rfl,show nxQ (usA a) (rcR ps) ⟨s,zS ps.length⟩ i=yH (zp (nxL ps (gq (stQ (usA a) (rcR ps) ⟨s,zS ps.length⟩ i) i).record (gq (stQ (usA a) (rcR ps) ⟨s,zS ps.length⟩ i) i).at_) (gl a.next (gq (stQ (usA a) (rcR ps) ⟨s,zS ps.length⟩ i) i).at_.toNat) (stQ (usA a) (rcR ps) ⟨s,zS ps.length⟩ i) (gl a.next (gq (stQ (usA a) (rcR ps) ⟨s,zS ps.length⟩ i) i).at_.toNat).length).2 from rfl,show(prR ps) (gq (stQ (usA a) (rcR ps) ⟨s,zS ps.length⟩ i) i)=(xW ps (gq (stQ (usA a) (rcR ps) ⟨s,zS ps.length⟩ i) i).record (gq (stQ (usA a) (rcR ps) ⟨s,zS ps.length⟩ i) i).at_)from rfl]
      refine zb rfl ?_ ?_ ?_<;>simp only [zi,zh,push_cast,↓zK,↓zJ,↓reduceIte,zA,zB,zC,zD,zE,zF,zG,zH,zI,reduceCtorEq]
      all_goals first|rfl|exact⟨rfl,rfl,rfl,rfl⟩|(rw [List.length_append,List.length_append,List.length_append,ho1,ho2,ho3];rfl)|skip
  ·
   refine zn ?_
   (try simp only [zR,zT,reduceIte,zF]);refine hK1 _ ?_
   refine zL fun K hK=> ?_
   refine zM zQ zN [] rfl ?_
   all_goals simp only [push_cast,↓zK,↓zJ,↓reduceIte,zA,zB,zC,zD,zE,zF,zG,zH,zI,reduceCtorEq]
   all_goals repeat'(first|(apply zO<;>(intro hg;(try simp only [push_cast]at hg)))|apply And.intro|(intro hg;(try simp only [push_cast]at hg)))
   all_goals first|exact gA|(exact zU (by omega))|skip
   all_goals first|(refine hK _ ?_;clear hK K)|(simp only [push_cast];done)
   refine zZ ?_
   (try simp only [zR,zT])
   refine⟨Or.inl rfl,?_⟩
   simp only [yF,ye,push_cast,↓zK,↓zJ,↓reduceIte,zA,zB,zC,zD,zE,zF,zG,zH,zI,reduceCtorEq]
   refine⟨_,?_,hKB i hi (by omega) hil⟩
   simp only [push_cast,↓zK,↓zJ,↓reduceIte,zA,zB,zC,zD,zE,zF,zG,zH,zI,reduceCtorEq]
   all_goals first|exact⟨trivial,trivial⟩|skip
attribute [local irreducible] okQ stQ gmR plR Xj
set_option maxRecDepth 20000 in
set_option maxHeartbeats 8000000 in
theorem zA4 (a:Ar)(ha:a.Ln 1048576)(ps:List Pr)(hp:PLn 1048576 ps)(s:Int)(hC:rgC a ps s=true):Fn Try.prog tyT 31 [.agg (dAr a), .c (.lst 64 (dII (ilv ps))), .c (.int .i64 s)] [.agg (dPa (rgG a ps s)), .c (.lst 72 (yn (rgP a ps s))), .c (.bool (rgB a ps s))]:=by
 have hno:=ha.owner
 have hnn:=ha.next.1
 unfold LnI at hno
 have hli:=xY ps
 have hpl0:=hp.1
 obtain⟨h1,h2,h3⟩:=qU hC
 have hln:=yS h1
 unfold dAr dPa
 refine Xe (fn:=Try.f31) (rs:= [.cell 6 36, .tmp 7, .tmp 8]) zQ zN Try.func31 (by kernel_rfl) rfl rfl (by rw [Try.ntmps31];exact Nat.le_of_ble_eq_true rfl) rfl (by simp only [szA,List.mem_cons,List.not_mem_nil,or_false,forall_eq_or_imp,forall_eq,VT.cells,szL];try decide) ?_
 rw [Try.ntmps31]
 simp only [push_cast,↓zK,↓zJ,↓reduceIte,zA,zB,zC,zD,zE,zF,zG,zH,zI,reduceCtorEq]
 refine zL fun K hK=> ?_
 refine zM zQ zN [] rfl ?_
 simp only [push_cast,↓zK,↓zJ,↓reduceIte,zA,zB,zC,zD,zE,zF,zG,zH,zI,reduceCtorEq]
 repeat' apply And.intro
 all_goals try exact gB
 all_goals first|(refine hK _ ?_;clear hK K)|(simp only [push_cast];done)
 refine zL fun K hK=> ?_
 refine zM zQ zN [] rfl ?_
 simp only [push_cast,↓zK,↓zJ,↓reduceIte,zA,zB,zC,zD,zE,zF,zG,zH,zI,reduceCtorEq]
 repeat' apply And.intro
 all_goals try exact gB
 all_goals first|(refine hK _ ?_;clear hK K)|(simp only [push_cast];done)
 refine zL fun K1 hK1=> ?_
 refine zL fun K hK=> ?_
 refine zM zQ zN [] rfl ?_
 simp only [push_cast,↓zK,↓zJ,↓reduceIte,zA,zB,zC,zD,zE,zF,zG,zH,zI,reduceCtorEq]
 repeat' apply And.intro
 all_goals try exact gB
 all_goals first|(refine hK _ ?_;clear hK K)|(simp only [push_cast];done)
 refine zW ?_
 refine zk [9,10,15,16,17,18,19,20,21,22,23,24] [144,145] (fun(k:Nat)=> [(15, .int .i64 k),(9, .bp 9 0)]) (fun k=> [(9,[.int .i64 s, .sl 145 [] 0 k 2])]) (fun k=> [(145,⟨.ex,2,dI (zS k),none⟩)]) (fun k=>k≤ps.length) (fun k=>ps.length - k) 0 ?_ (by omega) ?_
 ·
  rw [show zS 0= []from rfl,show dI ([]:List Int)= []from rfl]
  refine zb rfl ?_ ?_ ?_<;>simp only [zi,zh,push_cast,↓zK,↓zJ,↓reduceIte,zA,zB,zC,zD,zE,zF,zG,zH,zI,reduceCtorEq]
 ·rintro k hk KL0 hL0
  have hio:=QX k
  simp only [push_cast,↓zK,↓zJ,↓reduceIte,zA,zB,zC,zD,zE,zF,zG,zH,zI,reduceCtorEq]
  refine zL fun K hK=> ?_
  refine zM zQ zN [] rfl ?_
  simp only [push_cast,↓zK,↓zJ,↓reduceIte,zA,zB,zC,zD,zE,zF,zG,zH,zI,reduceCtorEq]
  repeat' apply And.intro
  all_goals try exact gB
  all_goals first|(refine hK _ ?_;clear hK K)|(simp only [push_cast];done)
  refine zL fun K2 hK2=> ?_
  refine zV rfl (fun hc=> ?_) (fun hc=> ?_)<;>(try simp only [push_cast]at hc)
  ·
   refine zX ?_
   (try simp only [zR,zT,reduceIte,zF]);refine hK2 _ ?_
   refine zL fun K3 hK3=> ?_
   refine zW ?_
   refine zL fun K hK=> ?_
   refine zM zQ zN [] rfl ?_
   simp only [push_cast,↓zK,↓zJ,↓reduceIte,zA,zB,zC,zD,zE,zF,zG,zH,zI,reduceCtorEq]
   repeat' apply And.intro
   all_goals try exact gB
   all_goals first|(refine hK _ ?_;clear hK K)|(simp only [push_cast];done)
   refine zM zQ zN [] rfl ?_
   simp only [push_cast,↓zK,↓zJ,↓reduceIte,zA,zB,zC,zD,zE,zF,zG,zH,zI,reduceCtorEq]
   repeat' apply And.intro
   all_goals try exact gB
   (try simp only [zR,zT,reduceIte,zF]);refine hK3 _ ?_
   refine xz [.int .i64, .sl 2] 9 ?_
   simp only [push_cast,↓zK,↓zJ,↓reduceIte,zA,zB,zC,zD,zE,zF,zG,zH,zI,reduceCtorEq]
   refine zM zQ zN [] rfl ?_
   simp only [push_cast,↓zK,↓zJ,↓reduceIte,zA,zB,zC,zD,zE,zF,zG,zH,zI,reduceCtorEq]
   repeat' apply And.intro
   all_goals try exact gB
   refine hL0 _ ⟨k+1,by omega,by omega,?_⟩
   (try rw [List.take_of_length_le (l:=zS k) (by omega)])
   rw [zDr]
   refine zb rfl ?_ ?_ ?_<;>simp only [zi,zh,push_cast,↓zK,↓zJ,↓reduceIte,zA,zB,zC,zD,zE,zF,zG,zH,zI,reduceCtorEq]
   all_goals first|rfl|skip
  ·
   refine zn ?_
   have hkk:k=ps.length:=by omega
   subst hkk
   (try simp only [zR,zT,reduceIte,zF]);refine hK1 _ ?_
   refine zL fun K hK=> ?_
   refine zAh 29 6 zQ zN [] rfl ?_
   all_goals simp only [push_cast,↓zK,↓zJ,↓reduceIte,zA,zB,zC,zD,zE,zF,zG,zH,zI,reduceCtorEq]
   all_goals repeat'(first|(apply zO<;>(intro hg;(try simp only [push_cast]at hg)))|apply And.intro|(intro hg;(try simp only [push_cast]at hg)))
   all_goals try exact gA
   refine zDB (fn:=Try.f58) (rs:= [.cell 8 36, .tmp 9, .tmp 10]) rfl rfl (by decide) rfl Try.func58 (by kernel_rfl) rfl rfl (by rw [Try.ntmps58];exact Nat.le_of_ble_eq_true rfl) ?_
   rw [Try.ntmps58]
   simp only [push_cast,↓zK,↓zJ,↓reduceIte,zA,zB,zC,zD,zE,zF,zG,zH,zI,reduceCtorEq]
   refine zGP ?_ (jc a ha ps hp h2 s ⟨h1,h3⟩ _ (fun hok9=> ?_) (fun i hi9 hn9 hil9=> ?_))
   ·refine zb rfl ?_ ?_ ?_<;>simp only [zi,zh,push_cast,↓zK,↓zJ,↓reduceIte,zA,zB,zC,zD,zE,zF,zG,zH,zI,reduceCtorEq]
    all_goals first|rfl|(rw [QX];done)|skip
   all_goals simp only [push_cast,↓zK,↓zJ,↓reduceIte,zA,zB,zC,zD,zE,zF,zG,zH,zI,reduceCtorEq]
   all_goals repeat'(first|(apply zO<;>(intro hg;(try simp only [push_cast]at hg)))|apply And.intro|(intro hg;(try simp only [push_cast]at hg)))
   all_goals try exact gA
   all_goals first|(refine hK _ ?_;clear hK K)|(simp only [push_cast];done)
   all_goals(
     refine zZ ?_
     (try simp only [zR,zT])
     refine⟨Or.inl rfl,?_⟩
     simp only [zf,yF,ye,push_cast,↓zK,↓zJ,↓reduceIte,zA,zB,zC,zD,zE,zF,zG,zH,zI,reduceCtorEq]
     first
      |(
       obtain⟨e1,e2,e3⟩:=zEI (a:=a) (ps:=ps) (s:=s) hok9
       rw [e1,e2,e3]
       all_goals first|rfl|exact⟨rfl,rfl⟩|(simp [dI,dII,yn];done))
      |(
       obtain⟨e1,e2,e3⟩:=zBZ (a:=a) (rc:=rcR ps) (pr:=prR ps) (p0:=⟨s,zS ps.length⟩) (i:=i) hC hi9 hn9 hil9
       unfold rgG rgP rgB
       rw [e1,e2,e3]
       simp only [gmA,qb,Xv,YO]
       all_goals first|rfl|exact⟨⟨⟨rfl,rfl⟩,⟨rfl,rfl⟩,⟨rfl,rfl⟩⟩,rfl,rfl⟩|exact⟨rfl,rfl⟩|(simp;done)))
set_option maxRecDepth 20000 in
set_option maxHeartbeats 8000000 in
theorem uW (a:Ar)(ha:a.Ln 1048576)(ps:List Pr)(hp:PLn 1048576 ps)(s:Int):Fn Try.prog tyT 10 [.agg (dAr a), .c (.lst 64 (dII (ilv ps))), .c (.int .i64 s)] [.agg (dPa (rgG a ps s)), .c (.lst 72 (yn (rgP a ps s))), .c (.bool (rgB a ps s))]:=by
 have hno:=ha.owner
 have hnn:=ha.next.1
 unfold LnI at hno
 have hA:=XF a ha
 have hF:=Wo ps hp (a.owner.length:Int)
 have hSz:=jh a
 have hV:=Vh a s
 unfold dAr at hA hSz hV
 have hpl0:=hp.1
 have hli:=xY ps
 have hRl:=zBr (a:=a) (ps:=ps) (s:=s)
 have hQl:=zG6 (a:=a) (ps:=ps) (s:=s)
 unfold dAr dPa
 refine Xe (fn:=Try.f10) (rs:= [.cell 6 36, .tmp 7, .tmp 8]) zQ zN Try.func10 (by kernel_rfl) rfl rfl (by rw [Try.ntmps10];exact Nat.le_of_ble_eq_true rfl) rfl (by simp only [szA,List.mem_cons,List.not_mem_nil,or_false,forall_eq_or_imp,forall_eq,VT.cells,szL];try decide) ?_
 rw [Try.ntmps10]
 simp only [push_cast,↓zK,↓zJ,↓reduceIte,zA,zB,zC,zD,zE,zF,zG,zH,zI,reduceCtorEq]
 refine zL fun K hK=> ?_
 refine zM zQ zN [] rfl ?_
 simp only [push_cast,↓zK,↓zJ,↓reduceIte,zA,zB,zC,zD,zE,zF,zG,zH,zI,reduceCtorEq]
 repeat' apply And.intro
 all_goals try exact gB
 all_goals first|(refine hK _ ?_;clear hK K)|(simp only [push_cast];done)
 refine zL fun K1 hK1=> ?_
 refine zL fun K hK=> ?_
 refine ze false zQ zN ?_ rfl ?_
 ·kernel_rfl
 all_goals refine zj 2 fun K9 hK9=> ?_
 all_goals simp only [push_cast,↓zK,↓zJ,↓reduceIte,zA,zB,zC,zD,zE,zF,zG,zH,zI,reduceCtorEq]
 all_goals repeat'(first|(apply zO<;>(intro hg;(try simp only [push_cast]at hg)))|(refine⟨_,hA,?_⟩;simp only [push_cast,↓zK,↓zJ,↓reduceIte,zA,zB,zC,zD,zE,zF,zG,zH,zI,reduceCtorEq])|apply And.intro|(intro hg;(try simp only [push_cast]at hg)))
 all_goals try exact gA
 all_goals first|(refine hK9 _ ?_;clear hK9 K9)|(simp only [push_cast];done)
 all_goals refine zj 5 fun K9 hK9=> ?_
 all_goals simp only [push_cast,↓zK,↓zJ,↓reduceIte,zA,zB,zC,zD,zE,zF,zG,zH,zI,reduceCtorEq]
 all_goals repeat'(first|(apply zO<;>(intro hg;(try simp only [push_cast]at hg)))|(refine⟨_,hSz,?_⟩;simp only [push_cast,↓zK,↓zJ,↓reduceIte,zA,zB,zC,zD,zE,zF,zG,zH,zI,reduceCtorEq])|apply And.intro|(intro hg;(try simp only [push_cast]at hg)))
 all_goals try exact gA
 all_goals first|(refine hK9 _ ?_;clear hK9 K9)|(simp only [push_cast];done)
 all_goals refine zj 1 fun K9 hK9=> ?_
 all_goals simp only [push_cast,↓zK,↓zJ,↓reduceIte,zA,zB,zC,zD,zE,zF,zG,zH,zI,reduceCtorEq]
 all_goals repeat'(first|(apply zO<;>(intro hg;(try simp only [push_cast]at hg)))|(refine⟨_,hF,?_⟩;simp only [push_cast,↓zK,↓zJ,↓reduceIte,zA,zB,zC,zD,zE,zF,zG,zH,zI,reduceCtorEq])|apply And.intro|(intro hg;(try simp only [push_cast]at hg)))
 all_goals try exact gA
 all_goals first|(refine hK9 _ ?_;clear hK9 K9)|(simp only [push_cast];done)
 all_goals refine zj 6 fun K9 hK9=> ?_
 all_goals simp only [push_cast,↓zK,↓zJ,↓reduceIte,zA,zB,zC,zD,zE,zF,zG,zH,zI,reduceCtorEq]
 all_goals repeat'(first|(apply zO<;>(intro hg;(try simp only [push_cast]at hg)))|(refine⟨_,hV,?_⟩;simp only [push_cast,↓zK,↓zJ,↓reduceIte,zA,zB,zC,zD,zE,zF,zG,zH,zI,reduceCtorEq])|apply And.intro|(intro hg;(try simp only [push_cast]at hg)))
 all_goals try exact gA
 all_goals first|(refine hK9 _ ?_;clear hK9 K9)|(simp only [push_cast];done)
 all_goals simp only [push_cast,↓zK,↓zJ,↓reduceIte,zA,zB,zC,zD,zE,zF,zG,zH,zI,reduceCtorEq]
 all_goals repeat'(first|(apply zO<;>(intro hg;(try simp only [push_cast]at hg)))|(refine⟨_,hA,?_⟩;simp only [push_cast,↓zK,↓zJ,↓reduceIte,zA,zB,zC,zD,zE,zF,zG,zH,zI,reduceCtorEq])|(refine⟨_,hSz,?_⟩;simp only [push_cast,↓zK,↓zJ,↓reduceIte,zA,zB,zC,zD,zE,zF,zG,zH,zI,reduceCtorEq])|(refine⟨_,hF,?_⟩;simp only [push_cast,↓zK,↓zJ,↓reduceIte,zA,zB,zC,zD,zE,zF,zG,zH,zI,reduceCtorEq])|(refine⟨_,hV,?_⟩;simp only [push_cast,↓zK,↓zJ,↓reduceIte,zA,zB,zC,zD,zE,zF,zG,zH,zI,reduceCtorEq])|apply And.intro|(intro hg;(try simp only [push_cast]at hg)))
 all_goals try exact gA
 all_goals first|(refine hK _ ?_;clear hK K)|(simp only [push_cast];done)
 all_goals refine zV rfl (fun hc=> ?_) (fun hc=> ?_)
 all_goals(first|(cases hc;done)|skip)
 all_goals(try simp only [push_cast]at hc)
 all_goals try(
   refine zL fun K hK=> ?_
   refine zM zQ zN [] rfl ?_
   simp only [push_cast,↓zK,↓zJ,↓reduceIte,zA,zB,zC,zD,zE,zF,zG,zH,zI,reduceCtorEq]
   repeat' apply And.intro
   all_goals try exact gB
   all_goals first|(refine hK _ ?_;clear hK K)|(simp only [push_cast];done)
   refine zZ ?_
   (try simp only [zR,zT])
   refine⟨Or.inl rfl,?_⟩
   simp only [zf,yF,ye,push_cast,↓zK,↓zJ,↓reduceIte,zA,zB,zC,zD,zE,zF,zG,zH,zI,reduceCtorEq]
   obtain⟨e1,e2,e3⟩:=zEH (a:=a) (ps:=ps) (s:=s) (by first|exact zBo (by with_reducible assumption)|exact zBp (by with_reducible assumption)|exact zBq (by omega))
   rw [e1,e2,e3]
   all_goals first|rfl|exact⟨rfl,rfl⟩|(simp [dI,dII,yn];done)
   done)
 refine zX ?_
 (try simp only [zR,zT,reduceIte,zF]);refine hK1 _ ?_
 have hC:rgC a ps s=true:=jd (by with_reducible assumption) (by with_reducible assumption) (by omega)
 have hRec:=zA4 a ha ps hp s hC
 unfold dAr dPa at hRec
 refine zL fun K hK=> ?_
 refine zM zQ zN [] rfl ?_
 all_goals refine yC 4 fun K9 hK9=> ?_
 all_goals simp only [push_cast,↓zK,↓zJ,↓reduceIte,zA,zB,zC,zD,zE,zF,zG,zH,zI,reduceCtorEq]
 all_goals repeat'(first|(apply zO<;>(intro hg;(try simp only [push_cast]at hg)))|(refine⟨_,hRec,?_⟩;simp only [push_cast,↓zK,↓zJ,↓reduceIte,zA,zB,zC,zD,zE,zF,zG,zH,zI,reduceCtorEq])|apply And.intro|(intro hg;(try simp only [push_cast]at hg)))
 all_goals try exact gA
 all_goals first|(refine hK9 _ ?_;clear hK9 K9)|(simp only [push_cast];done)
 all_goals simp only [push_cast,↓zK,↓zJ,↓reduceIte,zA,zB,zC,zD,zE,zF,zG,zH,zI,reduceCtorEq]
 all_goals repeat'(first|(apply zO<;>(intro hg;(try simp only [push_cast]at hg)))|(refine⟨_,hRec,?_⟩;simp only [push_cast,↓zK,↓zJ,↓reduceIte,zA,zB,zC,zD,zE,zF,zG,zH,zI,reduceCtorEq])|apply And.intro|(intro hg;(try simp only [push_cast]at hg)))
 all_goals try exact gA
 all_goals first|(refine hK _ ?_;clear hK K)|(simp only [push_cast];done)
 refine zZ ?_
 (try simp only [zR,zT])
 refine⟨Or.inl rfl,?_⟩
 simp only [zf,yF,ye,push_cast,↓zK,↓zJ,↓reduceIte,zA,zB,zC,zD,zE,zF,zG,zH,zI,reduceCtorEq]
 all_goals first|rfl|exact⟨rfl,rfl⟩|(simp;done)|skip
end Go.Proofs.Ytipplkjdmdlhpaa
