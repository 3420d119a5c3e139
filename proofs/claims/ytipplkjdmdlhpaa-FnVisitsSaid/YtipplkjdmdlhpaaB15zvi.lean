/- places are found: the program's side -/
import Derived.Test.YtipplkjdmdlhpaaB12zvi
import Derived.Test.YtipplkjdmdlhpaaFazvi
import Derived.Test.YtipplkjdmdlhpaaB8zvi
import Derived.Test.YtipplkjdmdlhpaaGEzvi
namespace Go.Proofs.Ytipplkjdmdlhpaa
open Nat renaming reduceMod → zA, reduceMul → zB, reduceDiv → zC, reduceAdd → zD, reduceSub → zE, reduceEqDiff → zF, reduceBEq → zG, reduceLT → zH, reduceLeDiff → zI
open Go.RowKit
set_option linter.unusedVariables false
set_option linter.unusedSimpArgs false
set_option maxRecDepth 20000 in
set_option maxHeartbeats 4000000 in
theorem Ja (p:Plc)(hp:p.record.length≤1048576)(u:Int)(r:List Int)(hr:r.length≤1048576):FnX Try.prog tyT 98 [.v (.agg [.int .i64 p.at_,DI p.record]), .ref (.lst 2 [.int .i64 u]), .ref (.lst 2 [DI r])] [.c (.bool (yq u r p))]:=by
 have hE:=Ji p.record r hp hr
 refine Yl (fn:=Try.f98) (rs:= [.tmp 4]) zP zN Try.func98 (by kernel_rfl) rfl rfl (by rw [Try.ntmps98];exact Nat.le_of_ble_eq_true rfl) rfl (by simp only [szX,List.mem_cons,List.not_mem_nil,or_false,forall_eq_or_imp,forall_eq,XT.cells,VT.cells,szL];try decide) ?_
 rw [Try.ntmps98]
 simp only [push_cast,↓zK,↓zJ,↓reduceIte,zA,zB,zC,zD,zE,zF,zG,zH,zI,reduceCtorEq]
 refine zL fun K hK=> ?_
 refine zM zP zN [] rfl ?_
 simp only [push_cast,↓zK,↓zJ,↓reduceIte,zA,zB,zC,zD,zE,zF,zG,zH,zI,reduceCtorEq]
 repeat' apply And.intro
 all_goals try exact gB
 all_goals first|(refine hK _ ?_;clear hK K)|(simp only [push_cast];done)
 refine zL fun K hK=> ?_
 refine zd false zP zN ?_ rfl ?_
 ·kernel_rfl
 all_goals refine zj 9 fun K9 hK9=> ?_
 all_goals simp only [push_cast,↓zK,↓zJ,↓reduceIte,zA,zB,zC,zD,zE,zF,zG,zH,zI,reduceCtorEq]
 all_goals repeat'(first|(apply zO<;>(intro hg;(try simp only [push_cast]at hg)))|(refine⟨_,hE,?_⟩;simp only [push_cast,↓zK,↓zJ,↓reduceIte,zA,zB,zC,zD,zE,zF,zG,zH,zI,reduceCtorEq])|apply And.intro|(intro hg;(try simp only [push_cast]at hg)))
 all_goals try exact gA
 all_goals first|(refine hK9 _ ?_;clear hK9 K9)|(simp only [push_cast];done)
 all_goals simp only [push_cast,↓zK,↓zJ,↓reduceIte,zA,zB,zC,zD,zE,zF,zG,zH,zI,reduceCtorEq]
 all_goals repeat'(first|(apply zO<;>(intro hg;(try simp only [push_cast]at hg)))|(refine⟨_,hE,?_⟩;simp only [push_cast,↓zK,↓zJ,↓reduceIte,zA,zB,zC,zD,zE,zF,zG,zH,zI,reduceCtorEq])|apply And.intro|(intro hg;(try simp only [push_cast]at hg)))
 all_goals try exact gA
 all_goals first|(refine hK _ ?_;clear hK K)|(simp only [push_cast];done)
 all_goals(
   refine zX ?_
   (try simp only [zR,zS])
   refine⟨Or.inl rfl,?_⟩
   simp only [zb,yD,yV,push_cast,↓zK,↓zJ,↓reduceIte,zA,zB,zC,zD,zE,zF,zG,zH,zI,reduceCtorEq]
   all_goals first|exact(uS (by omega)).symm|(unfold yq;rw [decide_eq_true (by with_reducible assumption)];rfl)|(unfold yq;simp_all;done))
set_option maxRecDepth 20000 in
set_option maxHeartbeats 4000000 in
theorem VR (ps:List Plc)(ha:QLn 1048576 ps)(g:FuncId)(d1 d2:D)(c1 c2:List D)(q:Plc→Bool)(hp: ∀k,k<ps.length→FnX Try.prog tyT g [.v (.agg [.int .i64 (gq ps k).at_,DI (gq ps k).record]), .ref (.lst 2 (d1::c1)), .ref (.lst 2 (d2::c2))] [.c (.bool (q (gq ps k)))]):FnX Try.prog tyT 97 [.v (.c (.lst 72 (yz ps))), .clo g [.lst 2 (d1::c1), .lst 2 (d2::c2)]] [.c (.int .i64 (ixQ q ps))]:=by
 have hl:=ha.1
 have hgl:=fun k=>Wn ha k
 refine Yl (fn:=Try.f97) (rs:= [.tmp 4]) zP zN Try.func97 (by kernel_rfl) rfl rfl (by rw [Try.ntmps97];exact Nat.le_of_ble_eq_true rfl) rfl (by simp only [szX,List.mem_cons,List.not_mem_nil,or_false,forall_eq_or_imp,forall_eq,XT.cells,VT.cells,szL];try decide) ?_
 rw [Try.ntmps97]
 simp only [push_cast,↓zK,↓zJ,↓reduceIte,zA,zB,zC,zD,zE,zF,zG,zH,zI,reduceCtorEq]
 refine zL fun K hK=> ?_
 refine zM zP zN [] rfl ?_
 all_goals simp only [push_cast,↓zK,↓zJ,↓reduceIte,zA,zB,zC,zD,zE,zF,zG,zH,zI,reduceCtorEq]
 all_goals repeat'(first|(apply zO<;>(intro hg;(try simp only [push_cast]at hg)))|apply And.intro|(intro hg;(try simp only [push_cast]at hg)))
 all_goals first|exact gA|(exact zW (by omega))|skip
 all_goals first|(refine hK _ ?_;clear hK K)|(simp only [push_cast];done)
 refine zL fun K1 hK1=> ?_
 refine zL fun K hK=> ?_
 refine zM zP zN [] rfl ?_
 all_goals simp only [push_cast,↓zK,↓zJ,↓reduceIte,zA,zB,zC,zD,zE,zF,zG,zH,zI,reduceCtorEq]
 all_goals repeat'(first|(apply zO<;>(intro hg;(try simp only [push_cast]at hg)))|apply And.intro|(intro hg;(try simp only [push_cast]at hg)))
 all_goals first|exact gA|(exact zW (by omega))|skip
 all_goals first|(refine hK _ ?_;clear hK K)|(simp only [push_cast];done)
 refine zV ?_
 refine zh [4,5,8,9,10,11,12,13,14,15,16,17,18] [] (fun(k:Nat)=> [(8, .int .i64 k)]) (fun k=> []) (fun k=> []) (fun k=>k≤ps.length∧∀j,j<k→q (gq ps j)=false) (fun k=>ps.length - k) 0 ?_ ⟨by omega,fun j hj=>by omega⟩ ?_
 ·
  refine zY rfl ?_ ?_ ?_<;>simp only [zf,ze,push_cast,↓zK,↓zJ,↓reduceIte,zA,zB,zC,zD,zE,zF,zG,zH,zI,reduceCtorEq]
 ·rintro k ⟨hk,hall⟩ KL0 hL0
  simp only [push_cast,↓zK,↓zJ,↓reduceIte,zA,zB,zC,zD,zE,zF,zG,zH,zI,reduceCtorEq]
  refine zL fun K hK=> ?_
  refine zM zP zN [] rfl ?_
  all_goals simp only [push_cast,↓zK,↓zJ,↓reduceIte,zA,zB,zC,zD,zE,zF,zG,zH,zI,reduceCtorEq]
  all_goals repeat'(first|(apply zO<;>(intro hg;(try simp only [push_cast]at hg)))|apply And.intro|(intro hg;(try simp only [push_cast]at hg)))
  all_goals first|exact gA|(exact zW (by omega))|skip
  all_goals first|(refine hK _ ?_;clear hK K)|(simp only [push_cast];done)
  refine zL fun K2 hK2=> ?_
  refine zT rfl (fun hc=> ?_) (fun hc=> ?_)<;>(try simp only [push_cast]at hc)
  ·
   refine zU ?_
   (try simp only [zR,zS,reduceIte,zF]);refine hK2 _ ?_
   refine zL fun K3 hK3=> ?_
   refine zV ?_
   refine zL fun K hK=> ?_
   refine zM zP zN [] rfl ?_
   all_goals simp only [push_cast,↓zK,↓zJ,↓reduceIte,zA,zB,zC,zD,zE,zF,zG,zH,zI,reduceCtorEq]
   all_goals repeat'(first|(apply zO<;>(intro hg;(try simp only [push_cast]at hg)))|apply And.intro|(intro hg;(try simp only [push_cast]at hg)))
   all_goals first|exact gA|(exact zW (by omega))|skip
   all_goals first|(refine hK _ ?_;clear hK K)|(simp only [push_cast];done)
   refine zL fun K hK=> ?_
   refine vc 16 2 rfl zP zN [] rfl ?_
   simp only [push_cast,↓zK,↓zJ,↓reduceIte,zA,zB,zC,zD,zE,zF,zG,zH,zI,reduceCtorEq]
   repeat' apply And.intro
   all_goals(try simp only [push_cast,↓zK,↓zJ,↓reduceIte,zA,zB,zC,zD,zE,zF,zG,zH,zI,reduceCtorEq])
   all_goals repeat'(first|(apply zO<;>(intro hg;(try simp only [push_cast]at hg)))|(refine⟨_,hp k (by omega),?_⟩;simp only [push_cast,↓zK,↓zJ,↓reduceIte,zA,zB,zC,zD,zE,zF,zG,zH,zI,reduceCtorEq])|apply And.intro|(intro hg;(try simp only [push_cast]at hg)))
   all_goals first|exact gA|(exact zW (by omega))|skip
   all_goals first|(refine hK _ ?_;clear hK K)|(simp only [push_cast];done)
   refine zT rfl (fun hc=> ?_) (fun hc=> ?_)<;>(try simp only [push_cast]at hc)
   ·
    refine zL fun K hK=> ?_
    refine zM zP zN [] rfl ?_
    all_goals simp only [push_cast,↓zK,↓zJ,↓reduceIte,zA,zB,zC,zD,zE,zF,zG,zH,zI,reduceCtorEq]
    all_goals repeat'(first|(apply zO<;>(intro hg;(try simp only [push_cast]at hg)))|apply And.intro|(intro hg;(try simp only [push_cast]at hg)))
    all_goals first|exact gA|(exact zW (by omega))|skip
    all_goals first|(refine hK _ ?_;clear hK K)|(simp only [push_cast];done)
    refine zX ?_
    (try simp only [zR,zS])
    refine⟨Or.inl rfl,?_⟩
    simp only [zb,yD,yV,push_cast,↓zK,↓zJ,↓reduceIte,zA,zB,zC,zD,zE,zF,zG,zH,zI,reduceCtorEq]
    rw [uB (k:=k) (by omega) (fun j hj=>hall j hj) hc]
   ·
    refine zU ?_
    (try simp only [zR,zS,reduceIte,zF]);refine hK3 _ ?_
    refine zM zP zN [] rfl ?_
    all_goals simp only [push_cast,↓zK,↓zJ,↓reduceIte,zA,zB,zC,zD,zE,zF,zG,zH,zI,reduceCtorEq]
    all_goals repeat'(first|(apply zO<;>(intro hg;(try simp only [push_cast]at hg)))|apply And.intro|(intro hg;(try simp only [push_cast]at hg)))
    all_goals first|exact gA|(exact zW (by omega))|skip
    refine hL0 _ ⟨k+1,⟨by omega,fun j hj=>(by
      by_cases hjk:j=k
      ·subst hjk;exact hc
      ·exact hall j (by omega))⟩,by omega,?_⟩
    refine zY rfl ?_ ?_ ?_<;>simp only [zf,ze,push_cast,↓zK,↓zJ,↓reduceIte,zA,zB,zC,zD,zE,zF,zG,zH,zI,reduceCtorEq]
  ·
   refine zk ?_
   (try simp only [zR,zS,reduceIte,zF]);refine hK1 _ ?_
   refine zL fun K hK=> ?_
   refine zM zP zN [] rfl ?_
   all_goals simp only [push_cast,↓zK,↓zJ,↓reduceIte,zA,zB,zC,zD,zE,zF,zG,zH,zI,reduceCtorEq]
   all_goals repeat'(first|(apply zO<;>(intro hg;(try simp only [push_cast]at hg)))|apply And.intro|(intro hg;(try simp only [push_cast]at hg)))
   all_goals first|exact gA|(exact zW (by omega))|skip
   all_goals first|(refine hK _ ?_;clear hK K)|(simp only [push_cast];done)
   refine zX ?_
   (try simp only [zR,zS])
   refine⟨Or.inl rfl,?_⟩
   simp only [zb,yD,yV,push_cast,↓zK,↓zJ,↓reduceIte,zA,zB,zC,zD,zE,zF,zG,zH,zI,reduceCtorEq]
   rw [Jx fun j hj=>hall j (by omega)]
set_option maxRecDepth 20000 in
set_option maxHeartbeats 4000000 in
theorem jJ (ps:List Plc)(ha:QLn 1048576 ps)(u:Int)(r:List Int)(hr:r.length≤1048576):Fn Try.prog tyT 84 [.c (.lst 72 (yz ps)), .c (.int .i64 u), .c (DI r)] [.c (.int .i64 (ixQ (yq u r) ps))]:=by
 refine yB (fn:=Try.f84) (ts:= [6]) Try.func84 (by kernel_rfl) rfl rfl (by rw [Try.ntmps84];exact Nat.le_of_ble_eq_true rfl) rfl (by simp only [szA,List.mem_cons,List.not_mem_nil,or_false,forall_eq_or_imp,forall_eq,VT.cells,szL];try decide) ?_
 rw [Try.ntmps84]
 simp only [push_cast,↓zK,↓zJ,↓reduceIte,zA,zB,zC,zD,zE,zF,zG,zH,zI,reduceCtorEq]
 refine zL fun K hK=> ?_
 refine zM zP zN [] rfl ?_
 all_goals simp only [push_cast,↓zK,↓zJ,↓reduceIte,zA,zB,zC,zD,zE,zF,zG,zH,zI,reduceCtorEq]
 all_goals repeat'(first|(apply zO<;>(intro hg;(try simp only [push_cast]at hg)))|(refine⟨_,VR ps ha _ (.int .i64 u) (DI r) [] [] (yq u r) (fun k hk=>Ja (gq ps k) (Wn ha k) u r hr),?_⟩;simp only [push_cast,↓zK,↓zJ,↓reduceIte,zA,zB,zC,zD,zE,zF,zG,zH,zI,reduceCtorEq])|apply And.intro|(intro hg;(try simp only [push_cast]at hg)))
 all_goals first|exact gA|decide|skip
 all_goals first|(refine hK _ ?_;clear hK K)|(simp only [push_cast];done)
 refine zL fun K hK=> ?_
 refine vc 9 2 rfl zP zN [] rfl ?_
 simp only [push_cast,↓zK,↓zJ,↓reduceIte,zA,zB,zC,zD,zE,zF,zG,zH,zI,reduceCtorEq]
 repeat' apply And.intro
 all_goals(try simp only [push_cast,↓zK,↓zJ,↓reduceIte,zA,zB,zC,zD,zE,zF,zG,zH,zI,reduceCtorEq])
 all_goals repeat'(first|(apply zO<;>(intro hg;(try simp only [push_cast]at hg)))|(refine⟨_,VR ps ha _ (.int .i64 u) (DI r) [] [] (yq u r) (fun k hk=>Ja (gq ps k) (Wn ha k) u r hr),?_⟩;simp only [push_cast,↓zK,↓zJ,↓reduceIte,zA,zB,zC,zD,zE,zF,zG,zH,zI,reduceCtorEq])|apply And.intro|(intro hg;(try simp only [push_cast]at hg)))
 all_goals first|exact gA|decide|skip
 all_goals first|(refine hK _ ?_;clear hK K)|(simp only [push_cast];done)
 refine zX ?_
 (try simp only [zR,zS])
 refine⟨Or.inl rfl,?_⟩
 simp only [zb,push_cast,↓zK,↓zJ,↓reduceIte,zA,zB,zC,zD,zE,zF,zG,zH,zI,reduceCtorEq]
set_option maxRecDepth 20000 in
set_option maxHeartbeats 4000000 in
theorem jX (f:Fm)(hf:f.Ln 1048576)(p:Plc)(hp:p.record.length≤1048576)(hv:vh f p.record=true):FnX Try.prog tyT 59 [.v (.agg [.int .i64 p.at_,DI p.record]), .ref (.lst 2 [DI f.names,DII f.sets])] [.c (DI (zv p.record p.at_))]:=by
 have hN:=uf f hf p.record hp p.at_ hv
 unfold dFm at hN
 refine Yl (fn:=Try.f59) (rs:= [.tmp 3]) zP zN Try.func59 (by kernel_rfl) rfl rfl (by rw [Try.ntmps59];exact Nat.le_of_ble_eq_true rfl) rfl (by simp only [szX,List.mem_cons,List.not_mem_nil,or_false,forall_eq_or_imp,forall_eq,XT.cells,VT.cells,szL];try decide) ?_
 rw [Try.ntmps59]
 simp only [push_cast,↓zK,↓zJ,↓reduceIte,zA,zB,zC,zD,zE,zF,zG,zH,zI,reduceCtorEq]
 refine zL fun K hK=> ?_
 refine zM zP zN [] rfl ?_
 simp only [push_cast,↓zK,↓zJ,↓reduceIte,zA,zB,zC,zD,zE,zF,zG,zH,zI,reduceCtorEq]
 repeat' apply And.intro
 all_goals try exact gB
 all_goals first|(refine hK _ ?_;clear hK K)|(simp only [push_cast];done)
 refine zL fun K hK=> ?_
 refine zM zP zN [] rfl ?_
 all_goals refine zx 6 fun K9 hK9=> ?_
 all_goals simp only [push_cast,↓zK,↓zJ,↓reduceIte,zA,zB,zC,zD,zE,zF,zG,zH,zI,reduceCtorEq]
 all_goals repeat'(first|(apply zO<;>(intro hg;(try simp only [push_cast]at hg)))|(refine⟨_,hN,?_⟩;simp only [push_cast,↓zK,↓zJ,↓reduceIte,zA,zB,zC,zD,zE,zF,zG,zH,zI,reduceCtorEq])|apply And.intro|(intro hg;(try simp only [push_cast]at hg)))
 all_goals try exact gA
 all_goals first|(refine hK9 _ ?_;clear hK9 K9)|(simp only [push_cast];done)
 all_goals simp only [push_cast,↓zK,↓zJ,↓reduceIte,zA,zB,zC,zD,zE,zF,zG,zH,zI,reduceCtorEq]
 all_goals repeat'(first|(apply zO<;>(intro hg;(try simp only [push_cast]at hg)))|(refine⟨_,hN,?_⟩;simp only [push_cast,↓zK,↓zJ,↓reduceIte,zA,zB,zC,zD,zE,zF,zG,zH,zI,reduceCtorEq])|apply And.intro|(intro hg;(try simp only [push_cast]at hg)))
 all_goals try exact gA
 all_goals first|(refine hK _ ?_;clear hK K)|(simp only [push_cast];done)
 refine zX ?_
 (try simp only [zR,zS])
 refine⟨Or.inl rfl,?_⟩
 simp only [zb,yD,yV,push_cast,↓zK,↓zJ,↓reduceIte,zA,zB,zC,zD,zE,zF,zG,zH,zI,reduceCtorEq]
set_option maxRecDepth 20000 in
set_option maxHeartbeats 4000000 in
theorem jY (f:Fm)(hf:f.Ln 1048576)(p:Plc)(hp:p.record.length≤1048576)(hv:vh f p.record=true):FnX Try.prog tyT 61 [.v (.agg [.int .i64 p.at_,DI p.record]), .ref (.lst 2 [DI f.names,DII f.sets])] [.c (.int .i64 (yp f p.record p.at_))]:=by
 have hN:=zAy f hf p.record hp p.at_ hv
 unfold dFm at hN
 refine Yl (fn:=Try.f61) (rs:= [.tmp 3]) zP zN Try.func61 (by kernel_rfl) rfl rfl (by rw [Try.ntmps61];exact Nat.le_of_ble_eq_true rfl) rfl (by simp only [szX,List.mem_cons,List.not_mem_nil,or_false,forall_eq_or_imp,forall_eq,XT.cells,VT.cells,szL];try decide) ?_
 rw [Try.ntmps61]
 simp only [push_cast,↓zK,↓zJ,↓reduceIte,zA,zB,zC,zD,zE,zF,zG,zH,zI,reduceCtorEq]
 refine zL fun K hK=> ?_
 refine zM zP zN [] rfl ?_
 simp only [push_cast,↓zK,↓zJ,↓reduceIte,zA,zB,zC,zD,zE,zF,zG,zH,zI,reduceCtorEq]
 repeat' apply And.intro
 all_goals try exact gB
 all_goals first|(refine hK _ ?_;clear hK K)|(simp only [push_cast];done)
 refine zL fun K hK=> ?_
 refine zM zP zN [] rfl ?_
 all_goals refine zx 6 fun K9 hK9=> ?_
 all_goals simp only [push_cast,↓zK,↓zJ,↓reduceIte,zA,zB,zC,zD,zE,zF,zG,zH,zI,reduceCtorEq]
 all_goals repeat'(first|(apply zO<;>(intro hg;(try simp only [push_cast]at hg)))|(refine⟨_,hN,?_⟩;simp only [push_cast,↓zK,↓zJ,↓reduceIte,zA,zB,zC,zD,zE,zF,zG,zH,zI,reduceCtorEq])|apply And.intro|(intro hg;(try simp only [push_cast]at hg)))
 all_goals try exact gA
 all_goals first|(refine hK9 _ ?_;clear hK9 K9)|(simp only [push_cast];done)
 all_goals simp only [push_cast,↓zK,↓zJ,↓reduceIte,zA,zB,zC,zD,zE,zF,zG,zH,zI,reduceCtorEq]
 all_goals repeat'(first|(apply zO<;>(intro hg;(try simp only [push_cast]at hg)))|(refine⟨_,hN,?_⟩;simp only [push_cast,↓zK,↓zJ,↓reduceIte,zA,zB,zC,zD,zE,zF,zG,zH,zI,reduceCtorEq])|apply And.intro|(intro hg;(try simp only [push_cast]at hg)))
 all_goals try exact gA
 all_goals first|(refine hK _ ?_;clear hK K)|(simp only [push_cast];done)
 refine zX ?_
 (try simp only [zR,zS])
 refine⟨Or.inl rfl,?_⟩
 simp only [zb,yD,yV,push_cast,↓zK,↓zJ,↓reduceIte,zA,zB,zC,zD,zE,zF,zG,zH,zI,reduceCtorEq]
section
variable {P:Program} {τ:Ty} {st:St}
def YI :List (Nat×zo)→List (Nat×zo)
 | []=> []
 |(d,R)::l=>(d,{R with pin:=none})::YI l
def St.unpin (st:St):St:=⟨st.n,st.s,st.b,YI st.r⟩
theorem YF : ∀(l:List (Nat×zo)) (d:Nat) (R':zo),lk (YI l) d=some R'→∃R,lk l d=some R∧R'={R with pin:=none}
 | [],d,R',h=>by simp [YI,lk]at h
 |(k,R)::l,d,R',h=>by
  simp only [YI,lk]at h⊢
  split at h
  ·rename_i e
   rw [if_pos e]
   cases h
   exact⟨R,rfl,rfl⟩
  ·rename_i e
   rw [if_neg e]
   exact YF l d R' h
mutual
theorem kR {w:World}{rr:List (Nat×zo)}{bb:List (Nat×List AV)}{hd:Nat→Value}{bk:Nat→Nat}: ∀(v:AV) (z:Value),AvR τ w rr bb hd bk v z→AvR τ w (YI rr) bb hd bk v z
 | .int k n,z,h=>by simp only [AvR]at h⊢;exact h
 | .bool b,z,h=>by simp only [AvR]at h⊢;exact h
 | .sl d p off len e,z,h=>by
  simp only [AvR]at h⊢
  refine⟨h.1,fun R' hR' hp=> ?_⟩
  obtain⟨R,hR,rfl⟩:=YF _ _ _ hR'
  exact h.2 R hR hp
 | .nil,z,h=>by simp only [AvR]at h⊢;exact h
 | .ep d p i,z,h=>by
  simp only [AvR]at h⊢
  refine⟨h.1,fun R' hR' hp=> ?_⟩
  obtain⟨R,hR,rfl⟩:=YF _ _ _ hR'
  exact h.2 R hR hp
 | .bp t i,z,h=>by simp only [AvR]at h⊢;exact h
 | .agg vs,z,h=>by
  simp only [AvR]at h⊢
  obtain⟨cs,h1,h2⟩:=h
  exact⟨cs,h1,ZC vs cs h2⟩
 | .tup vs,z,h=>by
  simp only [AvR]at h⊢
  obtain⟨cs,h1,h2⟩:=h
  exact⟨cs,h1,ZC vs cs h2⟩
 | .fn f vs,z,h=>by
  simp only [AvR]at h⊢
  obtain⟨cs,h1,h2⟩:=h
  exact⟨cs,h1,ZC vs cs h2⟩
 | .dead,z,h=>by simp only [AvR]
 | .raw u,z,h=>by simpa only [AvR]using h
theorem ZC {w:World}{rr:List (Nat×zo)}{bb:List (Nat×List AV)}{hd:Nat→Value}{bk:Nat→Nat}: ∀(vs:List AV) (zs:List Value),zZ τ w rr bb hd bk vs zs→zZ τ w (YI rr) bb hd bk vs zs
 | [],zs,h=>by simp only [zZ]at h⊢;exact h
 |x::xs,zs,h=>by
  simp only [zZ]at h⊢
  obtain⟨v,vs',h1,h2,h3⟩:=h
  exact⟨v,vs',h1,kR x v h2,ZC xs vs' h3⟩
end
theorem zDn {c:Code}{Q:Exit→St→Prop}(hK:awp P τ c Q st.unpin):awp P τ c Q st:=fun lo w0 a w hr=>by
 obtain⟨ow,hd,bk,h⟩:=hr
 refine hK lo w0 a w ⟨ow,hd,bk,h.big,h.defers,h.size,h.low,h.below,h.ge,h.new,fun k v hv=>kR v _ (h.slot k v hv),fun d R' hR'=> ?_,fun t vs hv=> ?_,fun d R' i hR' hp=> ?_⟩
 ·obtain⟨R,hR,rfl⟩:=YF _ _ _ hR'
  exact h.root d R hR
 ·obtain⟨cs,ty,h1,h2,h3⟩:=h.box t vs hv
  exact⟨cs,ty,h1,h2,ZC vs cs h3⟩
 ·obtain⟨R,hR,rfl⟩:=YF _ _ _ hR'
  cases hp
end
attribute [push_cast] St.unpin YI
set_option maxRecDepth 20000 in
set_option maxHeartbeats 4000000 in
theorem ui (g:Pa)(hg:g.Ln 1000000)(o p:Int)(nx:List Int)(hx:nx.length≤1000000):FnG Try.prog tyT 85 [.agg (dPa g), .c (.int .i64 o), .c (.int .i64 p), .c (DI nx)] [0,1,2,48] [] [.agg (dPa ⟨⟨g.a.owner++ [o],g.a.next++ [nx]⟩,g.prio++ [p]⟩)]:=by
 have h1:=hg.a.owner
 have h2:=hg.a.next.1
 have h3:=hg.prio
 unfold LnI at h1 h3
 unfold dPa
 refine zHw (fn:=Try.f85) (rs:= [.cell 8 36]) (own:= [0,1,2,48]) (outs:= []) zP zN Try.func85 (by kernel_rfl) rfl rfl (by rw [Try.ntmps85];exact Nat.le_of_ble_eq_true rfl) rfl (by simp only [szA,List.mem_cons,List.not_mem_nil,or_false,forall_eq_or_imp,forall_eq,VT.cells,szL];try decide) ?_
 rw [Try.ntmps85]
 simp only [push_cast,↓zK,↓zJ,↓reduceIte,zA,zB,zC,zD,zE,zF,zG,zH,zI,reduceCtorEq]
 refine zL fun K hK=> ?_
 refine zM zP zN [] rfl ?_
 simp only [push_cast,↓zK,↓zJ,↓reduceIte,zA,zB,zC,zD,zE,zF,zG,zH,zI,reduceCtorEq]
 repeat' apply And.intro
 all_goals try exact gB
 all_goals first|(refine hK _ ?_;clear hK K)|(simp only [push_cast];done)
 refine zDn ?_
 simp only [push_cast,↓zK,↓zJ,↓reduceIte,zA,zB,zC,zD,zE,zF,zG,zH,zI,reduceCtorEq]
 refine zL fun K hK=> ?_
 refine zM zP zN [] rfl ?_
 simp only [push_cast,↓zK,↓zJ,↓reduceIte,zA,zB,zC,zD,zE,zF,zG,zH,zI,reduceCtorEq]
 repeat' apply And.intro
 all_goals try exact gB
 all_goals first|(refine hK _ ?_;clear hK K)|(simp only [push_cast];done)
 refine zL fun K hK=> ?_
 refine zd false zP zN ?_ rfl ?_
 ·kernel_rfl
 simp only [push_cast,↓zK,↓zJ,↓reduceIte,zA,zB,zC,zD,zE,zF,zG,zH,zI,reduceCtorEq]
 all_goals repeat'(first|(apply zO<;>(intro hg;(try simp only [push_cast]at hg)))|apply And.intro|(intro hg;(try simp only [push_cast]at hg)))
 all_goals try exact gA
 all_goals first|(refine hK _ ?_;clear hK K)|(simp only [push_cast];done)
 refine zL fun K hK=> ?_
 refine zM zP zN [] rfl ?_
 simp only [push_cast,↓zK,↓zJ,↓reduceIte,zA,zB,zC,zD,zE,zF,zG,zH,zI,reduceCtorEq]
 repeat' apply And.intro
 all_goals try exact gB
 all_goals first|(refine hK _ ?_;clear hK K)|(simp only [push_cast];done)
 refine zL fun K hK=> ?_
 refine zM zP zN [] rfl ?_
 simp only [push_cast,↓zK,↓zJ,↓reduceIte,zA,zB,zC,zD,zE,zF,zG,zH,zI,reduceCtorEq]
 repeat' apply And.intro
 all_goals try exact gB
 all_goals first|(refine hK _ ?_;clear hK K)|(simp only [push_cast];done)
 refine zX ?_
 (try simp only [zR,zS])
 refine⟨Or.inl rfl,?_⟩
 simp only [zb,yD,yV,push_cast,↓zK,↓zJ,↓reduceIte,zA,zB,zC,zD,zE,zF,zG,zH,zI,reduceCtorEq]
 exact⟨by decide,by simp,by simp,by simp⟩
def Wl :Nat→List AV→List (Nat×AV)
 |_,[]=> []
 |i,v::vs=>(i,v)::Wl (i+1) vs
theorem zAV : ∀(vs:List AV) (i k:Nat) (v:AV),lk (Wl i vs) k=some v→∃j,vs[j]? =some v∧k=i+j
 | [],i,k,v,h=>by simp [Wl,lk]at h
 |u::vs,i,k,v,h=>by
  simp only [Wl,zc]at h
  split at h
  ·rename_i e
   cases h
   exact⟨0,rfl,by omega⟩
  ·obtain⟨j,h1,h2⟩:=zAV vs (i+1) k v h
   exact⟨j+1,by simpa using h1,by omega⟩
def XO :Nat→Bool:=fun _=>true
def ZY (T:Nat):Nat→Bool:=fun t=>t==T||t==1000000
def othB (T:Nat):Nat→Bool:=fun t=> !(t==T)
def covR (r':List (Nat×zo)):List (Nat×zo)→Prop
 | []=>True
 |(d,R)::l=>(lk r' d=some R∧R.pin=none)∧covR r' l
theorem Wi {r':List (Nat×zo)}: ∀{l:List (Nat×zo)},covR r' l→∀d R,lk l d=some R→lk r' d=some R∧R.pin=none
 | [],_,d,R,h=>by simp [lk]at h
 |(k,R0)::l,h,d,R,hl=>by
  rw [zc]at hl
  split at hl
  ·rename_i e;subst e;cases hl;exact h.1
  ·exact Wi h.2 d R hl
def zDD (r:List (Nat×zo)):Bool:=r.all fun x=>match x.2.pin with|some i=>i !=999999|none=>true
def RetI (τ:Ty)(rs:List ResultVar)(K:AV→List AV→List (Nat×zo)→Prop)(e:Exit)(st:St):Prop:=(e= .ret∨e= .normal)∧
 match yD τ st rs,lk st.b 1000000 with
 |some (vs,ob),some cs=>ob∧∃r,covR st.r r∧K (qU vs) cs r
 |_,_=>False
def Kd (T:Nat)(st:St)(cs:List AV)(r:List (Nat×zo)):St:=⟨st.n,vJ (AV.kill XO (othB T)) st.s,[(T,AV.killL noB XO cs)],r⟩
def QT (n T:Nat)(vs cells:List AV)(st:St):St:=⟨n,Wl 0 (AV.killL noB (ZY T) vs),(1000000,AV.killL noB (ZY T) cells)::vJ (AV.killL noB (ZY T)) (rm (ZY T) st.b),st.r⟩
def Vi (P:Program)(τ:Ty)(T:Nat)(o:Oper)(K:St→Prop)(st:St):Prop:=
 match yI o,lk st.b T with
 |some (f,args,_),some cells=>T≠1000000∧zDD st.r=true∧∃(fn:Func) (rs:List ResultVar),P.funcs[f]? =some fn∧(fn.name== "runtime.NumGoroutine")=false∧fn.body.isSome=true∧fn.results=rs.toArray∧args.toList.length≤fn.ntmps∧
   awp P τ (fn.body.getD .skip) (RetI τ rs fun v cs r=>K ((Kd T st cs r).put o.dst (AV.kill noB XO v))) (QT fn.ntmps T (args.toList.map (ev st)) cells st)
 |_,_=>False
theorem zDd {P:Program}{τ:Ty}{T:Nat}{o:Oper}{K:St→Prop}{st:St}{fn:Func}{rs:List ResultVar}{f:FuncId}{args:Array Operand}{ts:Array TypeId}{cells:List AV}(h1:yI o=some (f,args,ts))(h2:lk st.b T=some cells)(h3:T≠1000000)(h4:zDD st.r=true)(h5:P.funcs[f]? =some fn)(h6:(fn.name== "runtime.NumGoroutine")=false)(h7:fn.body.isSome=true)(h8:fn.results=rs.toArray)(h9:args.toList.length≤fn.ntmps)
  (h:awp P τ (fn.body.getD .skip) (RetI τ rs fun v cs r=>K ((Kd T st cs r).put o.dst (AV.kill noB XO v))) (QT fn.ntmps T (args.toList.map (ev st)) cells st)):Vi P τ T o K st:=by
 unfold Vi
 rw [h1,h2]
 exact⟨h3,h4,fn,rs,h5,h6,h7,h8,h9,h⟩
theorem zIn {P:Program}{τ:Ty}{fn:Func}{c:Code}{Q:Exit→St→Prop}{st:St}(hb:fn.body=some c)(h:awp P τ c Q st):awp P τ (fn.body.getD .skip) Q st:=by rw [hb];exact h
section
variable {P:Program} {τ:Ty} {lo:Nat} {w0:Fz} {st:St} {a:Act} {w:World}
theorem UV (hτ:yH P τ)(hpos:yb τ){T:Nat}{o:Oper}{K:St→Prop}{Q:Exit→Act→World→Prop}{K':Act→World→Prop}(hd: ∀k,o.dst=some k→k<a.tmps.size)(h:Rel τ lo w0 st a w)(ha:Vi P τ T o K st)
  (hK: ∀st' x w',K st'→Rel τ lo w0 st' (a.put o.dst x) w'→K' (a.put o.dst x) w'):o.wp P a w K' Q:=by
 obtain⟨ow,hd',bk,hr⟩:=h
 unfold Vi at ha
 split at ha
 rotate_left
 ·exact ha.elim
 rename_i f args ts cells hc hT
 obtain⟨hT6,hpin,fn,rs,hfn,hname,hb,hres,hn,hbody⟩:=ha
 obtain⟨bcs,bty,g1,g2,g3⟩:=hr.box T cells hT
 have hglt:bk T<w.heap.size:=(Array.getElem?_eq_some_iff.1 g1).1
 have hpinD: ∀d R i,lk st.r d=some R→R.pin=some i→i≠999999:=fun d R i hR hi=>by
  have :=List.all_eq_true.1 hpin _ (QN hR)
  simp only [hi]at this
  simpa using this
 have hev:zZ τ w st.r st.b hd' bk (args.toList.map (ev st)) (args.toList.map a.eval):=zn.2 ⟨by simp,fun i v x hv hx=>by
  rw [List.getElem?_map]at hv hx
  cases hk:args.toList[i]? with
  |none=>rw [hk]at hv;cases hv
  |some p=>rw [hk]at hv hx;cases hv;cases hx;exact zi hr p⟩
 generalize hvs:args.toList.map a.eval=vs at hev
 have hvl:vs.length=args.toList.length:=by rw [←hvs,List.length_map]
 -- the callee's frame,owners and boxes
 obtain⟨w1,hw1⟩: ∃w1:Fz,w1=⟨w0.w,w0.kp,fun i=>if i=999999 then some (.pointer (some ⟨bk T,0,none⟩))else w0.pin i⟩:=⟨_,rfl⟩
 have hkeep1: ∀{w},xF w0 w→xF w1 w:=fun h=>by subst hw1;exact⟨h.os,h.tape,h.output,h.size,h.block⟩
 have hkeep0: ∀{w},xF w1 w→xF w0 w:=fun h=>by subst hw1;exact⟨h.os,h.tape,h.output,h.size,h.block⟩
 have hfre: ∀b,w1.fre b↔w0.fre b:=fun b=>by subst hw1;exact Iff.rfl
 obtain⟨bk1,hbk1⟩: ∃f:Nat→Nat,f=upd bk 1000000 (bk T):=⟨_,rfl⟩
 have hboxes: ∀t cs,lk (QT fn.ntmps T (args.toList.map (ev st)) cells st).b t=some cs→(t=1000000∧cs=AV.killL noB (ZY T) cells)∨(t≠1000000∧t≠T∧∃cs0,lk st.b t=some cs0∧cs=AV.killL noB (ZY T) cs0):=fun t cs h=>by
  have h2:lk ((1000000,AV.killL noB (ZY T) cells)::vJ (AV.killL noB (ZY T)) (rm (ZY T) st.b)) t=some cs:=h
  rw [zc]at h2
  split at h2
  ·rename_i e
   cases h2
   exact .inl ⟨e.symm,rfl⟩
  ·rename_i e
   rw [zy,xQ]at h2
   by_cases h3:ZY T t=true
   ·rw [if_pos h3]at h2;cases h2
   ·rw [if_neg h3]at h2
    have h4:t≠T:=fun e=>h3 (by subst e;simp [ZY])
    cases hx:lk st.b t with
    |none=>rw [hx]at h2;cases h2
    |some cs0=>rw [hx]at h2;cases h2;exact .inr ⟨fun e2=>e e2.symm,h4,cs0,rfl,rfl⟩
 have hB: ∀t,ZY T t=false→yw st.b (QT fn.ntmps T (args.toList.map (ev st)) cells st).b bk bk1 t:=fun t ht ⟨cs,hcs⟩=>by
  have h1:t≠1000000:=fun e=>by subst e;simp [ZY]at ht
  rcases hboxes t cs hcs with⟨e,-⟩|⟨-,-,cs0,h2,-⟩
  ·exact absurd e h1
  ·exact⟨⟨cs0,h2⟩,by rw [hbk1];exact yg _ _ h1⟩
 have hDs: ∀d,noB d=false→yx w w st.r st.r hd' hd' d:=fun d _ R hR=>⟨R,hR,rfl,fun p hp=>⟨hp,rfl⟩⟩
 have hown1: ∀(m:Md) b,rel m (ow b)→upd ow (bk T) (some (.box 1000000)) b=ow b:=fun m b hrl=>by
  by_cases e:b=bk T
  ·subst e
   rw [g2]at hrl
   cases m<;>simp [rel]at hrl
  ·exact yg _ _ e
 have hstart:Rel τ lo w1 (QT fn.ntmps T (args.toList.map (ev st)) cells st) {tmps:=vs.toArray++Array.replicate (fn.ntmps - vs.toArray.size) undef,defers:= []} w:=by
  refine⟨upd ow (bk T) (some (.box 1000000)),hd',bk1,fun ad had=> ?_,rfl,?_,hr.low,hkeep1 hr.below,fun b p hlt hb hp=> ?_,fun b hb=> ?_,fun k v hv=> ?_,fun d R hR=> ?_,fun t cs hcs=> ?_,fun d R i hR hi=> ?_⟩
  ·subst hw1
   simp only [if_true]at had
   cases had
   rw [hbk1,yA]
  ·show(vs.toArray++Array.replicate (fn.ntmps - vs.toArray.size) undef).size=fn.ntmps
   simp only [Array.size_append,List.size_toArray,Array.size_replicate]
   omega
  ·by_cases e:b=bk T
   ·subst e
    have :=hr.ge _ _ hglt g2 (by simp)
    exact⟨this.1,(hfre _).2 this.2⟩
   ·rw [yg _ _ e]at hb
    have :=hr.ge b p hlt hb hp
    exact⟨this.1,(hfre _).2 this.2⟩
  ·rw [yg _ _ (by omega)]
   exact hr.new b hb
  ·obtain⟨j,hj,hkj⟩:=zAV _ _ _ _ hv
   rw [Nat.zero_add]at hkj
   subst hkj
   have hevk:=yG (τ:=τ) hDs hB _ _ hev
   obtain⟨h1,h2⟩:=zn.1 hevk
   have hlt:k<vs.length:=by rw [h1];exact(List.getElem?_eq_some_iff.1 hj).1
   have hget:(vs.toArray++Array.replicate (fn.ntmps - vs.toArray.size) undef).getD k undef=vs[k]:=by
    rw [Array.getD_eq_getD_getElem?,Array.getElem?_append_left (by simpa using hlt)]
    simp [hlt]
   show AvR τ w st.r _ hd' bk1 v ((vs.toArray++Array.replicate (fn.ntmps - vs.toArray.size) undef).getD k undef)
   rw [hget]
   exact h2 k v _ hj (List.getElem?_eq_getElem hlt)
  ·exact yL _ _ (Nat.le_refl _) _ _ _ (fun b hb hrl=>⟨rfl,hown1 _ b hrl⟩) (hr.root d R hR)
  ·rcases hboxes t cs hcs with⟨rfl,rfl⟩|⟨h1,h2,cs0,h3,rfl⟩
   ·exact⟨bcs,bty,by rw [hbk1,yA];exact g1,by rw [hbk1,yA,yA],yG hDs hB _ _ g3⟩
   ·obtain⟨ds,dty,q1,q2,q3⟩:=hr.box t cs0 h3
    have hne:bk t≠bk T:=fun e=>by
     rw [e,g2]at q2
     cases q2
     exact h2 rfl
    exact⟨ds,dty,by rw [hbk1,yg _ _ h1];exact q1,by rw [hbk1,yg _ _ h1,yg _ _ hne];exact q2,yG hDs hB _ _ q3⟩
  ·subst hw1
   have :=hpinD d R i hR hi
   simp only [if_neg this]
   exact hr.pin d R i hR hi
 have hC:Calls P f vs.toArray w (fun e w'=> ∃z,e= .returned z∧∃st',K st'∧Rel τ lo w0 st' (a.put o.dst z) w'):=by
  obtain⟨c,hbc⟩:=Option.isSome_iff_exists.1 hb
  have hget:fn.body.getD .skip=c:=by rw [hbc];rfl
  rw [hget]at hbody
  refine calls_of_wp hfn hbc (Go.wp_mono (hbody lo w1 _ w hstart) fun e a' w' ⟨st',⟨ow2,hd2,bk2,hr2⟩,he,hret⟩=> ?_)
  have hpost:a'.defers= []∧∃v,(results fn a'.tmps).run P w'= .ok v w'∧(∃z,Ending.returned v= .returned z∧∃st',K st'∧Rel τ lo w0 st' (a.put o.dst z) w'):=by
   split at hret
   ·rename_i avs ob0 cs hrv hcs
    obtain⟨hob0,r,hcov,hK0⟩:=hret
    obtain⟨xs,hrun,hv⟩:=vO hτ hpos hr2 hres hrv hob0
    refine⟨hr2.defers,_,hrun,_,rfl,_,hK0,?_⟩
    have hbig:bk2 1000000=bk T:=hr2.big ⟨bk T,0,none⟩ (by subst hw1;simp)
    obtain⟨ds,dty,q1,q2,q3⟩:=hr2.box 1000000 cs hcs
    rw [hbig]at q1 q2
    have hown2: ∀(m:Md) b,rel m (ow2 b)→upd ow2 (bk T) (some (.box T)) b=ow2 b:=fun m b hrl=>by
     by_cases e:b=bk T
     ·subst e
      rw [q2]at hrl
      cases m<;>simp [rel]at hrl
     ·exact yg _ _ e
    have hsz:w.heap.size≤w'.heap.size∨True:= .inr trivial
    have hlt2:bk T<w'.heap.size:=(Array.getElem?_eq_some_iff.1 q1).1
    have hD2: ∀d,noB d=false→yx w' w' st'.r r hd2 hd2 d:=fun d _ R hR=>⟨R,(Wi hcov d R hR).1,rfl,fun p hp=>⟨hp,rfl⟩⟩
    have hB2: ∀t,XO t=false→yw st'.b (Kd T st cs r).b bk2 bk t:=fun t h=>by cases h
    have hback:zg τ lo w0 (upd ow2 (bk T) (some (.box T))) hd2 bk (Kd T st cs r) a w':=by
     refine⟨hr.big,hr.defers,hr.size,hr2.low,hkeep0 hr2.below,fun b p hlt hb hp=> ?_,fun b hb=> ?_,fun k v hv=> ?_,fun d R hR=> ?_,fun t us hus=> ?_,fun d R i hR hi=> ?_⟩
     ·by_cases e:b=bk T
      ·subst e
       exact hr.ge _ _ hglt g2 (by simp)
      ·rw [yg _ _ e]at hb
       have :=hr2.ge b p hlt hb hp
       exact⟨this.1,(hfre _).1 this.2⟩
     ·rw [yg _ _ (by omega)]
      exact hr2.new b hb
     ·have hv2:lk (vJ (AV.kill XO (othB T)) st.s) k=some v:=hv
      rw [zy]at hv2
      cases hk:lk st.s k with
      |none=>rw [hk]at hv2;cases hv2
      |some v0=>
       rw [hk]at hv2
       cases hv2
       refine yr (fun d h=>(by cases h)) (fun t h=> ?_) v0 _ (hr.slot k v0 hk)
       have e:t=T:=by simpa [othB]using h
       subst e
       exact fun _=>⟨⟨cells,hT⟩,rfl⟩
     ·exact yL _ _ (Nat.le_refl _) _ _ _ (fun b hb hrl=>⟨rfl,hown2 _ b hrl⟩) (hr2.root d R (Wi hcov d R hR).1)
     ·have hus2:lk [(T,AV.killL noB XO cs)] t=some us:=hus
      rw [zc]at hus2
      split at hus2
      ·rename_i e
       subst e
       cases hus2
       exact⟨ds,dty,q1,yA _ _ _,yG hD2 hB2 _ _ q3⟩
      ·cases hus2
     ·rw [(Wi hcov d R hR).2]at hi
      cases hi
    exact xf hback hd (yr hD2 hB2 _ _ (YZ hv))
   ·exact hret.elim
  rcases he with rfl|rfl<;>exact hpost
 unfold Oper.wp
 rw [YS hr hc ⟨fn,hfn,hname,by cases hbb:fn.body with|none=>rw [hbb]at hb;cases hb|some c=>rfl⟩,hvs]
 simp only [Oper.upon]
 refine hC.mono fun e w' hpost=> ?_
 obtain⟨z,rfl,st',hK1,hrel⟩:=hpost
 exact hK _ z w' hK1 hrel
end
mutual
def AV.rnb (t T:Nat):AV→AV
 | .int k n=> .int k n
 | .bool b=> .bool b
 | .sl d p off len e=> .sl d p off len e
 | .nil=> .nil
 | .ep d p i=> .ep d p i
 | .bp k i=>if k=t then .bp T i else if k=T then .dead else .bp k i
 | .agg vs=> .agg (AV.rnbL t T vs)
 | .tup vs=> .tup (AV.rnbL t T vs)
 | .fn f vs=> .fn f (AV.rnbL t T vs)
 | .dead=> .dead
 | .raw u=> .raw u
def AV.rnbL (t T:Nat):List AV→List AV
 | []=> []
 |v::vs=>AV.rnb t T v::AV.rnbL t T vs
end
def WS (t T:Nat):List (Nat×List AV)→List (Nat×List AV)
 | []=> []
 |(k,vs)::l=>(if k=t then T else k,AV.rnbL t T vs)::WS t T l
def St.renB (t T:Nat)(st:St):St:=⟨st.n,vJ (AV.rnb t T) st.s,WS t T st.b,st.r⟩
theorem ju {t T:Nat}(hne:t≠T): ∀{l:List (Nat×List AV)} {k:Nat} {cs:List AV},lk l T=none→lk (WS t T l) k=some cs→(k=T∧∃cs0,lk l t=some cs0∧cs=AV.rnbL t T cs0)∨(k≠T∧k≠t∧∃cs0,lk l k=some cs0∧cs=AV.rnbL t T cs0)
 | [],k,cs,_,h=>by simp [WS,lk]at h
 |(j,vs)::l,k,cs,hn,h=>by
  rw [zc]at hn
  split at hn
  ·cases hn
  rename_i hjT
  simp only [WS,zc]at h
  by_cases hj:j=t
  ·rw [if_pos hj]at h
   split at h
   ·rename_i e
    cases h
    exact .inl ⟨e.symm,vs,by rw [zc,if_pos hj],rfl⟩
   ·rename_i e
    rcases ju hne hn h with⟨e1,-⟩|⟨h1,h2,cs0,h3,h4⟩
    ·exact absurd e1.symm e
    ·exact .inr ⟨h1,h2,cs0,by rw [zc,if_neg (fun e2=>h2 (by rw [←e2,hj]))];exact h3,h4⟩
  ·rw [if_neg hj]at h
   split at h
   ·rename_i e
    cases h
    exact .inr ⟨fun e2=>hjT (e.trans e2),fun e2=>hj (e.trans e2),vs,by rw [zc,if_pos e],rfl⟩
   ·rename_i e
    rcases ju hne hn h with⟨e1,cs0,h3,h4⟩|⟨h1,h2,cs0,h3,h4⟩
    ·exact .inl ⟨e1,cs0,by rw [zc,if_neg hj];exact h3,h4⟩
    ·exact .inr ⟨h1,h2,cs0,by rw [zc,if_neg e];exact h3,h4⟩
section
variable {P:Program} {τ:Ty} {lo:Nat} {w0:Fz} {st:St} {w:World} {rr:List (Nat×zo)} {bb bb':List (Nat×List AV)} {hd:Nat→Value} {bk bk':Nat→Nat} {t T:Nat}
mutual
theorem zBh (h1:(∃cs,lk bb' T=some cs)→(∃cs,lk bb t=some cs)∧bk' T=bk t)(h2: ∀k,k≠t→k≠T→(∃cs,lk bb' k=some cs)→(∃cs,lk bb k=some cs)∧bk' k=bk k): ∀(v:AV) (x:Value),AvR τ w rr bb hd bk v x→AvR τ w rr bb' hd bk' (v.rnb t T) x
 | .int k n,x,h=>by simpa only [AV.rnb,AvR]using h
 | .bool b,x,h=>by simpa only [AV.rnb,AvR]using h
 | .sl d p off len e,x,h=>by simpa only [AV.rnb,AvR]using h
 | .nil,x,h=>by simpa only [AV.rnb,AvR]using h
 | .ep d p i,x,h=>by simpa only [AV.rnb,AvR]using h
 | .bp k i,x,h=>by
  simp only [AV.rnb]
  split
  ·rename_i e
   subst e
   simp only [AvR]at h⊢
   exact⟨h.1,fun hl=>by rw [(h1 hl).2];exact h.2 (h1 hl).1⟩
  ·rename_i e
   split
   ·simp only [AvR]
   ·rename_i e2
    simp only [AvR]at h⊢
    exact⟨h.1,fun hl=>by rw [(h2 k e e2 hl).2];exact h.2 (h2 k e e2 hl).1⟩
 | .agg vs,x,h=>by
  simp only [AV.rnb,AvR]at h⊢
  obtain⟨cs,e,h⟩:=h
  exact⟨cs,e,ZZ h1 h2 vs cs h⟩
 | .tup vs,x,h=>by
  simp only [AV.rnb,AvR]at h⊢
  obtain⟨cs,e,h⟩:=h
  exact⟨cs,e,ZZ h1 h2 vs cs h⟩
 | .fn f vs,x,h=>by
  simp only [AV.rnb,AvR]at h⊢
  obtain⟨cs,e,h⟩:=h
  exact⟨cs,e,ZZ h1 h2 vs cs h⟩
 | .dead,x,h=>by simp only [AV.rnb,AvR]
 | .raw u,x,h=>by simpa only [AV.rnb,AvR]using h
theorem ZZ (h1:(∃cs,lk bb' T=some cs)→(∃cs,lk bb t=some cs)∧bk' T=bk t)(h2: ∀k,k≠t→k≠T→(∃cs,lk bb' k=some cs)→(∃cs,lk bb k=some cs)∧bk' k=bk k): ∀(vs:List AV) (xs:List Value),zZ τ w rr bb hd bk vs xs→zZ τ w rr bb' hd bk' (AV.rnbL t T vs) xs
 | [],xs,h=>by simpa only [AV.rnbL,zZ]using h
 |v::vs,xs,h=>by
  simp only [AV.rnbL,zZ]at h⊢
  obtain⟨x,xs',e,h3,h4⟩:=h
  exact⟨x,xs',e,zBh h1 h2 v x h3,ZZ h1 h2 vs xs' h4⟩
end
theorem zFQ (t T:Nat){c:Code}{Q:Exit→St→Prop}(hn:(t==T||T==1000000||t==1000000)=false)(hT:lk st.b T=none)(h:awp P τ c Q (st.renB t T)):awp P τ c Q st:=fun lo w0 a w hr=>by
 obtain⟨ow,hd,bk,hr⟩:=hr
 simp only [Bool.or_eq_false_iff,beq_eq_false_iff_ne]at hn
 obtain⟨⟨n1,n2⟩,n3⟩:=hn
 have hsh:=fun{k cs} h=>ju n1 (l:=st.b) (k:=k) (cs:=cs) hT h
 have h1:(∃cs,lk (WS t T st.b) T=some cs)→(∃cs,lk st.b t=some cs)∧upd bk T (bk t) T=bk t:=fun⟨cs,hcs⟩=>by
  rcases hsh hcs with⟨-,cs0,h3,-⟩|⟨h1,-⟩
  ·exact⟨⟨cs0,h3⟩,yA _ _ _⟩
  ·exact absurd rfl h1
 have h2: ∀k,k≠t→k≠T→(∃cs,lk (WS t T st.b) k=some cs)→(∃cs,lk st.b k=some cs)∧upd bk T (bk t) k=bk k:=fun k hkt hkT ⟨cs,hcs⟩=>by
  rcases hsh hcs with⟨e,-⟩|⟨-,-,cs0,h3,-⟩
  ·exact absurd e hkT
  ·exact⟨⟨cs0,h3⟩,yg _ _ hkT⟩
 obtain⟨ow',how⟩: ∃f:Nat→Option Pl,f=fun b=>match ow b with|some (.box k)=>if k=t then some (.box T)else some (.box k)|p=>p:=⟨_,rfl⟩
 have hsame: ∀(m:Md) b,rel m (ow b)→ow' b=ow b:=fun m b hrl=>by
  rw [how]
  simp only
  split
  ·rename_i e
   rw [e]at hrl
   cases m<;>simp [rel]at hrl
  ·rfl
 refine h lo w0 a w ⟨ow',hd,upd bk T (bk t),fun ad had=> ?_,hr.defers,hr.size,hr.low,hr.below,fun b p hlt hb hp=> ?_,fun b hb=> ?_,fun k v hv=> ?_,fun d R hR=> ?_,fun k cs hcs=> ?_,hr.pin⟩
 ·rw [yg _ _ (Ne.symm n2)]
  exact hr.big ad had
 ·rw [how]at hb
  simp only at hb
  split at hb
  ·rename_i e
   exact hr.ge b _ hlt e (by simp)
  ·exact hr.ge b p hlt hb hp
 ·rw [how]
  simp only [hr.new b hb]
 ·have hv2:lk (vJ (AV.rnb t T) st.s) k=some v:=hv
  rw [zy]at hv2
  cases hk:lk st.s k with
  |none=>rw [hk]at hv2;cases hv2
  |some v0=>rw [hk]at hv2;cases hv2;exact zBh h1 h2 v0 _ (hr.slot k v0 hk)
 ·exact yL _ _ (Nat.le_refl _) _ _ _ (fun b hb hrl=>⟨rfl,hsame _ b hrl⟩) (hr.root d R hR)
 ·rcases hsh hcs with⟨rfl,cs0,h3,rfl⟩|⟨e1,e2,cs0,h3,rfl⟩
  ·obtain⟨ds,dty,q1,q2,q3⟩:=hr.box t cs0 h3
   exact⟨ds,dty,by rw [yA];exact q1,by rw [yA,how];simp only [q2];rfl,ZZ h1 h2 _ _ q3⟩
  ·obtain⟨ds,dty,q1,q2,q3⟩:=hr.box k cs0 h3
   refine⟨ds,dty,by rw [yg _ _ e1];exact q1,?_,ZZ h1 h2 _ _ q3⟩
   rw [yg _ _ e1,how]
   simp only
   rw [q2]
   exact if_neg e2
end
attribute [push_cast] AV.rnb AV.rnbL WS St.renB
attribute [push_cast] Wl QT Kd XO ZY othB covR zDD
section
variable {P:Program} {np:Bool} {τ:Ty} {lo:Nat} {w0:Fz} {ow:Nat→Option Pl} {hd:Nat→Value} {bk:Nat→Nat} {st:St} {a:Act} {w:World}
end
def qn (st:St)(ls:List yu):St:={st with r:=XS ls st.r}
section
variable {P:Program} {np:Bool} {τ:Ty} {lo:Nat} {w0:Fz} {ow:Nat→Option Pl} {hd:Nat→Value} {bk:Nat→Nat} {st:St} {a:Act} {w:World}
theorem ud (h:zg τ lo w0 ow hd bk st a w){vs:List AV}{cv:List Value}(hv:zZ τ w st.r st.b hd bk vs cv){own:List Nat}{outs:List Out}{ls:List yu}{ob2:Prop}
  (hbad: ∀d,(∃x∈ls,x.d=d)→Zo d st) (hl:qJ τ st vs outs own=some (ls,ob2)) (hob2:ob2) (hsep:qq ls) (hnd:own.Nodup) {t:Nat} {w':World} {ow':Nat→Option Pl}
  (hk:xF ⟨w,fun b=>yl ow ls b=none,fun _=>none⟩ w') (hlow: ∀b,b<w.heap.size→yl ow ls b=none→ow' b=none) (hnew: ∀b p,ow' b=some p→b<w'.heap.size∧lo≤b∧∃d q,p= .root d q)
  (hout: ∀x∈outs,Rp (sz τ) lo w' ow' (.ex (wO x.1) []) (.lst x.2.1 x.2.2) (yK cv x.1)):
  zg τ lo w0 (xE ow ls w.heap.size t ow') hd bk (qn st ls) a w':=by
 obtain⟨l1,l2⟩:=YU hl hob2
 have hok: ∀x∈ls,∃len R,KP τ st vs outs x len R:=fun x hx=>by
  obtain⟨ob,e1,e2⟩:=l1 x hx;exact WE e1 e2
 have hids:(ls.map (·.id)).Nodup:=by rw [l2];exact hnd
 have old: ∀b,b<w.heap.size→yl ow ls b=none→w'.heap[b]? =w.heap[b]? ∧xE ow ls w.heap.size t ow' b=ow b:=fun b hb hn=>
  ⟨hk.block b hb hn,by unfold xE;rw [if_pos ⟨hb,by rw [hn];rfl⟩]⟩
 have back: ∀x∈ls,∀b q,ow' b=some (.root (wO x.id) q)→xE ow ls w.heap.size t ow' b=some (.root x.d (x.p++q)):=fun x hx b q hb=>by
  have : ¬(b<w.heap.size∧(yl ow ls b).isNone=true):=fun⟨h1,h2⟩=>by
   rw [hlow b h1 (by cases ho:yl ow ls b with|none=>rfl|some p=>rw [ho]at h2;cases h2)]at hb;cases hb
  unfold xE
  rw [if_neg this,hb]
  simp only
  rw [if_pos (by unfold wO;omega),show wO x.id - 1000000=x.id from by unfold wO;omega]
  exact Jm hids x hx
 have hge: ∀b p,xE ow ls w.heap.size t ow' b=some p→p≠ .ext→b<w'.heap.size→lo≤b∧w0.fre b:=fun b p hb hp hlt=>by
  by_cases hc:b<w.heap.size∧(yl ow ls b).isNone=true
  ·unfold xE at hb;rw [if_pos hc]at hb;exact h.ge b p hc.1 hb hp
  ·unfold xE at hb
   rw [if_neg hc]at hb
   have ho': ∃p',ow' b=some p':=by
    cases ho:ow' b with
    |none=>rw [ho]at hb;cases hb
    |some p'=>exact⟨p',rfl⟩
   obtain⟨p',ho'⟩:=ho'
   refine⟨(hnew b p' ho').2.1,fun hlt0=> ?_⟩
   have hbw:b<w.heap.size:=Nat.lt_of_lt_of_le hlt0 h.below.size
   cases hoi:yl ow ls b with
   |none=>exact absurd ⟨hbw,by rw [hoi];rfl⟩ hc
   |some p2=>
    obtain⟨d,q,ho,-⟩:=qT hoi
    exact(h.ge b _ hbw ho (by simp)).2 hlt0
 have hc:=h
 have hr: ∀d,lk (qn st ls).r d=if vk d ls=true then none else(lk st.r d).map fun R=>{R with xs:=qW d R.xs ls}:=fun d=>Qr ls st.r d
 have hrel: ∀(d:Nat) (R:zo),(∀x∈ls,x.d≠d)→∀b,b<w.heap.size→rel (md R.o d) (ow b)→w'.heap[b]? =w.heap[b]? ∧xE ow ls w.heap.size t ow' b=ow b:=fun d R hn b hb hr=>old b hb (VB hn hr)
 have h0: ∀d,(∃x∈ls,x.d=d)→QY st.r (qn st ls).r hd hd d:=fun d _ R' hR'=>by
  rw [hr]at hR'
  split at hR'
  ·cases hR'
  ·cases hx:lk st.r d with
   |none=>rw [hx]at hR';cases hR'
   |some R=>exact⟨R,rfl,rfl⟩
 have hD: ∀d,¬(∃x∈ls,x.d=d)→yx w w' st.r (qn st ls).r hd hd d:=fun d hn R' hR'=>by
  have hn': ∀x∈ls,x.d≠d:=fun x hx e=>hn ⟨x,hx,e⟩
  rw [hr,Ju hn']at hR'
  simp only [Bool.false_eq_true,if_false]at hR'
  cases hx:lk st.r d with
  |none=>rw [hx]at hR';cases hR'
  |some R=>
   rw [hx]at hR'
   simp only [Option.map_some,Option.some.injEq]at hR'
   subst hR'
   refine⟨R,rfl,rfl,fun p hp=> ?_⟩
   simp only [Yx hn']at hp⊢
   exact⟨hp,xX p _ _ _ _ (h.root d R hx) hp (fun b o A n c hb hrl hcell=>by
    rw [qD (hrel d R hn' b hb hrl).1];exact hcell)⟩
 have hB: ∀t,yw st.b (qn st ls).b bk bk t:=fun t hl=>⟨hl,rfl⟩
 refine⟨h.big,h.defers,h.size,Nat.le_trans h.low hk.size,h.below.step hk.os hk.tape hk.output hk.size (fun b hb hf=> ?_),fun b p hlt hb hp=>hge b p hb hp hlt,fun b hb=> ?_,fun k v hv'=> ?_,fun d R' hR'=> ?_,fun k us hv'=> ?_,fun d R' i hR' hp=> ?_⟩
 ·refine hk.block b hb ?_
  show yl ow ls b=none
  cases hoi:yl ow ls b with
  |none=>rfl
  |some p=>
   obtain⟨d,q,ho,-⟩:=qT hoi
   exact absurd (h.ge b _ hb ho (by simp)).2 hf
 ·have hb':w.heap.size≤b:=Nat.le_trans hk.size hb
  unfold xE
  rw [if_neg (fun hh=>by omega)]
  cases ho:ow' b with
  |none=>rfl
  |some p=>have :=(hnew b p ho).1;omega
 ·exact VY h0 hD hB v _ (fun d hd' hb=>(hbad d hb).s k v hv' hd') (hc.slot k v hv')
 ·rw [hr]at hR'
  split at hR'
  ·cases hR'
  ·rename_i hg
   have hg:vk d ls=false:=by simpa using hg
   cases hx:lk st.r d with
   |none=>rw [hx]at hR';cases hR'
   |some R=>
    rw [hx]at hR'
    simp only [Option.map_some,Option.some.injEq]at hR'
    subst hR'
    by_cases hin: ∃x∈ls,x.d=d
    ·have hex:R.o= .ex:=by
      obtain⟨x,hxm,rfl⟩:=hin
      obtain⟨len,R2,ho⟩:=hok x hxm
      have :=ho.root;rw [hx]at this;cases this
      exact ho.ex
     simp only [hex]
     by_cases hroot: ∃x∈ls,x.d=d∧x.p= []
     ·obtain⟨x,hxm,rfl,hp⟩:=hroot
      obtain⟨ys,hys⟩:=Ql hg x hxm rfl
      obtain⟨len,R2,ho⟩:=hok x hxm
      have :=ho.root;rw [hx]at this;cases this
      obtain⟨q1,-⟩:=Yt h hv ho
      rw [hp]at q1
      simp only [yM,Option.some.injEq]at q1
      have he:=ho.elem
      rw [hp]at he
      simp only [vK]at he
      simp only [Qv hsep x hxm rfl hp hys]
      have :=hout _ (ho.out ys hys)
      simp only at this
      rw [←q1,←he]at this
      exact xy _ _ _ _ _ [] [] _ (fun b q _ hb=>by
       have :=back x hxm b q (by simpa using hb)
       rw [hp]at this
       simpa using this) this
     ·have hone: ∀x∈ls,x.d=d→∃j ys,x.p= [j]∧x.out=some ys:=fun x hxm e=>by
       obtain⟨len,R2,ho⟩:=hok x hxm
       rcases ho.short with hs|hs
       ·exact absurd ⟨x,hxm,e,hs⟩ hroot
       ·exact hs
      have hone': ∀x∈ls,x.d=d→∃j,x.p= [j]:=fun x hxm e=>by obtain⟨j,ys,h1,-⟩:=hone x hxm e;exact⟨j,h1⟩
      have hrt:=h.root d R hx
      rw [hex]at hrt
      obtain⟨zs,k1,k5⟩:=(yE _ _).1 hrt
      have hlen:(qW d R.xs ls).length=R.xs.length:=XV hone'
      have hnil: ∀b,ow b=some (.root d [])→yl ow ls b=none:=fun b hb=>by
       cases hoi:yl ow ls b with
       |none=>rfl
       |some p=>
        obtain⟨d',q,h1,x,hxm,h2,q',h3,-⟩:=qT hoi
        rw [hb]at h1;cases h1
        obtain⟨j,hj⟩:=hone' x hxm h2
        rw [hj]at h3;simp at h3
      have k1':Hd (sz τ) lo w' (xE ow ls w.heap.size t ow') (.ex d []) R.e (hd d) R.xs.length zs:=by
       obtain⟨m1,N,m2,m3,m4⟩:=k1
       refine⟨m1,N,m2,⟨m3.1,?_⟩,fun b hb=> ?_⟩
       ·rcases m3.2 with hn|⟨g,cap,cur,hv2,hb2,hg2,rest⟩
        ·exact .inl hn
        ·have hgo:=m4 g (by rw [hv2];rfl)
         have hglt:g<w.heap.size:=(Array.getElem?_eq_some_iff.1 hg2).1
         exact .inr ⟨g,cap,cur,hv2,hb2,by rw [(old g hglt (hnil g hgo)).1];exact hg2,rest⟩
       ·have hgo:=m4 b hb
        rw [(old b (m3.lt b hb).2 (hnil b hgo)).2];exact hgo
      refine(yE _ _).2 ⟨zs,by rw [hlen];exact k1',fun i y u hy hu=> ?_⟩
      have hi:i<R.xs.length:=by rw [←hlen];exact(List.getElem?_eq_some_iff.1 hy).1
      by_cases hsel: ∃x∈ls,x.d=d∧x.p= [i]
      ·obtain⟨x,hxm,rfl,hp⟩:=hsel
       obtain⟨j,ys,hj,hys⟩:=hone x hxm rfl
       obtain⟨len,R2,ho⟩:=hok x hxm
       have :=ho.root;rw [hx]at this;cases this
       rw [KB hi hsep hone' x hxm rfl hp hys]at hy
       cases hy
       obtain⟨q1,-⟩:=Yt h hv ho
       rw [hp]at q1
       obtain⟨b1,o1,n1,c1,hv',hN,hb1,hr1,hc1⟩:=qV k1 hu
       rw [hv']at q1
       simp only [yM,hc1,Option.bind_some,Option.some.injEq]at q1
       have :=hout _ (ho.out ys hys)
       simp only at this
       rw [←q1]at this
       refine xy _ _ _ _ _ [] ([]++ [i]) _ (fun b q _ hb=> ?_) this
       have :=back x hxm b q (by simpa using hb)
       rw [hp]at this
       simpa using this
      ·rw [WL (fun x hxm e=>by
        obtain⟨j,hj⟩:=hone' x hxm e
        exact⟨j,hj,fun e2=>hsel ⟨x,hxm,e,by rw [hj,e2]⟩⟩)]at hy
       refine yL _ _ hk.size _ _ _ (fun b hb hr=>old b hb ?_) (k5 i y u hy hu)
       obtain⟨q,hq⟩:=hr
       cases hoi:yl ow ls b with
       |none=>rfl
       |some p=>
        obtain⟨d',q',h1,x,hxm,h2,q2,h3,-⟩:=qT hoi
        rw [hq]at h1
        simp only [Option.some.injEq,Pl.root.injEq,List.nil_append]at h1
        obtain⟨rfl,rfl⟩:=h1
        obtain⟨j,hj⟩:=hone' x hxm h2
        rw [hj]at h3
        simp only [List.cons_append,List.nil_append,List.cons.injEq]at h3
        exact absurd ⟨x,hxm,h2,by rw [hj,h3.1]⟩ hsel
    ·have hn': ∀x∈ls,x.d≠d:=fun x hx e=>hin ⟨x,hx,e⟩
     simp only [Yx hn']
     exact yL _ _ hk.size _ _ _ (fun b hb hr=>hrel d R hn' b hb hr) (h.root d R hx)
 ·obtain⟨cs,ty,q1,q2,q3⟩:=hc.box k us hv'
  have hlt:bk k<w.heap.size:=(Array.getElem?_eq_some_iff.1 q1).1
  have hno:yl ow ls (bk k)=none:=by unfold yl;rw [q2]
  exact⟨cs,ty,by rw [(old _ hlt hno).1];exact q1,by rw [(old _ hlt hno).2];exact q2,wE h0 hD hB us cs (fun d hd' hb=>(hbad d hb).b k us hv' hd') q3⟩
 ·rw [hr]at hR'
  split at hR'
  ·cases hR'
  ·cases hx:lk st.r d with
   |none=>rw [hx]at hR';cases hR'
   |some R=>
    rw [hx]at hR'
    simp only [Option.map_some,Option.some.injEq]at hR'
    subst hR'
    exact h.pin d R i hx hp
theorem zAf (h:zg τ lo w0 ow hd bk st a w){vs:List AV}{cv:List Value}(hv:zZ τ w st.r st.b hd bk vs cv){own:List Nat}{outs:List Out}{ls:List yu}{ob2:Prop}
  (hbad: ∀d,(∃x∈ls,x.d=d)→Zo d st) (hl:qJ τ st vs outs own=some (ls,ob2)) (hob2:ob2) (hsep:qq ls) (hnd:own.Nodup) {t:Nat} {ress:List VT} (hs:szL τ (zt ress)) (hfl:(zt ress).length≤1000000) {e:Ending} {w':World} (hp:ul τ lo w (yl ow ls) outs ress cv e w'):
  ∃z ow' hd',e= .returned z∧zg τ lo w0 ow' hd' bk (yd t 0 (zt ress) (qn st ls)) a w'∧AvR τ w' (yd t 0 (zt ress) (qn st ls)).r (yd t 0 (zt ress) (qn st ls)).b hd' bk (qU (xM τ t 0 ress)) z:=by
 obtain⟨rs,ow',he,hk,hlow,hnew,hres,hout⟩:=hp
 have h1:=ud h hv hbad hl hob2 hsep hnd (t:=t) hk hlow hnew hout
 have e2: ∀b j q,j<1000000→ow' b=some (.root j q)→xE ow ls w.heap.size t ow' b=some (.root (za t j) q):=fun b j q hj hq=>by
  have : ¬(b<w.heap.size∧(yl ow ls b).isNone=true):=fun⟨h1,h2⟩=>by
   rw [hlow b h1 (by cases ho:yl ow ls b with|none=>rfl|some p=>rw [ho]at h2;cases h2)]at hq;cases hq
  unfold xE
  rw [if_neg this,hq]
  simp only
  rw [if_neg (by omega)]
 obtain⟨cs,k1,k2,k3⟩:=Zz (bk:=bk) (τ:=τ) (rr:=(yd t 0 (zt ress) (qn st ls)).r) (bb:=(yd t 0 (zt ress) (qn st ls)).b) (t:=t) hres
 have k2': ∀(i:Nat) (d:D) (c:Value),(zt ress)[i]? =some d→cs[i]? =some c→Rp (sz τ) lo w' (xE ow ls w.heap.size t ow') (.ex (za t (0+i)) []) d c:=fun i d c hd hc=>by
  have hi:i<1000000:=Nat.lt_of_lt_of_le (List.getElem?_eq_some_iff.1 hd).1 hfl
  exact xy _ _ _ _ _ [] [] _ (fun b q _ e=>e2 b _ q (by omega) e) (k2 i d c hd hc)
 obtain⟨hd',r1,r2,r3⟩:=YY t (zt ress) 0 (qn st ls) hd cs h1 k1 k2'
 exact⟨vg rs,_,hd',he,r1,YZ (k3 w' hd' (qe (ow:=xE ow ls w.heap.size t ow') (lo:=lo) t (zt ress) 0 cs k1 hs (fun i d c h1 h2=>⟨_,k2' i d c h1 h2⟩) (fun i e xs c h1 h2=>(r3 i e xs c h1 h2).2)))⟩
def inD :List Nat→Option Tmp→Bool
 |x::xs,some d=>if x=d then true else inD xs (some d)
 |_,_=>false
def Jy (X:Oper→St→(Dl→Prop)→Prop)(P:Program)(np:Bool)(τ:Ty)(t:List Nat)(all:List Oper)(E:List Rec→St→Prop):List Oper→Nat→List Rec→St→Prop
 | [],_,cs,st=>E cs st
 |o::os,k,cs,st=>
  match o.guard with
  |none=>if inD t o.dst=true then X o st fun δ=>Jy X P np τ t all E os (k+1) (⟨k,fp o st,δ.wr⟩::cs) (st.app o.dst δ)else wT P np τ o st fun δ=>Jy X P np τ t all E os (k+1) (⟨k,fp o st,δ.wr⟩::cs) (st.app o.dst δ)
  |some _=>False
theorem uI {X:Oper→St→(Dl→Prop)→Prop}(hX: ∀o st K,X o st K→∃δ,qv P np τ o st δ∧K δ){t:List Nat}{all:List Oper}{A:List (List Nat)}{Q:St→Prop}: ∀(os:List Oper) (k:Nat) (cs:List Rec) (st:St),Jy X P np τ t all (fun cs st=>chk all A cs=true∧Q st) os k cs st→chk all A cs=true∧jr P np τ all A (fun st'=> ∃s,Eqv st' s∧Q s) os k cs st
 | [],k,cs,st,h=>⟨h.1,st,Eqv.refl _,h.2⟩
 |o::os,k,cs,st,h=>by
  have go:(∃δ,xT P np τ all o st δ∧Jy X P np τ t all (fun cs st=>chk all A cs=true∧Q st) os (k+1) (⟨k,fp o st,δ.wr⟩::cs) (st.app o.dst δ))→chk all A cs=true∧jr P np τ all A (fun st'=> ∃s,Eqv st' s∧Q s) (o::os) k cs st:=by
   rintro⟨δ,h1,h2⟩
   obtain⟨h3,h4⟩:=uI hX os _ _ _ h2
   simp only [chk,Bool.and_eq_true]at h3
   exact⟨h3.2,δ,h1,h3.1,h4⟩
  simp only [Jy]at h
  split at h
  ·rename_i hg
   split at h
   ·obtain⟨δ,h1,h2⟩:=hX _ _ _ h
    exact go ⟨δ,by unfold xT;rw [hg];exact h1,h2⟩
   ·obtain⟨δ,h1,h2⟩:=wm h
    exact go ⟨δ,by unfold xT;rw [hg];exact h1,h2⟩
  ·exact h.elim
end
attribute [push_cast] inD Jy XD
end Go.Proofs.Ytipplkjdmdlhpaa
