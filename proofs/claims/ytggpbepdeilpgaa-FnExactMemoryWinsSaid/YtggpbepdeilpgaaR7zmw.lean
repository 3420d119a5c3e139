/- records of pairs: valid pairs; both sides -/
import Derived.Test.YtggpbepdeilpgaaB10zmw
import Derived.Test.YtggpbepdeilpgaaB6zmw
import Derived.Test.YtggpbepdeilpgaaB5zmw
namespace Go.Proofs.Ytggpbepdeilpgaa
open Nat renaming reduceMod → zA, reduceMul → zB, reduceDiv → zC, reduceAdd → zD, reduceSub → zE, reduceEqDiff → zF, reduceBEq → zG, reduceLT → zH, reduceLeDiff → zI
open Go.RowKit
set_option linter.unusedVariables false
set_option linter.unusedSimpArgs false
def vM (ps:List Pr)(n:Int)(i:Nat):Bool:=xS (gp ps i).ask n&&xS (gp ps i).give n
theorem JG {ps:List Pr}{n:Int}{i:Nat}(h:xS (gp ps i).ask n=false):vM ps n i=false:=by unfold vM;rw [h];rfl
theorem JH {ps:List Pr}{n:Int}{i:Nat}(h:xS (gp ps i).give n=false):vM ps n i=false:=by unfold vM;rw [h,Bool.and_false]
theorem JI {ps:List Pr}{n:Int}{i:Nat}(h:xS (gp ps i).ask n=true)(h2:xS (gp ps i).give n=true):vM ps n i=true:=by unfold vM;rw [h,h2];rfl
def arB (ps:List Pr)(n:Int):Bool:=decide (ps.length≤4)&&wa ps.length (vM ps n)
def wU (ps:List Pr)(n:Int):Bool:=decide (0≤n∧n≤256)&&arB ps n
theorem WZ {ps:List Pr}{n:Int}{i:Nat}(hi:i<ps.length)(h:vM ps n i=false):arB ps n=false:=by unfold arB;rw [qf hi h,Bool.and_false]
theorem Ur {ps:List Pr}{n:Int}(h: ∀i,i<ps.length→vM ps n i=true):arB ps n=decide (ps.length≤4):=by unfold arB;rw [vE h,Bool.and_true]
theorem zDr {ps:List Pr}{n:Int}(h: ¬(0≤n∧n≤256)):wU ps n=false:=by unfold wU;rw [decide_eq_false h];rfl
theorem Xq {ps:List Pr}{n:Int}(h:arB ps n=false):wU ps n=false:=by unfold wU;rw [h,Bool.and_false]
theorem uV {ps:List Pr}{n:Int}(h:0≤n∧n≤256):wU ps n=arB ps n:=by unfold wU;rw [decide_eq_true h];rfl
theorem zEl {ps:List Pr}{n:Int}(h: ¬ps.length≤4):arB ps n=false:=by unfold arB;rw [decide_eq_false h];rfl
set_option maxRecDepth 20000 in
set_option maxHeartbeats 4000000 in
theorem UH (ps:List Pr)(ha:PLn 1048576 ps)(n:Int):Fn Try.prog tyT 43 [.c (.lst 76 (dII (ilv ps))), .c (.int .i64 n)] [.c (.bool (arB ps n))]:=by
 have hl:=ha.1
 have hg:=fun k=>Xa ha k
 have hga: ∀k,(gp ps k).ask.length≤1048576:=fun k=>(hg k).ask
 have hgg: ∀k,(gp ps k).give.length≤1048576:=fun k=>(hg k).give
 have hli:=Zb ps
 refine yC (fn:=Try.f43) (ts:= [4]) Try.func43 (by kernel_rfl) rfl rfl (by rw [Try.ntmps43];exact Nat.le_of_ble_eq_true rfl) rfl (by simp only [szA,List.mem_cons,List.not_mem_nil,or_false,forall_eq_or_imp,forall_eq,VT.cells,szL];try decide) ?_
 rw [Try.ntmps43]
 simp only [push_cast,↓zK,↓zJ,↓reduceIte,zA,zB,zC,zD,zE,zF,zG,zH,zI,reduceCtorEq]
 refine zL fun K hK=> ?_
 refine zM zQ zO [] rfl ?_
 all_goals simp only [push_cast,↓zK,↓zJ,↓reduceIte,zA,zB,zC,zD,zE,zF,zG,zH,zI,reduceCtorEq]
 all_goals repeat'(first|(apply zP<;>(intro hg;(try simp only [push_cast]at hg)))|apply And.intro|(intro hg;(try simp only [push_cast]at hg)))
 all_goals first|exact gA|(exact zN (by simp only [push_cast];omega))|(exact zN (by omega))|skip
 all_goals first|(refine hK _ ?_;clear hK K)|(simp only [push_cast];done)
 refine zL fun K1 hK1=> ?_
 refine zL fun K hK=> ?_
 refine zM zQ zO [] rfl ?_
 all_goals simp only [push_cast,↓zK,↓zJ,↓reduceIte,zA,zB,zC,zD,zE,zF,zG,zH,zI,reduceCtorEq]
 all_goals repeat'(first|(apply zP<;>(intro hg;(try simp only [push_cast]at hg)))|apply And.intro|(intro hg;(try simp only [push_cast]at hg)))
 all_goals first|exact gA|(exact zN (by simp only [push_cast];omega))|(exact zN (by omega))|skip
 all_goals first|(refine hK _ ?_;clear hK K)|(simp only [push_cast];done)
 refine zX ?_
 refine zn [4,6,9,10,11,12,13,14,15,16,17,18,19,20,21,22,23,24,25] [] (fun(k:Nat)=> [(9, .int .i64 k)]) (fun k=> []) (fun k=> []) (fun k=>k≤ps.length∧∀j,j<k→vM ps n j=true) (fun k=>ps.length - k) 0 ?_ ⟨by omega,fun j hj=>by omega⟩ ?_
 ·
  refine zb rfl ?_ ?_ ?_<;>simp only [zj,zi,push_cast,↓zK,↓zJ,↓reduceIte,zA,zB,zC,zD,zE,zF,zG,zH,zI,reduceCtorEq]
 ·rintro k ⟨hk,hall⟩ KL0 hL0
  simp only [push_cast,↓zK,↓zJ,↓reduceIte,zA,zB,zC,zD,zE,zF,zG,zH,zI,reduceCtorEq]
  refine zL fun K hK=> ?_
  refine zM zQ zO [] rfl ?_
  all_goals simp only [push_cast,↓zK,↓zJ,↓reduceIte,zA,zB,zC,zD,zE,zF,zG,zH,zI,reduceCtorEq]
  all_goals repeat'(first|(apply zP<;>(intro hg;(try simp only [push_cast]at hg)))|apply And.intro|(intro hg;(try simp only [push_cast]at hg)))
  all_goals first|exact gA|(exact zN (by simp only [push_cast];omega))|(exact zN (by omega))|skip
  all_goals first|(refine hK _ ?_;clear hK K)|(simp only [push_cast];done)
  refine zL fun K2 hK2=> ?_
  refine zU rfl (fun hc=> ?_) (fun hc=> ?_)<;>(try simp only [push_cast]at hc)
  ·
   refine zV ?_
   (try simp only [zS,zT,reduceIte,zF]);refine hK2 _ ?_
   refine zL fun K3 hK3=> ?_
   refine zX ?_
   refine zL fun K hK=> ?_
   refine zM zQ zO [] rfl ?_
   all_goals simp only [push_cast,↓zK,↓zJ,↓reduceIte,zA,zB,zC,zD,zE,zF,zG,zH,zI,reduceCtorEq]
   all_goals repeat'(first|(apply zP<;>(intro hg;(try simp only [push_cast]at hg)))|apply And.intro|(intro hg;(try simp only [push_cast]at hg)))
   all_goals first|exact gA|(exact zN (by simp only [push_cast];omega))|(exact zN (by omega))|skip
   all_goals first|(refine hK _ ?_;clear hK K)|(simp only [push_cast];done)
   refine zL fun K hK=> ?_
   refine zf false zQ zO ?_ rfl ?_
   ·kernel_rfl
   all_goals refine yE 4 fun K9 hK9=> ?_
   all_goals simp only [push_cast,↓zK,↓zJ,↓reduceIte,zA,zB,zC,zD,zE,zF,zG,zH,zI,reduceCtorEq]
   all_goals repeat'(first|(apply zP<;>(intro hg;(try simp only [push_cast]at hg)))|(refine⟨_,yY (gp ps k).ask n (hga k),?_⟩;simp only [push_cast,↓zK,↓zJ,↓reduceIte,zA,zB,zC,zD,zE,zF,zG,zH,zI,reduceCtorEq])|(refine⟨_,yY (gp ps k).give n (hgg k),?_⟩;simp only [push_cast,↓zK,↓zJ,↓reduceIte,zA,zB,zC,zD,zE,zF,zG,zH,zI,reduceCtorEq])|apply And.intro|(intro hg;(try simp only [push_cast]at hg)))
   all_goals first|exact gA|(exact zN (by simp only [push_cast];omega))|(exact zN (by omega))|skip
   all_goals first|(refine hK9 _ ?_;clear hK9 K9)|(simp only [push_cast];done)
   all_goals refine yE 6 fun K9 hK9=> ?_
   all_goals simp only [push_cast,↓zK,↓zJ,↓reduceIte,zA,zB,zC,zD,zE,zF,zG,zH,zI,reduceCtorEq]
   all_goals repeat'(first|(apply zP<;>(intro hg;(try simp only [push_cast]at hg)))|(refine⟨_,yY (gp ps k).ask n (hga k),?_⟩;simp only [push_cast,↓zK,↓zJ,↓reduceIte,zA,zB,zC,zD,zE,zF,zG,zH,zI,reduceCtorEq])|(refine⟨_,yY (gp ps k).give n (hgg k),?_⟩;simp only [push_cast,↓zK,↓zJ,↓reduceIte,zA,zB,zC,zD,zE,zF,zG,zH,zI,reduceCtorEq])|apply And.intro|(intro hg;(try simp only [push_cast]at hg)))
   all_goals first|exact gA|(exact zN (by simp only [push_cast];omega))|(exact zN (by omega))|skip
   all_goals first|(refine hK9 _ ?_;clear hK9 K9)|(simp only [push_cast];done)
   all_goals simp only [push_cast,↓zK,↓zJ,↓reduceIte,zA,zB,zC,zD,zE,zF,zG,zH,zI,reduceCtorEq]
   all_goals repeat'(first|(apply zP<;>(intro hg;(try simp only [push_cast]at hg)))|(refine⟨_,yY (gp ps k).ask n (hga k),?_⟩;simp only [push_cast,↓zK,↓zJ,↓reduceIte,zA,zB,zC,zD,zE,zF,zG,zH,zI,reduceCtorEq])|(refine⟨_,yY (gp ps k).give n (hgg k),?_⟩;simp only [push_cast,↓zK,↓zJ,↓reduceIte,zA,zB,zC,zD,zE,zF,zG,zH,zI,reduceCtorEq])|apply And.intro|(intro hg;(try simp only [push_cast]at hg)))
   all_goals first|exact gA|(exact zN (by simp only [push_cast];omega))|(exact zN (by omega))|skip
   all_goals first|(refine hK _ ?_;clear hK K)|(simp only [push_cast];done)
   all_goals refine zU rfl (fun hc=> ?_) (fun hc=> ?_)
   all_goals(first|(cases hc;done)|skip)
   all_goals(try simp only [push_cast]at hc)
   all_goals try(
     refine zL fun K hK=> ?_
     refine zM zQ zO [] rfl ?_
     all_goals simp only [push_cast,↓zK,↓zJ,↓reduceIte,zA,zB,zC,zD,zE,zF,zG,zH,zI,reduceCtorEq]
     all_goals repeat'(first|(apply zP<;>(intro hg;(try simp only [push_cast]at hg)))|apply And.intro|(intro hg;(try simp only [push_cast]at hg)))
     all_goals first|exact gA|(exact zN (by simp only [push_cast];omega))|(exact zN (by omega))|skip
     all_goals first|(refine hK _ ?_;clear hK K)|(simp only [push_cast];done)
     refine za ?_
     (try simp only [zS,zT])
     refine⟨Or.inl rfl,?_⟩
     simp only [ze,push_cast,↓zK,↓zJ,↓reduceIte,zA,zB,zC,zD,zE,zF,zG,zH,zI,reduceCtorEq]
     first|exact(WZ (i:=k) (by omega) (JG (by with_reducible assumption))).symm|exact(WZ (i:=k) (by omega) (JH (by with_reducible assumption))).symm
     done)
   refine zV ?_
   (try simp only [zS,zT,reduceIte,zF]);refine hK3 _ ?_
   refine zM zQ zO [] rfl ?_
   all_goals simp only [push_cast,↓zK,↓zJ,↓reduceIte,zA,zB,zC,zD,zE,zF,zG,zH,zI,reduceCtorEq]
   all_goals repeat'(first|(apply zP<;>(intro hg;(try simp only [push_cast]at hg)))|apply And.intro|(intro hg;(try simp only [push_cast]at hg)))
   all_goals first|exact gA|(exact zN (by simp only [push_cast];omega))|(exact zN (by omega))|skip
   refine hL0 _ ⟨k+1,⟨by omega,fun j hj=>(by
     by_cases hjk:j=k
     ·subst hjk;exact JI (by with_reducible assumption) (by with_reducible assumption)
     ·exact hall j (by omega))⟩,by omega,?_⟩
   refine zb rfl ?_ ?_ ?_<;>simp only [zj,zi,push_cast,↓zK,↓zJ,↓reduceIte,zA,zB,zC,zD,zE,zF,zG,zH,zI,reduceCtorEq]
  ·
   refine zp ?_
   have hkk:k=ps.length:=by omega
   subst hkk
   (try simp only [zS,zT,reduceIte,zF]);refine hK1 _ ?_
   refine zL fun K hK=> ?_
   refine zM zQ zO [] rfl ?_
   all_goals simp only [push_cast,↓zK,↓zJ,↓reduceIte,zA,zB,zC,zD,zE,zF,zG,zH,zI,reduceCtorEq]
   all_goals repeat'(first|(apply zP<;>(intro hg;(try simp only [push_cast]at hg)))|apply And.intro|(intro hg;(try simp only [push_cast]at hg)))
   all_goals first|exact gA|(exact zN (by simp only [push_cast];omega))|(exact zN (by omega))|skip
   all_goals first|(refine hK _ ?_;clear hK K)|(simp only [push_cast];done)
   refine za ?_
   (try simp only [zS,zT])
   refine⟨Or.inl rfl,?_⟩
   simp only [ze,push_cast,↓zK,↓zJ,↓reduceIte,zA,zB,zC,zD,zE,zF,zG,zH,zI,reduceCtorEq]
   rw [Ur hall]
   all_goals first|rfl|(simp;done)|(refine decide_eq_decide.2 ?_;omega)|(symm;refine decide_eq_decide.2 ?_;omega)
set_option maxRecDepth 20000 in
set_option maxHeartbeats 4000000 in
theorem UB (ps:List Pr)(ha:PLn 1048576 ps)(n:Int):Fn Try.prog tyT 33 [.c (.lst 76 (dII (ilv ps))), .c (.int .i64 n)] [.c (.bool (wU ps n))]:=by
 have hl:=ha.1
 have hg:=fun k=>Xa ha k
 have hga: ∀k,(gp ps k).ask.length≤1048576:=fun k=>(hg k).ask
 have hgg: ∀k,(gp ps k).give.length≤1048576:=fun k=>(hg k).give
 have hli:=Zb ps
 refine yC (fn:=Try.f33) (ts:= [4]) Try.func33 (by kernel_rfl) rfl rfl (by rw [Try.ntmps33];exact Nat.le_of_ble_eq_true rfl) rfl (by simp only [szA,List.mem_cons,List.not_mem_nil,or_false,forall_eq_or_imp,forall_eq,VT.cells,szL];try decide) ?_
 rw [Try.ntmps33]
 simp only [push_cast,↓zK,↓zJ,↓reduceIte,zA,zB,zC,zD,zE,zF,zG,zH,zI,reduceCtorEq]
 refine zL fun K hK=> ?_
 refine zM zQ zO [] rfl ?_
 all_goals simp only [push_cast,↓zK,↓zJ,↓reduceIte,zA,zB,zC,zD,zE,zF,zG,zH,zI,reduceCtorEq]
 all_goals repeat'(first|(apply zP<;>(intro hg;(try simp only [push_cast]at hg)))|apply And.intro|(intro hg;(try simp only [push_cast]at hg)))
 all_goals first|exact gA|(exact zN (by simp only [push_cast];omega))|(exact zN (by omega))|skip
 all_goals first|(refine hK _ ?_;clear hK K)|(simp only [push_cast];done)
 refine zL fun K1 hK1=> ?_
 refine zL fun K hK=> ?_
 refine zf false zQ zO ?_ rfl ?_
 ·kernel_rfl
 all_goals refine yE 2 fun K9 hK9=> ?_
 all_goals simp only [push_cast,↓zK,↓zJ,↓reduceIte,zA,zB,zC,zD,zE,zF,zG,zH,zI,reduceCtorEq]
 all_goals repeat'(first|(apply zP<;>(intro hg;(try simp only [push_cast]at hg)))|(refine⟨_,yM n 0 256,?_⟩;simp only [push_cast,↓zK,↓zJ,↓reduceIte,zA,zB,zC,zD,zE,zF,zG,zH,zI,reduceCtorEq])|apply And.intro|(intro hg;(try simp only [push_cast]at hg)))
 all_goals first|exact gA|(exact zN (by simp only [push_cast];omega))|(exact zN (by omega))|skip
 all_goals first|(refine hK9 _ ?_;clear hK9 K9)|(simp only [push_cast];done)
 all_goals simp only [push_cast,↓zK,↓zJ,↓reduceIte,zA,zB,zC,zD,zE,zF,zG,zH,zI,reduceCtorEq]
 all_goals repeat'(first|(apply zP<;>(intro hg;(try simp only [push_cast]at hg)))|(refine⟨_,yM n 0 256,?_⟩;simp only [push_cast,↓zK,↓zJ,↓reduceIte,zA,zB,zC,zD,zE,zF,zG,zH,zI,reduceCtorEq])|apply And.intro|(intro hg;(try simp only [push_cast]at hg)))
 all_goals first|exact gA|(exact zN (by simp only [push_cast];omega))|(exact zN (by omega))|skip
 all_goals first|(refine hK _ ?_;clear hK K)|(simp only [push_cast];done)
 all_goals refine zU rfl (fun hc=> ?_) (fun hc=> ?_)
 all_goals(first|(cases hc;done)|skip)
 all_goals(try simp only [push_cast]at hc)
 all_goals try(
   refine zL fun K hK=> ?_
   refine zM zQ zO [] rfl ?_
   all_goals simp only [push_cast,↓zK,↓zJ,↓reduceIte,zA,zB,zC,zD,zE,zF,zG,zH,zI,reduceCtorEq]
   all_goals repeat'(first|(apply zP<;>(intro hg;(try simp only [push_cast]at hg)))|apply And.intro|(intro hg;(try simp only [push_cast]at hg)))
   all_goals first|exact gA|(exact zN (by simp only [push_cast];omega))|(exact zN (by omega))|skip
   all_goals first|(refine hK _ ?_;clear hK K)|(simp only [push_cast];done)
   refine za ?_
   (try simp only [zS,zT])
   refine⟨Or.inl rfl,?_⟩
   simp only [ze,push_cast,↓zK,↓zJ,↓reduceIte,zA,zB,zC,zD,zE,zF,zG,zH,zI,reduceCtorEq]
   all_goals first|exact(zDr (by omega)).symm|exact(Xq (zEl (by omega))).symm
   done)
 refine zV ?_
 (try simp only [zS,zT,reduceIte,zF]);refine hK1 _ ?_
 refine zL fun K2 hK2=> ?_
 refine zL fun K hK=> ?_
 refine zM zQ zO [] rfl ?_
 all_goals simp only [push_cast,↓zK,↓zJ,↓reduceIte,zA,zB,zC,zD,zE,zF,zG,zH,zI,reduceCtorEq]
 all_goals repeat'(first|(apply zP<;>(intro hg;(try simp only [push_cast]at hg)))|apply And.intro|(intro hg;(try simp only [push_cast]at hg)))
 all_goals first|exact gA|(exact zN (by simp only [push_cast];omega))|(exact zN (by omega))|skip
 all_goals first|(refine hK _ ?_;clear hK K)|(simp only [push_cast];done)
 refine zX ?_
 refine zn [4,5,9,14,15,16,17,18,19,20,21,22,23,24,25,26,27,28,29,30,31,32,33,34,35,36,37] [] (fun(k:Nat)=> [(5, .int .i64 k)]) (fun k=> []) (fun k=> []) (fun k=>k≤ps.length∧∀j,j<k→vM ps n j=true) (fun k=>ps.length - k) 0 ?_ ⟨by omega,fun j hj=>by omega⟩ ?_
 ·
  refine zb rfl ?_ ?_ ?_<;>simp only [zj,zi,push_cast,↓zK,↓zJ,↓reduceIte,zA,zB,zC,zD,zE,zF,zG,zH,zI,reduceCtorEq]
 ·rintro k ⟨hk,hall⟩ KL0 hL0
  simp only [push_cast,↓zK,↓zJ,↓reduceIte,zA,zB,zC,zD,zE,zF,zG,zH,zI,reduceCtorEq]
  refine zL fun K3 hK3=> ?_
  refine zL fun K hK=> ?_
  refine zM zQ zO [] rfl ?_
  all_goals simp only [push_cast,↓zK,↓zJ,↓reduceIte,zA,zB,zC,zD,zE,zF,zG,zH,zI,reduceCtorEq]
  all_goals repeat'(first|(apply zP<;>(intro hg;(try simp only [push_cast]at hg)))|apply And.intro|(intro hg;(try simp only [push_cast]at hg)))
  all_goals first|exact gA|(exact zN (by simp only [push_cast];omega))|(exact zN (by omega))|skip
  all_goals first|(refine hK _ ?_;clear hK K)|(simp only [push_cast];done)
  refine zU rfl (fun hc=> ?_) (fun hc=> ?_)<;>(try simp only [push_cast]at hc)
  ·
   refine zV ?_
   (try simp only [zS,zT,reduceIte,zF]);refine hK3 _ ?_
   refine zL fun K4 hK4=> ?_
   refine zX ?_
   refine zL fun K hK=> ?_
   refine zf false zQ zO ?_ rfl ?_
   ·kernel_rfl
   all_goals refine yE 7 fun K9 hK9=> ?_
   all_goals simp only [push_cast,↓zK,↓zJ,↓reduceIte,zA,zB,zC,zD,zE,zF,zG,zH,zI,reduceCtorEq]
   all_goals repeat'(first|(apply zP<;>(intro hg;(try simp only [push_cast]at hg)))|(refine⟨_,vx (gp ps k).ask (hga k) n (by omega),?_⟩;simp only [push_cast,↓zK,↓zJ,↓reduceIte,zA,zB,zC,zD,zE,zF,zG,zH,zI,reduceCtorEq])|(refine⟨_,vx (gp ps k).give (hgg k) n (by omega),?_⟩;simp only [push_cast,↓zK,↓zJ,↓reduceIte,zA,zB,zC,zD,zE,zF,zG,zH,zI,reduceCtorEq])|apply And.intro|(intro hg;(try simp only [push_cast]at hg)))
   all_goals first|exact gA|(exact zN (by simp only [push_cast];omega))|(exact zN (by omega))|skip
   all_goals first|(refine hK9 _ ?_;clear hK9 K9)|(simp only [push_cast];done)
   all_goals refine yE 9 fun K9 hK9=> ?_
   all_goals simp only [push_cast,↓zK,↓zJ,↓reduceIte,zA,zB,zC,zD,zE,zF,zG,zH,zI,reduceCtorEq]
   all_goals repeat'(first|(apply zP<;>(intro hg;(try simp only [push_cast]at hg)))|(refine⟨_,vx (gp ps k).ask (hga k) n (by omega),?_⟩;simp only [push_cast,↓zK,↓zJ,↓reduceIte,zA,zB,zC,zD,zE,zF,zG,zH,zI,reduceCtorEq])|(refine⟨_,vx (gp ps k).give (hgg k) n (by omega),?_⟩;simp only [push_cast,↓zK,↓zJ,↓reduceIte,zA,zB,zC,zD,zE,zF,zG,zH,zI,reduceCtorEq])|apply And.intro|(intro hg;(try simp only [push_cast]at hg)))
   all_goals first|exact gA|(exact zN (by simp only [push_cast];omega))|(exact zN (by omega))|skip
   all_goals first|(refine hK9 _ ?_;clear hK9 K9)|(simp only [push_cast];done)
   all_goals simp only [push_cast,↓zK,↓zJ,↓reduceIte,zA,zB,zC,zD,zE,zF,zG,zH,zI,reduceCtorEq]
   all_goals repeat'(first|(apply zP<;>(intro hg;(try simp only [push_cast]at hg)))|(refine⟨_,vx (gp ps k).ask (hga k) n (by omega),?_⟩;simp only [push_cast,↓zK,↓zJ,↓reduceIte,zA,zB,zC,zD,zE,zF,zG,zH,zI,reduceCtorEq])|(refine⟨_,vx (gp ps k).give (hgg k) n (by omega),?_⟩;simp only [push_cast,↓zK,↓zJ,↓reduceIte,zA,zB,zC,zD,zE,zF,zG,zH,zI,reduceCtorEq])|apply And.intro|(intro hg;(try simp only [push_cast]at hg)))
   all_goals first|exact gA|(exact zN (by simp only [push_cast];omega))|(exact zN (by omega))|skip
   all_goals first|(refine hK _ ?_;clear hK K)|(simp only [push_cast];done)
   all_goals refine zU rfl (fun hc=> ?_) (fun hc=> ?_)
   all_goals(first|(cases hc;done)|skip)
   all_goals(try simp only [push_cast]at hc)
   all_goals try(
     refine zL fun K hK=> ?_
     refine zM zQ zO [] rfl ?_
     all_goals simp only [push_cast,↓zK,↓zJ,↓reduceIte,zA,zB,zC,zD,zE,zF,zG,zH,zI,reduceCtorEq]
     all_goals repeat'(first|(apply zP<;>(intro hg;(try simp only [push_cast]at hg)))|apply And.intro|(intro hg;(try simp only [push_cast]at hg)))
     all_goals first|exact gA|(exact zN (by simp only [push_cast];omega))|(exact zN (by omega))|skip
     all_goals first|(refine hK _ ?_;clear hK K)|(simp only [push_cast];done)
     refine za ?_
     (try simp only [zS,zT])
     refine⟨Or.inl rfl,?_⟩
     simp only [ze,push_cast,↓zK,↓zJ,↓reduceIte,zA,zB,zC,zD,zE,zF,zG,zH,zI,reduceCtorEq]
     first|exact(Xq (WZ (i:=k) (by omega) (JG (by with_reducible assumption)))).symm|exact(Xq (WZ (i:=k) (by omega) (JH (by with_reducible assumption)))).symm
     done)
   refine zV ?_
   (try simp only [zS,zT,reduceIte,zF]);refine hK4 _ ?_
   refine zM zQ zO [] rfl ?_
   all_goals simp only [push_cast,↓zK,↓zJ,↓reduceIte,zA,zB,zC,zD,zE,zF,zG,zH,zI,reduceCtorEq]
   all_goals repeat'(first|(apply zP<;>(intro hg;(try simp only [push_cast]at hg)))|apply And.intro|(intro hg;(try simp only [push_cast]at hg)))
   all_goals first|exact gA|(exact zN (by simp only [push_cast];omega))|(exact zN (by omega))|skip
   refine hL0 _ ⟨k+1,⟨by omega,fun j hj=>(by
     by_cases hjk:j=k
     ·subst hjk;exact JI (by with_reducible assumption) (by with_reducible assumption)
     ·exact hall j (by omega))⟩,by omega,?_⟩
   refine zb rfl ?_ ?_ ?_<;>simp only [zj,zi,push_cast,↓zK,↓zJ,↓reduceIte,zA,zB,zC,zD,zE,zF,zG,zH,zI,reduceCtorEq]
  ·
   refine zp ?_
   have hkk:k=ps.length:=by omega
   subst hkk
   (try simp only [zS,zT,reduceIte,zF]);refine hK2 _ ?_
   refine zL fun K hK=> ?_
   refine zM zQ zO [] rfl ?_
   all_goals simp only [push_cast,↓zK,↓zJ,↓reduceIte,zA,zB,zC,zD,zE,zF,zG,zH,zI,reduceCtorEq]
   all_goals repeat'(first|(apply zP<;>(intro hg;(try simp only [push_cast]at hg)))|apply And.intro|(intro hg;(try simp only [push_cast]at hg)))
   all_goals first|exact gA|(exact zN (by simp only [push_cast];omega))|(exact zN (by omega))|skip
   all_goals first|(refine hK _ ?_;clear hK K)|(simp only [push_cast];done)
   refine za ?_
   (try simp only [zS,zT])
   refine⟨Or.inl rfl,?_⟩
   simp only [ze,push_cast,↓zK,↓zJ,↓reduceIte,zA,zB,zC,zD,zE,zF,zG,zH,zI,reduceCtorEq]
   rw [uV (by omega),Ur hall]
   exact(decide_eq_true (by omega)).symm
end Go.Proofs.Ytggpbepdeilpgaa
