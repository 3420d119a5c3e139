/- records of pairs: valid pairs; both sides -/
import Derived.Test.YtcleaokoimhedaaGreatB8zmo
import Derived.Test.YtcleaokoimhedaaGreatB7zmo
import Derived.Test.YtcleaokoimhedaaGreatB6zmo
namespace Go.Proofs.YtcleaokoimhedaaGreat
open Nat renaming reduceMod → zA, reduceMul → zB, reduceDiv → zC, reduceAdd → zD, reduceSub → zE, reduceEqDiff → zF, reduceBEq → zG, reduceLT → zH, reduceLeDiff → zI
open Go.RowKit
set_option linter.unusedVariables false
set_option linter.unusedSimpArgs false
def ZA (ps:List Pr)(n:Int)(i:Nat):Bool:=xN (gp ps i).ask n&&xN (gp ps i).give n
theorem UV {ps:List Pr}{n:Int}{i:Nat}(h:xN (gp ps i).ask n=false):ZA ps n i=false:=by unfold ZA;rw [h];rfl
theorem UW {ps:List Pr}{n:Int}{i:Nat}(h:xN (gp ps i).give n=false):ZA ps n i=false:=by unfold ZA;rw [h,Bool.and_false]
theorem UX {ps:List Pr}{n:Int}{i:Nat}(h:xN (gp ps i).ask n=true)(h2:xN (gp ps i).give n=true):ZA ps n i=true:=by unfold ZA;rw [h,h2];rfl
def arB (ps:List Pr)(n:Int):Bool:=decide (ps.length≤4)&&Za ps.length (ZA ps n)
def uD (ps:List Pr)(n:Int):Bool:=decide (0≤n∧n≤256)&&arB ps n
theorem uj {ps:List Pr}{n:Int}{i:Nat}(hi:i<ps.length)(h:ZA ps n i=false):arB ps n=false:=by unfold arB;rw [YT hi h,Bool.and_false]
theorem zE1 {ps:List Pr}{n:Int}(h: ∀i,i<ps.length→ZA ps n i=true):arB ps n=decide (ps.length≤4):=by unfold arB;rw [wn h,Bool.and_true]
theorem zJv {ps:List Pr}{n:Int}(h: ¬(0≤n∧n≤256)):uD ps n=false:=by unfold uD;rw [decide_eq_false h];rfl
theorem uE {ps:List Pr}{n:Int}(h:arB ps n=false):uD ps n=false:=by unfold uD;rw [h,Bool.and_false]
theorem uF {ps:List Pr}{n:Int}(h:0≤n∧n≤256):uD ps n=arB ps n:=by unfold uD;rw [decide_eq_true h];rfl
theorem zK1 {ps:List Pr}{n:Int}(h: ¬ps.length≤4):arB ps n=false:=by unfold arB;rw [decide_eq_false h];rfl
set_option maxRecDepth 20000 in
set_option maxHeartbeats 4000000 in
theorem zEJ (ps:List Pr)(ha:PLn 1048576 ps)(n:Int):Fn Tryz.prog tyT 29 [.c (.lst 64 (dII (ilv ps))), .c (.int .i64 n)] [.c (.bool (arB ps n))]:=by
 have hl:=ha.1
 have hg:=fun k=>Xt ha k
 have hga: ∀k,(gp ps k).ask.length≤1048576:=fun k=>(hg k).ask
 have hgg: ∀k,(gp ps k).give.length≤1048576:=fun k=>(hg k).give
 have hli:=yq ps
 refine θH (ts:= [4]) Tryz.func29 Tryz.ntmps29 ?_
 push_cast [↓zK,↓zJ]
 refine θA ?_
 refine zL fun K1 hK1=> ?_
 refine θA ?_
 refine zV ?_
 refine zg [4,6,9,10,11,12,13,14,15,16,17,18,19,20,21,22,23,24,25] [] (fun(k:Nat)=> [(9, .int .i64 k)]) (fun k=> []) (fun k=> []) (fun k=>k≤ps.length∧∀j,j<k→ZA ps n j=true) (fun k=>ps.length - k) 0 ?_ ⟨by omega,fun j hj=>by omega⟩ ?_
 ·
  exact θX
 ·rintro k ⟨hk,hall⟩ KL0 hL0
  push_cast [↓zK,↓zJ]
  refine θA ?_
  refine zL fun K2 hK2=> ?_
  refine θU (fun hc=> ?_) fun hc=> ?_
  ·
   refine zU (hK2 _ ?_)
   refine zL fun K3 hK3=> ?_
   refine zV ?_
   refine θA ?_
   refine zL fun K hK=> ?_
   refine zf false zO zN ?_ rfl ?_
   ·kernel_rfl
   all_goals refine yD 4 fun K9 hK9=> ?_
   all_goals push_cast [↓zK,↓zJ]
   all_goals repeat'(first|(apply zP<;>(intro hg;(try push_cast at hg)))|(refine⟨_,xS (gp ps k).ask n (hga k),?_⟩;push_cast [↓zK,↓zJ])|(refine⟨_,xS (gp ps k).give n (hgg k),?_⟩;push_cast [↓zK,↓zJ])|apply And.intro|(intro hg;(try push_cast at hg)))
   all_goals first|exact gA|(exact zQ (by simp only [push_cast];omega))|(exact zQ (by omega))|skip
   all_goals(refine hK9 _ ?_;clear hK9 K9)
   all_goals refine yD 6 fun K9 hK9=> ?_
   all_goals push_cast [↓zK,↓zJ]
   all_goals repeat'(first|(apply zP<;>(intro hg;(try push_cast at hg)))|(refine⟨_,xS (gp ps k).ask n (hga k),?_⟩;push_cast [↓zK,↓zJ])|(refine⟨_,xS (gp ps k).give n (hgg k),?_⟩;push_cast [↓zK,↓zJ])|apply And.intro|(intro hg;(try push_cast at hg)))
   all_goals first|exact gA|(exact zQ (by simp only [push_cast];omega))|(exact zQ (by omega))|skip
   all_goals(refine hK9 _ ?_;clear hK9 K9)
   all_goals push_cast [↓zK,↓zJ]
   all_goals repeat'(first|(apply zP<;>(intro hg;(try push_cast at hg)))|(refine⟨_,xS (gp ps k).ask n (hga k),?_⟩;push_cast [↓zK,↓zJ])|(refine⟨_,xS (gp ps k).give n (hgg k),?_⟩;push_cast [↓zK,↓zJ])|apply And.intro|(intro hg;(try push_cast at hg)))
   all_goals first|exact gA|(exact zQ (by simp only [push_cast];omega))|(exact zQ (by omega))|skip
   all_goals(refine hK _ ?_;clear hK K)
   all_goals refine zT rfl (fun hc=> ?_) (fun hc=> ?_)
   all_goals(first|(cases hc;done)|skip)
   all_goals(try simp only [push_cast]at hc)
   all_goals try(
     refine θA ?_
     refine zZ ⟨Or.inl rfl,?_⟩
     push_cast [zd,↓zK,↓zJ]
     first|exact(uj (i:=k) (by omega) (UV (by with_reducible assumption))).symm|exact(uj (i:=k) (by omega) (UW (by with_reducible assumption))).symm
     done)
   refine zU (hK3 _ ?_)
   refine θB ?_
   refine hL0 _ ⟨k+1,⟨by omega,fun j hj=>(by
     by_cases hjk:j=k
     ·subst hjk;exact UX (by with_reducible assumption) (by with_reducible assumption)
     ·exact hall j (by omega))⟩,by omega,?_⟩
   exact θX
  ·
   refine zh ?_
   have hkk:k=ps.length:=by omega
   subst hkk
   refine hK1 _ ?_
   refine θA ?_
   refine zZ ⟨Or.inl rfl,?_⟩
   push_cast [zd,↓zK,↓zJ]
   rw [zE1 hall]
   all_goals first|rfl|(simp;done)|(refine decide_eq_decide.2 ?_;omega)|(symm;refine decide_eq_decide.2 ?_;omega)
set_option maxRecDepth 20000 in
set_option maxHeartbeats 4000000 in
theorem zED (ps:List Pr)(ha:PLn 1048576 ps)(n:Int):Fn Tryz.prog tyT 43 [.c (.lst 64 (dII (ilv ps))), .c (.int .i64 n)] [.c (.bool (uD ps n))]:=by
 have hl:=ha.1
 have hg:=fun k=>Xt ha k
 have hga: ∀k,(gp ps k).ask.length≤1048576:=fun k=>(hg k).ask
 have hgg: ∀k,(gp ps k).give.length≤1048576:=fun k=>(hg k).give
 have hli:=yq ps
 refine θH (ts:= [4]) Tryz.func43 Tryz.ntmps43 ?_
 push_cast [↓zK,↓zJ]
 refine θA ?_
 refine zL fun K1 hK1=> ?_
 refine zL fun K hK=> ?_
 refine zf false zO zN ?_ rfl ?_
 ·kernel_rfl
 all_goals refine yD 2 fun K9 hK9=> ?_
 all_goals push_cast [↓zK,↓zJ]
 all_goals repeat'(first|(apply zP<;>(intro hg;(try push_cast at hg)))|(refine⟨_,xJ n 0 256,?_⟩;push_cast [↓zK,↓zJ])|apply And.intro|(intro hg;(try push_cast at hg)))
 all_goals first|exact gA|(exact zQ (by simp only [push_cast];omega))|(exact zQ (by omega))|skip
 all_goals(refine hK9 _ ?_;clear hK9 K9)
 all_goals push_cast [↓zK,↓zJ]
 all_goals repeat'(first|(apply zP<;>(intro hg;(try push_cast at hg)))|(refine⟨_,xJ n 0 256,?_⟩;push_cast [↓zK,↓zJ])|apply And.intro|(intro hg;(try push_cast at hg)))
 all_goals first|exact gA|(exact zQ (by simp only [push_cast];omega))|(exact zQ (by omega))|skip
 all_goals(refine hK _ ?_;clear hK K)
 all_goals refine zT rfl (fun hc=> ?_) (fun hc=> ?_)
 all_goals(first|(cases hc;done)|skip)
 all_goals(try simp only [push_cast]at hc)
 all_goals try(
   refine θA ?_
   refine zZ ⟨Or.inl rfl,?_⟩
   push_cast [zd,↓zK,↓zJ]
   all_goals first|exact(zJv (by omega)).symm|exact(uE (zK1 (by omega))).symm
   done)
 refine zU (hK1 _ ?_)
 refine zL fun K2 hK2=> ?_
 refine θA ?_
 refine zV ?_
 refine zg [4,5,9,14,15,16,17,18,19,20,21,22,23,24,25,26,27,28,29,30,31,32,33,34,35,36,37] [] (fun(k:Nat)=> [(5, .int .i64 k)]) (fun k=> []) (fun k=> []) (fun k=>k≤ps.length∧∀j,j<k→ZA ps n j=true) (fun k=>ps.length - k) 0 ?_ ⟨by omega,fun j hj=>by omega⟩ ?_
 ·
  exact θX
 ·rintro k ⟨hk,hall⟩ KL0 hL0
  push_cast [↓zK,↓zJ]
  refine zL fun K3 hK3=> ?_
  refine θA ?_
  refine θU (fun hc=> ?_) fun hc=> ?_
  ·
   refine zU (hK3 _ ?_)
   refine zL fun K4 hK4=> ?_
   refine zV ?_
   refine zL fun K hK=> ?_
   refine zf false zO zN ?_ rfl ?_
   ·kernel_rfl
   all_goals refine yD 7 fun K9 hK9=> ?_
   all_goals push_cast [↓zK,↓zJ]
   all_goals repeat'(first|(apply zP<;>(intro hg;(try push_cast at hg)))|(refine⟨_,YB (gp ps k).ask (hga k) n (by omega),?_⟩;push_cast [↓zK,↓zJ])|(refine⟨_,YB (gp ps k).give (hgg k) n (by omega),?_⟩;push_cast [↓zK,↓zJ])|apply And.intro|(intro hg;(try push_cast at hg)))
   all_goals first|exact gA|(exact zQ (by simp only [push_cast];omega))|(exact zQ (by omega))|skip
   all_goals(refine hK9 _ ?_;clear hK9 K9)
   all_goals refine yD 9 fun K9 hK9=> ?_
   all_goals push_cast [↓zK,↓zJ]
   all_goals repeat'(first|(apply zP<;>(intro hg;(try push_cast at hg)))|(refine⟨_,YB (gp ps k).ask (hga k) n (by omega),?_⟩;push_cast [↓zK,↓zJ])|(refine⟨_,YB (gp ps k).give (hgg k) n (by omega),?_⟩;push_cast [↓zK,↓zJ])|apply And.intro|(intro hg;(try push_cast at hg)))
   all_goals first|exact gA|(exact zQ (by simp only [push_cast];omega))|(exact zQ (by omega))|skip
   all_goals(refine hK9 _ ?_;clear hK9 K9)
   all_goals push_cast [↓zK,↓zJ]
   all_goals repeat'(first|(apply zP<;>(intro hg;(try push_cast at hg)))|(refine⟨_,YB (gp ps k).ask (hga k) n (by omega),?_⟩;push_cast [↓zK,↓zJ])|(refine⟨_,YB (gp ps k).give (hgg k) n (by omega),?_⟩;push_cast [↓zK,↓zJ])|apply And.intro|(intro hg;(try push_cast at hg)))
   all_goals first|exact gA|(exact zQ (by simp only [push_cast];omega))|(exact zQ (by omega))|skip
   all_goals(refine hK _ ?_;clear hK K)
   all_goals refine zT rfl (fun hc=> ?_) (fun hc=> ?_)
   all_goals(first|(cases hc;done)|skip)
   all_goals(try simp only [push_cast]at hc)
   all_goals try(
     refine θA ?_
     refine zZ ⟨Or.inl rfl,?_⟩
     push_cast [zd,↓zK,↓zJ]
     first|exact(uE (uj (i:=k) (by omega) (UV (by with_reducible assumption)))).symm|exact(uE (uj (i:=k) (by omega) (UW (by with_reducible assumption)))).symm
     done)
   refine zU (hK4 _ ?_)
   refine θB ?_
   refine hL0 _ ⟨k+1,⟨by omega,fun j hj=>(by
     by_cases hjk:j=k
     ·subst hjk;exact UX (by with_reducible assumption) (by with_reducible assumption)
     ·exact hall j (by omega))⟩,by omega,?_⟩
   exact θX
  ·
   refine zh ?_
   have hkk:k=ps.length:=by omega
   subst hkk
   refine hK2 _ ?_
   refine θA ?_
   refine zZ ⟨Or.inl rfl,?_⟩
   push_cast [zd,↓zK,↓zJ]
   rw [uF (by omega),zE1 hall]
   exact(decide_eq_true (by omega)).symm
def gvB (ps:List Pr)(r:List Int)(v:Int)(i:Nat):Bool:=yI (gp ps (gi r i).toNat).give v
def nrF (ps:List Pr)(r:List Int)(v:Int):Nat→List Int
 |0=> []
 |i+1=>if gvB ps r v i=true then nrF ps r v i++ [gi r i]else nrF ps r v i
def nrR (ps:List Pr)(r:List Int)(v:Int):Nat→List Int
 |0=> []
 |i+1=>if gvB ps r v i=true then nrR ps r v i else nrR ps r v i++ [gi r i]
theorem ja {ps:List Pr}{r:List Int}{v:Int}{i:Nat}(h:gvB ps r v i=true):nrF ps r v (i+1)=nrF ps r v i++ [gi r i]:=if_pos h
theorem UP {ps:List Pr}{r:List Int}{v:Int}{i:Nat}(h:gvB ps r v i=false):nrF ps r v (i+1)=nrF ps r v i:=if_neg (by rw [h];decide)
theorem jb {ps:List Pr}{r:List Int}{v:Int}{i:Nat}(h:gvB ps r v i=true):nrR ps r v (i+1)=nrR ps r v i:=if_pos h
theorem UQ {ps:List Pr}{r:List Int}{v:Int}{i:Nat}(h:gvB ps r v i=false):nrR ps r v (i+1)=nrR ps r v i++ [gi r i]:=if_neg (by rw [h];decide)
theorem zDW (ps:List Pr)(r:List Int)(v:Int): ∀i,(nrF ps r v i).length+(nrR ps r v i).length=i
 |0=>rfl
 |i+1=>by
  have h:=zDW ps r v i
  cases hb:gvB ps r v i with
  |true=>rw [ja hb,jb hb,List.length_append,List.length_singleton];omega
  |false=>rw [UP hb,UQ hb,List.length_append,List.length_singleton];omega
set_option maxRecDepth 20000 in
set_option maxHeartbeats 4000000 in
theorem zEZ (ps:List Pr)(ha:PLn 1048576 ps)(r:List Int)(hr:r.length≤1048576)(hrr: ∀i,i<r.length→0≤gi r i∧gi r i<(ps.length:Int))(v:Int):Fn Tryz.prog tyT 56 [.c (.lst 64 (dII (ilv ps))), .c (DI r), .c (.int .i64 v)] [.c (DI (nrF ps r v r.length++nrR ps r v r.length))]:=by
 have hl:=ha.1
 have hg:=fun k=>Xt ha k
 have hgg: ∀k,(gp ps k).give.length≤1048576:=fun k=>(hg k).give
 have hli:=yq ps
 have hnl:=zDW ps r v
 refine θH (ts:= [6]) Tryz.func56 Tryz.ntmps56 ?_
 push_cast
 refine θA ?_
 refine θA ?_
 refine zL fun K1 hK1=> ?_
 refine θA ?_
 refine zV ?_
 refine zg [7,8,10,15,16,17,18,19,20,21,22,23,24,25,26,27,28,29,30,31,32,33,34] [112,128] (fun(k:Nat)=> [(15, .int .i64 k),(7, .sl 112 [] 0 (nrF ps r v k).length 2),(8, .sl 128 [] 0 (nrR ps r v k).length 2)]) (fun k=> []) (fun k=> [(112,⟨.ex,2,dI (nrF ps r v k),none⟩),(128,⟨.ex,2,dI (nrR ps r v k),none⟩)]) (fun k=>k≤r.length) (fun k=>r.length - k) 0 ?_ (by omega) ?_
 ·
  rw [show nrF ps r v 0= []from rfl,show nrR ps r v 0= []from rfl,show dI ([]:List Int)= []from rfl]
  exact θX
 ·rintro k hk KL0 hL0
  push_cast
  refine θA ?_
  refine zL fun K2 hK2=> ?_
  refine θU (fun hc=> ?_) fun hc=> ?_
  ·
   refine zU (hK2 _ ?_)
   refine zL fun K3 hK3=> ?_
   refine zV ?_
   have hrk:=hrr k (by omega)
   have hnk:=hnl k
   refine θA ?_
   refine θL fun K hK=> ?_
   all_goals refine zm 7 fun K9 hK9=> ?_
   all_goals push_cast
   all_goals repeat'(first|(apply zP<;>(intro hg;push_cast at hg))|(refine⟨_,vM (gp ps (gi r k).toNat).give v (hgg _),?_⟩;push_cast)|apply And.intro|(intro hg;push_cast at hg))
   all_goals first|exact gA|(exact zQ (by simp only [push_cast];omega))|(exact zQ (by omega))|skip
   refine hK9 _ ?_;clear hK9 K9
   all_goals push_cast
   all_goals repeat'(first|(apply zP<;>(intro hg;push_cast at hg))|(refine⟨_,vM (gp ps (gi r k).toNat).give v (hgg _),?_⟩;push_cast)|apply And.intro|(intro hg;push_cast at hg))
   all_goals first|exact gA|(exact zQ (by simp only [push_cast];omega))|(exact zQ (by omega))|skip
   refine hK _ ?_;clear hK K
   refine θU (fun hc=> ?_) fun hc=> ?_
   ·
    refine θB ?_
    refine hK3 _ ?_
    refine θB ?_
    refine hL0 _ ⟨k+1,by omega,by omega,?_⟩
    rw [ja (by unfold gvB;with_reducible assumption),jb (by unfold gvB;with_reducible assumption)]
    refine zY rfl ?_ ?_ ?_<;>push_cast [zb,za]
    all_goals(try(rw [List.length_append];rfl))
   ·
    refine θB ?_
    refine hK3 _ ?_
    refine θB ?_
    refine hL0 _ ⟨k+1,by omega,by omega,?_⟩
    rw [UP (by unfold gvB;with_reducible assumption),UQ (by unfold gvB;with_reducible assumption)]
    refine zY rfl ?_ ?_ ?_<;>push_cast [zb,za]
    all_goals(try(rw [List.length_append];rfl))
  ·
   refine zh ?_
   have hkk:k=r.length:=by omega
   subst hkk
   have hnk9:=hnl r.length
   refine hK1 _ ?_
   refine θA ?_
   refine zZ ⟨Or.inl rfl,?_⟩
   push_cast [zd]
   first|exact List.length_append.symm|exact⟨rfl,List.length_append.symm⟩|skip
def akB (ps:List Pr)(r:List Int)(v:Int)(i:Nat):Bool:=yI (gp ps (gi r i).toNat).ask v
def akI (ps:List Pr)(r:List Int)(v:Int):Nat→Int
 |0=> -1
 |i+1=>if akB ps r v i=true then(i:Int)else akI ps r v i
def gvI (ps:List Pr)(r:List Int)(v:Int):Nat→Int
 |0=> -1
 |i+1=>if gvB ps r v i=true then(i:Int)else gvI ps r v i
theorem WH {ps:List Pr}{r:List Int}{v:Int}{i:Nat}(h:akB ps r v i=true):akI ps r v (i+1)=i:=if_pos h
theorem KC {ps:List Pr}{r:List Int}{v:Int}{i:Nat}(h:akB ps r v i=false):akI ps r v (i+1)=akI ps r v i:=if_neg (by rw [h];decide)
theorem WQ {ps:List Pr}{r:List Int}{v:Int}{i:Nat}(h:gvB ps r v i=true):gvI ps r v (i+1)=i:=if_pos h
theorem KS {ps:List Pr}{r:List Int}{v:Int}{i:Nat}(h:gvB ps r v i=false):gvI ps r v (i+1)=gvI ps r v i:=if_neg (by rw [h];decide)
theorem uh (ps:List Pr)(r:List Int)(v:Int): ∀i,-1≤akI ps r v i∧akI ps r v i<i
 |0=>by show(-1:Int)≤ -1∧(-1:Int)<0;omega
 |i+1=>by
  have h:=uh ps r v i
  cases hb:akB ps r v i with
  |true=>rw [WH hb];omega
  |false=>rw [KC hb];omega
theorem UD (ps:List Pr)(r:List Int)(v:Int): ∀i,-1≤gvI ps r v i∧gvI ps r v i<i
 |0=>by show(-1:Int)≤ -1∧(-1:Int)<0;omega
 |i+1=>by
  have h:=UD ps r v i
  cases hb:gvB ps r v i with
  |true=>rw [WQ hb];omega
  |false=>rw [KS hb];omega
def prV (a g:Int):Int:=if a<0∧g<0 then 0 else if g<a then 2*a+1 else 2*g+2
set_option maxRecDepth 20000 in
set_option maxHeartbeats 4000000 in
theorem zEh (ps:List Pr)(ha:PLn 1048576 ps)(r:List Int)(hr:r.length≤1048576)(hrr: ∀i,i<r.length→0≤gi r i∧gi r i<(ps.length:Int))(v:Int):Fn Tryz.prog tyT 58 [.c (.lst 64 (dII (ilv ps))), .c (DI r), .c (.int .i64 v)] [.c (.int .i64 (prV (akI ps r v r.length) (gvI ps r v r.length)))]:=by
 have hl:=ha.1
 have hg:=fun k=>Xt ha k
 have hga: ∀k,(gp ps k).ask.length≤1048576:=fun k=>(hg k).ask
 have hgg: ∀k,(gp ps k).give.length≤1048576:=fun k=>(hg k).give
 have hli:=yq ps
 have har:=uh ps r v
 have hgr:=UD ps r v
 refine θH (ts:= [6]) Tryz.func58 Tryz.ntmps58 ?_
 push_cast [↓zK,↓zJ]
 refine θA ?_
 refine θA ?_
 refine zL fun K1 hK1=> ?_
 refine θA ?_
 refine zV ?_
 refine zg [7,8,9,10,13,14,15,16,17,18,19,20,21,22,23,24,25,26,27,28,29,30,31,32,33,34] [] (fun(k:Nat)=> [(13, .int .i64 k),(7, .int .i64 (akI ps r v k)),(8, .int .i64 (gvI ps r v k))]) (fun k=> []) (fun k=> []) (fun k=>k≤r.length) (fun k=>r.length - k) 0 ?_ (by omega) ?_
 ·
  rw [show akI ps r v 0= -1 from rfl,show gvI ps r v 0= -1 from rfl]
  exact θX
 ·rintro k hk KL0 hL0
  push_cast [↓zK,↓zJ]
  refine θA ?_
  refine zL fun K2 hK2=> ?_
  refine θU (fun hc=> ?_) fun hc=> ?_
  ·
   refine zU (hK2 _ ?_)
   refine zL fun K3 hK3=> ?_
   refine zV ?_
   have hrk:=hrr k (by omega)
   refine θA ?_
   refine zL fun K4 hK4=> ?_
   refine θL fun K hK=> ?_
   all_goals refine zm 7 fun K9 hK9=> ?_
   all_goals push_cast [↓zK,↓zJ]
   all_goals repeat'(first|(apply zP<;>(intro hg;(try simp only [push_cast]at hg)))|(refine⟨_,vM (gp ps (gi r k).toNat).ask v (hga _),?_⟩;push_cast [↓zK,↓zJ])|apply And.intro|(intro hg;(try simp only [push_cast]at hg)))
   all_goals first|exact gA|(exact zQ (by simp only [push_cast];omega))|(exact zQ (by omega))|skip
   all_goals(refine hK9 _ ?_;clear hK9 K9)
   all_goals push_cast [↓zK,↓zJ]
   all_goals repeat'(first|(apply zP<;>(intro hg;(try simp only [push_cast]at hg)))|(refine⟨_,vM (gp ps (gi r k).toNat).ask v (hga _),?_⟩;push_cast [↓zK,↓zJ])|apply And.intro|(intro hg;(try simp only [push_cast]at hg)))
   all_goals first|exact gA|(exact zQ (by simp only [push_cast];omega))|(exact zQ (by omega))|skip
   all_goals(refine hK _ ?_;clear hK K)
   refine θU (fun hc=> ?_) fun hc=> ?_
   ·
    refine θB ?_
    refine hK4 _ ?_
    refine θL fun K hK=> ?_
    all_goals refine zm 7 fun K9 hK9=> ?_
    all_goals push_cast [↓zK,↓zJ]
    all_goals repeat'(first|(apply zP<;>(intro hg;(try simp only [push_cast]at hg)))|(refine⟨_,vM (gp ps (gi r k).toNat).give v (hgg _),?_⟩;push_cast [↓zK,↓zJ])|apply And.intro|(intro hg;(try simp only [push_cast]at hg)))
    all_goals first|exact gA|(exact zQ (by simp only [push_cast];omega))|(exact zQ (by omega))|skip
    all_goals(refine hK9 _ ?_;clear hK9 K9)
    all_goals push_cast [↓zK,↓zJ]
    all_goals repeat'(first|(apply zP<;>(intro hg;(try simp only [push_cast]at hg)))|(refine⟨_,vM (gp ps (gi r k).toNat).give v (hgg _),?_⟩;push_cast [↓zK,↓zJ])|apply And.intro|(intro hg;(try simp only [push_cast]at hg)))
    all_goals first|exact gA|(exact zQ (by simp only [push_cast];omega))|(exact zQ (by omega))|skip
    all_goals(refine hK _ ?_;clear hK K)
    refine θU (fun hc=> ?_) fun hc=> ?_
    ·
     refine θB ?_
     refine hK3 _ ?_
     refine θB ?_
     refine hL0 _ ⟨k+1,by omega,by omega,?_⟩
     rw [WH (by unfold akB;with_reducible assumption),WQ (by unfold gvB;with_reducible assumption)]
     exact θX
    ·
     refine zU (hK3 _ ?_)
     refine θB ?_
     refine hL0 _ ⟨k+1,by omega,by omega,?_⟩
     rw [WH (by unfold akB;with_reducible assumption),KS (by unfold gvB;with_reducible assumption)]
     exact θX
   ·
    refine zU (hK4 _ ?_)
    refine θL fun K hK=> ?_
    all_goals refine zm 7 fun K9 hK9=> ?_
    all_goals push_cast [↓zK,↓zJ]
    all_goals repeat'(first|(apply zP<;>(intro hg;(try simp only [push_cast]at hg)))|(refine⟨_,vM (gp ps (gi r k).toNat).give v (hgg _),?_⟩;push_cast [↓zK,↓zJ])|apply And.intro|(intro hg;(try simp only [push_cast]at hg)))
    all_goals first|exact gA|(exact zQ (by simp only [push_cast];omega))|(exact zQ (by omega))|skip
    all_goals(refine hK9 _ ?_;clear hK9 K9)
    all_goals push_cast [↓zK,↓zJ]
    all_goals repeat'(first|(apply zP<;>(intro hg;(try simp only [push_cast]at hg)))|(refine⟨_,vM (gp ps (gi r k).toNat).give v (hgg _),?_⟩;push_cast [↓zK,↓zJ])|apply And.intro|(intro hg;(try simp only [push_cast]at hg)))
    all_goals first|exact gA|(exact zQ (by simp only [push_cast];omega))|(exact zQ (by omega))|skip
    all_goals(refine hK _ ?_;clear hK K)
    refine θU (fun hc=> ?_) fun hc=> ?_
    ·
     refine θB ?_
     refine hK3 _ ?_
     refine θB ?_
     refine hL0 _ ⟨k+1,by omega,by omega,?_⟩
     rw [KC (by unfold akB;with_reducible assumption),WQ (by unfold gvB;with_reducible assumption)]
     exact θX
    ·
     refine zU (hK3 _ ?_)
     refine θB ?_
     refine hL0 _ ⟨k+1,by omega,by omega,?_⟩
     rw [KC (by unfold akB;with_reducible assumption),KS (by unfold gvB;with_reducible assumption)]
     exact θX
  ·
   refine zh ?_
   have hkk:k=r.length:=by omega
   subst hkk
   have har9:=har r.length
   have hgr9:=hgr r.length
   refine hK1 _ ?_
   refine zL fun K5 hK5=> ?_
   refine zV ?_
   refine zL fun K hK=> ?_
   refine zf false zO zN ?_ rfl ?_
   ·kernel_rfl
   all_goals push_cast [↓zK,↓zJ]
   all_goals repeat'(first|(apply zP<;>(intro hg;(try simp only [push_cast]at hg)))|apply And.intro|(intro hg;(try simp only [push_cast]at hg)))
   all_goals first|exact gA|(exact zQ (by simp only [push_cast];omega))|(exact zQ (by omega))|skip
   all_goals(refine hK _ ?_;clear hK K)
   all_goals refine zT rfl (fun hc=> ?_) (fun hc=> ?_)
   all_goals(first|(cases hc;done)|skip)
   all_goals(try simp only [push_cast]at hc)
   all_goals first
    |(
      refine θA ?_
      all_goals refine zT rfl (fun hc=> ?_) (fun hc=> ?_)
      all_goals(first|(cases hc;done)|skip)
      all_goals(try simp only [push_cast]at hc)
      all_goals(first|(exfalso;omega)|skip)
      all_goals first
       |(
         refine zU (hK5 _ ?_)
         refine θA ?_
         refine zZ ⟨Or.inl rfl,?_⟩
         push_cast [zd,↓zK,↓zJ]
         all_goals(unfold prV;split<;>(try split)<;>omega)
         done)
       |(
         refine θA ?_
         refine zZ ⟨Or.inl rfl,?_⟩
         push_cast [zd,↓zK,↓zJ]
         all_goals(unfold prV;split<;>(try split)<;>omega)
         done)
      done)
    |(
      refine θA ?_
      refine zZ ⟨Or.inl rfl,?_⟩
      push_cast [zd,↓zK,↓zJ]
      all_goals(unfold prV;split<;>(try split)<;>omega)
      done)
set_option maxRecDepth 20000 in
set_option maxHeartbeats 4000000 in
theorem zGM (ps:List Pr)(ha:PLn 1048576 ps)(r:List Int)(hr:r.length≤1048576)(hrr: ∀i,i<r.length→0≤gi r i∧gi r i<(ps.length:Int))(v:Int):Fn Tryz.prog tyT 47 [.c (.lst 64 (dII (ilv ps))), .c (DI r), .c (.int .i64 v)] [.c (.int .i64 (prV (akI ps r v r.length) (gvI ps r v r.length)))]:=by
 have hl:=ha.1
 have hg:=fun k=>Xt ha k
 have hga: ∀k,(gp ps k).ask.length≤1048576:=fun k=>(hg k).ask
 have hgg: ∀k,(gp ps k).give.length≤1048576:=fun k=>(hg k).give
 have hli:=yq ps
 have har:=uh ps r v
 have hgr:=UD ps r v
 refine θH (ts:= [6]) Tryz.func47 Tryz.ntmps47 ?_
 push_cast [↓zK,↓zJ]
 refine θA ?_
 refine θA ?_
 refine θA ?_
 refine zL fun K1 hK1=> ?_
 refine θA ?_
 refine zV ?_
 refine zg [7,8,9,10,11,12,13,14,15,16,17,18,19,20,21,22,23,24,25,26,27,28,29,30,31,32,33,34,35,36,37] [] (fun(k:Nat)=> [(9, .int .i64 k),(7, .int .i64 (akI ps r v k)),(8, .int .i64 (gvI ps r v k))]) (fun k=> []) (fun k=> []) (fun k=>k≤r.length) (fun k=>r.length - k) 0 ?_ (by omega) ?_
 ·
  rw [show akI ps r v 0= -1 from rfl,show gvI ps r v 0= -1 from rfl]
  exact θX
 ·rintro k hk KL0 hL0
  push_cast [↓zK,↓zJ]
  refine zL fun K2 hK2=> ?_
  refine θA ?_
  refine θU (fun hc=> ?_) fun hc=> ?_
  ·
   refine zU (hK2 _ ?_)
   refine zL fun K3 hK3=> ?_
   refine zV ?_
   refine zL fun K4 hK4=> ?_
   have hrk:=hrr k (by omega)
   refine θL fun K hK=> ?_
   all_goals refine zm 10 fun K9 hK9=> ?_
   all_goals push_cast [↓zK,↓zJ]
   all_goals repeat'(first|(apply zP<;>(intro hg;(try simp only [push_cast]at hg)))|(refine⟨_,wG (gp ps (gi r k).toNat).ask v (hga _),?_⟩;push_cast [↓zK,↓zJ])|apply And.intro|(intro hg;(try simp only [push_cast]at hg)))
   all_goals first|exact gA|(exact zQ (by simp only [push_cast];omega))|(exact zQ (by omega))|skip
   all_goals(refine hK9 _ ?_;clear hK9 K9)
   all_goals push_cast [↓zK,↓zJ]
   all_goals repeat'(first|(apply zP<;>(intro hg;(try simp only [push_cast]at hg)))|(refine⟨_,wG (gp ps (gi r k).toNat).ask v (hga _),?_⟩;push_cast [↓zK,↓zJ])|apply And.intro|(intro hg;(try simp only [push_cast]at hg)))
   all_goals first|exact gA|(exact zQ (by simp only [push_cast];omega))|(exact zQ (by omega))|skip
   all_goals(refine hK _ ?_;clear hK K)
   refine θU (fun hc=> ?_) fun hc=> ?_
   ·
    refine θB ?_
    refine hK4 _ ?_
    refine θL fun K hK=> ?_
    all_goals refine zm 10 fun K9 hK9=> ?_
    all_goals push_cast [↓zK,↓zJ]
    all_goals repeat'(first|(apply zP<;>(intro hg;(try simp only [push_cast]at hg)))|(refine⟨_,wG (gp ps (gi r k).toNat).give v (hgg _),?_⟩;push_cast [↓zK,↓zJ])|apply And.intro|(intro hg;(try simp only [push_cast]at hg)))
    all_goals first|exact gA|(exact zQ (by simp only [push_cast];omega))|(exact zQ (by omega))|skip
    all_goals(refine hK9 _ ?_;clear hK9 K9)
    all_goals push_cast [↓zK,↓zJ]
    all_goals repeat'(first|(apply zP<;>(intro hg;(try simp only [push_cast]at hg)))|(refine⟨_,wG (gp ps (gi r k).toNat).give v (hgg _),?_⟩;push_cast [↓zK,↓zJ])|apply And.intro|(intro hg;(try simp only [push_cast]at hg)))
    all_goals first|exact gA|(exact zQ (by simp only [push_cast];omega))|(exact zQ (by omega))|skip
    all_goals(refine hK _ ?_;clear hK K)
    refine θU (fun hc=> ?_) fun hc=> ?_
    ·
     refine θB ?_
     refine hK3 _ ?_
     refine θB ?_
     refine hL0 _ ⟨k+1,by omega,by omega,?_⟩
     rw [WH (by unfold akB;with_reducible assumption),WQ (by unfold gvB;with_reducible assumption)]
     exact θX
    ·
     refine zU (hK3 _ ?_)
     refine θB ?_
     refine hL0 _ ⟨k+1,by omega,by omega,?_⟩
     rw [WH (by unfold akB;with_reducible assumption),KS (by unfold gvB;with_reducible assumption)]
     exact θX
   ·
    refine zU (hK4 _ ?_)
    refine θL fun K hK=> ?_
    all_goals refine zm 10 fun K9 hK9=> ?_
    all_goals push_cast [↓zK,↓zJ]
    all_goals repeat'(first|(apply zP<;>(intro hg;(try simp only [push_cast]at hg)))|(refine⟨_,wG (gp ps (gi r k).toNat).give v (hgg _),?_⟩;push_cast [↓zK,↓zJ])|apply And.intro|(intro hg;(try simp only [push_cast]at hg)))
    all_goals first|exact gA|(exact zQ (by simp only [push_cast];omega))|(exact zQ (by omega))|skip
    all_goals(refine hK9 _ ?_;clear hK9 K9)
    all_goals push_cast [↓zK,↓zJ]
    all_goals repeat'(first|(apply zP<;>(intro hg;(try simp only [push_cast]at hg)))|(refine⟨_,wG (gp ps (gi r k).toNat).give v (hgg _),?_⟩;push_cast [↓zK,↓zJ])|apply And.intro|(intro hg;(try simp only [push_cast]at hg)))
    all_goals first|exact gA|(exact zQ (by simp only [push_cast];omega))|(exact zQ (by omega))|skip
    all_goals(refine hK _ ?_;clear hK K)
    refine θU (fun hc=> ?_) fun hc=> ?_
    ·
     refine θB ?_
     refine hK3 _ ?_
     refine θB ?_
     refine hL0 _ ⟨k+1,by omega,by omega,?_⟩
     rw [KC (by unfold akB;with_reducible assumption),WQ (by unfold gvB;with_reducible assumption)]
     exact θX
    ·
     refine zU (hK3 _ ?_)
     refine θB ?_
     refine hL0 _ ⟨k+1,by omega,by omega,?_⟩
     rw [KC (by unfold akB;with_reducible assumption),KS (by unfold gvB;with_reducible assumption)]
     exact θX
  ·
   refine zh ?_
   have hkk:k=r.length:=by omega
   subst hkk
   have har9:=har r.length
   have hgr9:=hgr r.length
   refine hK1 _ ?_
   refine zL fun K5 hK5=> ?_
   refine zV ?_
   refine zL fun K hK=> ?_
   refine zf false zO zN ?_ rfl ?_
   ·kernel_rfl
   all_goals push_cast [↓zK,↓zJ]
   all_goals repeat'(first|(apply zP<;>(intro hg;(try simp only [push_cast]at hg)))|apply And.intro|(intro hg;(try simp only [push_cast]at hg)))
   all_goals first|exact gA|(exact zQ (by simp only [push_cast];omega))|(exact zQ (by omega))|skip
   all_goals(refine hK _ ?_;clear hK K)
   all_goals refine zT rfl (fun hc=> ?_) (fun hc=> ?_)
   all_goals(first|(cases hc;done)|skip)
   all_goals(try simp only [push_cast]at hc)
   all_goals first
    |(
      refine θA ?_
      all_goals refine zT rfl (fun hc=> ?_) (fun hc=> ?_)
      all_goals(first|(cases hc;done)|skip)
      all_goals(try simp only [push_cast]at hc)
      all_goals(first|(exfalso;omega)|skip)
      all_goals first
       |(
         refine zU (hK5 _ ?_)
         refine θA ?_
         refine zZ ⟨Or.inl rfl,?_⟩
         push_cast [zd,↓zK,↓zJ]
         all_goals(unfold prV;split<;>(try split)<;>omega)
         done)
       |(
         refine θA ?_
         refine zZ ⟨Or.inl rfl,?_⟩
         push_cast [zd,↓zK,↓zJ]
         all_goals(unfold prV;split<;>(try split)<;>omega)
         done)
      done)
    |(
      refine θA ?_
      refine zZ ⟨Or.inl rfl,?_⟩
      push_cast [zd,↓zK,↓zJ]
      all_goals(unfold prV;split<;>(try split)<;>omega)
      done)
end Go.Proofs.YtcleaokoimhedaaGreat
