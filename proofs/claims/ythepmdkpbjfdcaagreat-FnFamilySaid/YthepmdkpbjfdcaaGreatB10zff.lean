/- families of sets: both sides' tests -/
import Derived.Test.YthepmdkpbjfdcaaGreatB7zff
import Derived.Test.YthepmdkpbjfdcaaGreatFazff
import Derived.Test.YthepmdkpbjfdcaaGreatB4zff
import Derived.Shelf.SortG.Plain
import Derived.Shelf.SortG.SortNone
import Derived.Test.YthepmdkpbjfdcaaGreatProg
import Derived.Sort.OwnSortedInts
namespace Go.Proofs.YthepmdkpbjfdcaaGreat
open Nat renaming reduceMod → zA, reduceMul → zB, reduceDiv → zC, reduceAdd → zD, reduceSub → zE, reduceEqDiff → zF, reduceBEq → zG, reduceLT → zH, reduceLeDiff → zI
open Go.RowKit
set_option linter.unusedVariables false
set_option linter.unusedSimpArgs false
def qX (a b:List Int):List Int:=a.filter fun x=> !zr b x
theorem JC (a b:List Int):(qX a b).length≤a.length:=zAI _ _
theorem KW {a b:List Int}:(qX a b).length=0↔∀x∈a,x∈b:=by
 unfold qX
 rw [List.length_eq_zero_iff,List.filter_eq_nil_iff]
 constructor
 ·intro h x hx
  have :=h x hx
  rw [←yD]
  simpa using this
 ·intro h x hx
  have :=h x hx
  rw [←yD]at this
  simp [this]
theorem zJr {a b:List Int}{k:Nat}(hk:k<a.length)(h:zr b (gi a k)=false): ¬(qX a b).length=0:=by
 rw [KW]
 intro h2
 have :=yD b (gi a k)
 rw [h]at this
 exact absurd (this.2 (h2 _ (WI hk))) (by decide)
theorem zIR {a b:List Int}(h: ∀k,k<a.length→zr b (gi a k)=true):(qX a b).length=0:=by
 rw [KW]
 intro x hx
 obtain⟨k,hk,rfl⟩:=zDk hx
 exact(yD _ _).1 (h k hk)
def wh (f:Fm)(n:Int)(i:Nat):Bool:=zv (gl f.sets i) n&&(decide ((qX (gl f.sets i) f.names).length=0)&& !xn (f.sets.take i) (gl f.sets i))
theorem zBD {f:Fm}{n:Int}{i:Nat}(h:zv (gl f.sets i) n=false):wh f n i=false:=by unfold wh;rw [h];rfl
theorem zBE {f:Fm}{n:Int}{i:Nat}(h: ¬(qX (gl f.sets i) f.names).length=0):wh f n i=false:=by unfold wh;rw [decide_eq_false h,Bool.false_and,Bool.and_false]
theorem zBF {f:Fm}{n:Int}{i:Nat}(h:xn (f.sets.take i) (gl f.sets i)=true):wh f n i=false:=by unfold wh;rw [h];simp
theorem KK {f:Fm}{n:Int}{i:Nat}(h1:zv (gl f.sets i) n=true)(h2:(qX (gl f.sets i) f.names).length=0)(h3:xn (f.sets.take i) (gl f.sets i)=false):wh f n i=true:=by unfold wh;rw [h1,decide_eq_true h2,h3];rfl
def xg (f:Fm)(n:Int):Bool:=zv f.names n&&(decide (f.names.length≤4∧f.sets.length≤16)&&Ym f.sets.length (wh f n))
theorem zDC {f:Fm}{n:Int}(h:zv f.names n=false):xg f n=false:=by unfold xg;rw [h];rfl
theorem zDD {f:Fm}{n:Int}(h: ¬(f.names.length≤4∧f.sets.length≤16)):xg f n=false:=by unfold xg;rw [decide_eq_false h,Bool.false_and,Bool.and_false]
theorem kh {f:Fm}{n:Int}{i:Nat}(hi:i<f.sets.length)(h:wh f n i=false):xg f n=false:=by unfold xg;rw [YP hi h,Bool.and_false,Bool.and_false]
theorem ki {f:Fm}{n:Int}(h1:zv f.names n=true)(h2:f.names.length≤4∧f.sets.length≤16)(h3: ∀i,i<f.sets.length→wh f n i=true):xg f n=true:=by unfold xg;rw [h1,decide_eq_true h2,qG h3];rfl
def Qk (f:Fm)(n:Int):Bool:=decide (0≤n∧n≤256)&&xg f n
theorem zJZ {f:Fm}{n:Int}(h: ¬(0≤n∧n≤256)):Qk f n=false:=by unfold Qk;rw [decide_eq_false h];rfl
theorem ZK {f:Fm}{n:Int}(h:0≤n∧n≤256):Qk f n=xg f n:=by unfold Qk;rw [decide_eq_true h];rfl
theorem zJd {xs:List (List Int)}{B k:Nat}(h: ∀v,(gl xs v).length≤B)(v:Nat):(gl (xs.take k) v).length≤B:=by
 rcases Nat.lt_or_ge v k with h1|h1
 ·rw [show gl (xs.take k) v=gl xs v from by unfold gl;rw [List.getD_eq_getElem?_getD,List.getElem?_take_of_lt h1,List.getD_eq_getElem?_getD]]
  exact h v
 ·rw [show gl (xs.take k) v= []from by unfold gl;rw [List.getD_eq_getElem?_getD,List.getElem?_take_eq_none h1];rfl]
  simp
theorem zE2 {xs:List (List Int)}{s:List Int}{k:Nat}(hk:k≤xs.length)(h: ∀j,j<k→¬gl xs j=s):xn (xs.take k) s=false:=by
 rw [Bool.eq_false_iff,ne_eq,JN]
 intro hm
 obtain⟨j,hj,rfl⟩:=Kc hm
 rw [List.length_take]at hj
 have e:gl (xs.take k) j=gl xs j:=by unfold gl;rw [List.getD_eq_getElem?_getD,List.getElem?_take_of_lt (by omega),List.getD_eq_getElem?_getD]
 exact h j (by omega) e.symm
theorem zDr {xs:List (List Int)}{k j:Nat}{s:List Int}(hj:j<k)(hk:k≤xs.length)(h:gl xs j=s):xn (xs.take k) s=true:=by
 rw [JN]
 have e:gl (xs.take k) j=gl xs j:=by unfold gl;rw [List.getD_eq_getElem?_getD,List.getElem?_take_of_lt hj,List.getD_eq_getElem?_getD]
 rw [←h,←e]
 exact zID (by rw [List.length_take];omega)
set_option maxRecDepth 20000 in
set_option maxHeartbeats 4000000 in
theorem Vr (f:Fm)(hf:f.Ln 1048576)(n:Int):Fn Tryz.prog tyT 72 [.agg (dFm f), .c (.int .i64 n)] [.c (.bool (xg f n))]:=by
 have h1:=hf.names
 have h2:=hf.sets.1
 unfold LnI at h1
 have hr: ∀v,(gl f.sets v).length≤1048576:=fun v=>ZP hf.sets v
 have hH:=fun k=>VJ ⟨[],f.sets.take k⟩ (by rw [List.length_take];omega) (zJd hr) (gl f.sets k) (hr k)
 have hL:=fun h k=>KX (gl f.sets k) f.names (hr k) h1 n h
 unfold dFm at hH
 unfold dFm
 (try simp only at hH)
 refine θH (ts:= [4]) Tryz.func72 Tryz.ntmps72 ?_
 push_cast [↓zK,↓zJ]
 refine θA ?_
 refine zL fun K1 hK1=> ?_
 refine zL fun K hK=> ?_
 refine zc false zQ zN ?_ rfl ?_
 ·kernel_rfl
 all_goals refine zm 4 fun K9 hK9=> ?_
 all_goals push_cast [↓zK,↓zJ]
 all_goals repeat'(first|(apply zO<;>(intro hg;(try push_cast at hg)))|(refine⟨_,yP f.names n h1,?_⟩;push_cast [↓zK,↓zJ])|apply And.intro|(intro hg;(try push_cast at hg)))
 all_goals first|exact gA|(exact zP (by omega))|skip
 all_goals(refine hK9 _ ?_;clear hK9 K9)
 all_goals push_cast [↓zK,↓zJ]
 all_goals repeat'(first|(apply zO<;>(intro hg;(try push_cast at hg)))|(refine⟨_,yP f.names n h1,?_⟩;push_cast [↓zK,↓zJ])|apply And.intro|(intro hg;(try push_cast at hg)))
 all_goals first|exact gA|(exact zP (by omega))|skip
 all_goals(refine hK _ ?_;clear hK K)
 all_goals refine zU rfl (fun hc=> ?_) (fun hc=> ?_)
 all_goals(first|(cases hc;done)|skip)
 all_goals(try simp only [push_cast]at hc)
 all_goals try(
   refine θA ?_
   refine zY ⟨Or.inl rfl,?_⟩
   push_cast [zd,↓zK,↓zJ]
   symm
   first|exact zDC (by with_reducible assumption)|exact zDD (by omega)
   done)
 refine zW (hK1 _ ?_)
 refine zL fun K2 hK2=> ?_
 refine θA ?_
 refine zV ?_
 have hok:zv f.names n=true:=by with_reducible assumption
 refine zh [4,5,6,12,18,27,28,29,30,31,32,33,34,35,36,37,38,39,40,41,42,43,44,45,46,47,48,49,50,51,52,53] [] (fun(k:Nat)=> [(27, .int .i64 k)]) (fun k=> []) (fun k=> []) (fun k=>k≤f.sets.length∧∀j,j<k→wh f n j=true) (fun k=>f.sets.length - k) 0 ?_ ⟨by omega,fun j hj=>by omega⟩ ?_
 ·
  exact θX
 ·rintro k ⟨hk,hall⟩ KL0 hL0
  have hrk:=hr k
  have hlk:=JC (gl f.sets k) f.names
  push_cast [↓zK,↓zJ]
  refine θA ?_
  refine zL fun K3 hK3=> ?_
  refine θU (fun hc=> ?_) fun hc=> ?_
  ·
   refine zW (hK3 _ ?_)
   refine zL fun K4 hK4=> ?_
   refine zV ?_
   refine θA ?_
   refine zL fun K hK=> ?_
   refine zc false zQ zN ?_ rfl ?_
   ·kernel_rfl
   all_goals refine zm 3 fun K9 hK9=> ?_
   all_goals push_cast [↓zK,↓zJ]
   all_goals repeat'(first|(apply zO<;>(intro hg;(try push_cast at hg)))|(refine⟨_,yP (gl f.sets k) n (hr k),?_⟩;push_cast [↓zK,↓zJ])|(refine⟨_,hL hok k,?_⟩;push_cast [↓zK,↓zJ])|(refine⟨_,hH k,?_⟩;push_cast [↓zK,↓zJ])|apply And.intro|(intro hg;(try push_cast at hg)))
   all_goals first|exact gA|(exact zP (by omega))|skip
   all_goals(refine hK9 _ ?_;clear hK9 K9)
   all_goals refine zm 6 fun K9 hK9=> ?_
   all_goals push_cast [↓zK,↓zJ]
   all_goals repeat'(first|(apply zO<;>(intro hg;(try push_cast at hg)))|(refine⟨_,yP (gl f.sets k) n (hr k),?_⟩;push_cast [↓zK,↓zJ])|(refine⟨_,hL hok k,?_⟩;push_cast [↓zK,↓zJ])|(refine⟨_,hH k,?_⟩;push_cast [↓zK,↓zJ])|apply And.intro|(intro hg;(try push_cast at hg)))
   all_goals first|exact gA|(exact zP (by omega))|skip
   all_goals(refine hK9 _ ?_;clear hK9 K9)
   all_goals refine zm 11 fun K9 hK9=> ?_
   all_goals push_cast [↓zK,↓zJ]
   all_goals repeat'(first|(apply zO<;>(intro hg;(try push_cast at hg)))|(refine⟨_,yP (gl f.sets k) n (hr k),?_⟩;push_cast [↓zK,↓zJ])|(refine⟨_,hL hok k,?_⟩;push_cast [↓zK,↓zJ])|(refine⟨_,hH k,?_⟩;push_cast [↓zK,↓zJ])|apply And.intro|(intro hg;(try push_cast at hg)))
   all_goals first|exact gA|(exact zP (by omega))|skip
   all_goals(refine hK9 _ ?_;clear hK9 K9)
   all_goals push_cast [↓zK,↓zJ]
   all_goals repeat'(first|(apply zO<;>(intro hg;(try push_cast at hg)))|(refine⟨_,yP (gl f.sets k) n (hr k),?_⟩;push_cast [↓zK,↓zJ])|(refine⟨_,hL hok k,?_⟩;push_cast [↓zK,↓zJ])|(refine⟨_,hH k,?_⟩;push_cast [↓zK,↓zJ])|apply And.intro|(intro hg;(try push_cast at hg)))
   all_goals first|exact gA|(exact zP (by omega))|skip
   all_goals(refine hK _ ?_;clear hK K)
   all_goals refine zU rfl (fun hc=> ?_) (fun hc=> ?_)
   all_goals(first|(cases hc;done)|skip)
   all_goals(try simp only [push_cast]at hc)
   all_goals try(
     refine θA ?_
     refine zY ⟨Or.inl rfl,?_⟩
     push_cast [zd,↓zK,↓zJ]
     symm
     refine kh (i:=k) (by omega) ?_
     first|exact zBD (by with_reducible assumption)|exact zBF (by with_reducible assumption)|exact zBE (by unfold qX;omega)
     done)
   refine zW (hK4 _ ?_)
   refine θB ?_
   refine hL0 _ ⟨k+1,⟨by omega,fun j hj=>(by
     by_cases hjk:j=k
     ·subst hjk;exact KK (by with_reducible assumption) (by unfold qX;omega) (by with_reducible assumption)
     ·exact hall j (by omega))⟩,by omega,?_⟩
   exact θX
  ·
   refine zi (hK2 _ ?_)
   refine θA ?_
   refine zY ⟨Or.inl rfl,?_⟩
   push_cast [zd,↓zK,↓zJ]
   symm
   exact ki hok (by omega) fun i hi=>hall i (by omega)
set_option maxRecDepth 20000 in
set_option maxHeartbeats 4000000 in
theorem JA (s names:List Int)(h1:s.length≤1048576)(h2:names.length≤1048576):Fn Tryz.prog tyT 63 [.c (DI s), .c (DI names)] [.c (.bool (decide ((qX s names).length=0)))]:=by
 refine θH (ts:= [4]) Tryz.func63 Tryz.ntmps63 ?_
 push_cast
 refine θA ?_
 refine zL fun K1 hK1=> ?_
 refine θA ?_
 refine zV ?_
 refine zh [4,5,6,7,8,9,10,11,12,13,14,15,16,17,18] [] (fun(k:Nat)=> [(5, .int .i64 k)]) (fun k=> []) (fun k=> []) (fun k=>k≤s.length∧∀j,j<k→zr names (gi s j)=true) (fun k=>s.length - k) 0 ?_ ⟨by omega,fun j hj=>by omega⟩ ?_
 ·
  exact θX
 ·rintro k ⟨hk,hall⟩ KL0 hL0
  push_cast
  refine zL fun K2 hK2=> ?_
  refine θA ?_
  refine θU (fun hc=> ?_) fun hc=> ?_
  ·
   refine zW (hK2 _ ?_)
   refine zL fun K3 hK3=> ?_
   refine zV ?_
   refine θL fun K hK=> ?_
   all_goals refine zj 6 fun K9 hK9=> ?_
   all_goals push_cast
   all_goals repeat'(first|(apply zO<;>(intro hg;push_cast at hg))|(refine⟨_,vM names _ h2,?_⟩;push_cast)|apply And.intro|(intro hg;push_cast at hg))
   all_goals try exact gA
   refine hK9 _ ?_;clear hK9 K9
   all_goals push_cast
   all_goals repeat'(first|(apply zO<;>(intro hg;push_cast at hg))|(refine⟨_,vM names _ h2,?_⟩;push_cast)|apply And.intro|(intro hg;push_cast at hg))
   all_goals try exact gA
   refine hK _ ?_;clear hK K
   refine θU (fun hc=> ?_) fun hc=> ?_
   ·
    refine θA ?_
    refine zY ⟨Or.inl rfl,?_⟩
    push_cast [zd]
    exact(decide_eq_false (zJr (k:=k) (by omega) (by with_reducible assumption))).symm
   ·
    refine zW (hK3 _ ?_)
    refine θB ?_
    refine hL0 _ ⟨k+1,⟨by omega,fun j hj=>(by
      by_cases hjk:j=k
      ·subst hjk;with_reducible assumption
      ·exact hall j (by omega))⟩,by omega,?_⟩
    exact θX
  ·
   refine zi (hK1 _ ?_)
   refine θA ?_
   refine zY ⟨Or.inl rfl,?_⟩
   push_cast [zd]
   exact(decide_eq_true (zIR fun j hj=>hall j (by omega))).symm
set_option maxRecDepth 20000 in
set_option maxHeartbeats 4000000 in
theorem zCS (f:Fm)(hf:f.Ln 1048576)(n:Int):Fn Tryz.prog tyT 20 [.agg (dFm f), .c (.int .i64 n)] [.c (.bool (Qk f n))]:=by
 have h1:=hf.names
 have h2:=hf.sets.1
 unfold LnI at h1
 have hr: ∀v,(gl f.sets v).length≤1048576:=fun v=>ZP hf.sets v
 unfold dFm
 refine θH (ts:= [4]) Tryz.func20 Tryz.ntmps20 ?_
 push_cast [↓zK,↓zJ]
 refine θA ?_
 refine zL fun K1 hK1=> ?_
 refine zL fun K hK=> ?_
 refine zc false zQ zN ?_ rfl ?_
 ·kernel_rfl
 all_goals refine zm 2 fun K9 hK9=> ?_
 all_goals push_cast [↓zK,↓zJ]
 all_goals repeat'(first|(apply zO<;>(intro hg;(try push_cast at hg)))|(refine⟨_,xH _ _ _,?_⟩;push_cast [↓zK,↓zJ])|(refine⟨_,qS f.names h1 n (by omega),?_⟩;push_cast [↓zK,↓zJ])|apply And.intro|(intro hg;(try push_cast at hg)))
 all_goals first|exact gA|(exact zP (by omega))|skip
 all_goals(refine hK9 _ ?_;clear hK9 K9)
 all_goals refine zm 6 fun K9 hK9=> ?_
 all_goals push_cast [↓zK,↓zJ]
 all_goals repeat'(first|(apply zO<;>(intro hg;(try push_cast at hg)))|(refine⟨_,xH _ _ _,?_⟩;push_cast [↓zK,↓zJ])|(refine⟨_,qS f.names h1 n (by omega),?_⟩;push_cast [↓zK,↓zJ])|apply And.intro|(intro hg;(try push_cast at hg)))
 all_goals first|exact gA|(exact zP (by omega))|skip
 all_goals(refine hK9 _ ?_;clear hK9 K9)
 all_goals push_cast [↓zK,↓zJ]
 all_goals repeat'(first|(apply zO<;>(intro hg;(try push_cast at hg)))|(refine⟨_,xH _ _ _,?_⟩;push_cast [↓zK,↓zJ])|(refine⟨_,qS f.names h1 n (by omega),?_⟩;push_cast [↓zK,↓zJ])|apply And.intro|(intro hg;(try push_cast at hg)))
 all_goals first|exact gA|(exact zP (by omega))|skip
 all_goals(refine hK _ ?_;clear hK K)
 all_goals refine zU rfl (fun hc=> ?_) (fun hc=> ?_)
 all_goals(first|(cases hc;done)|skip)
 all_goals(try simp only [push_cast]at hc)
 all_goals try(
   refine θA ?_
   refine zY ⟨Or.inl rfl,?_⟩
   push_cast [zd,↓zK,↓zJ]
   symm
   first|exact zJZ (by omega)|(rw [ZK (by omega)];first|exact zDC (by with_reducible assumption)|exact zDD (by omega))
   done)
 refine zW (hK1 _ ?_)
 refine zL fun K2 hK2=> ?_
 refine θA ?_
 refine zV ?_
 have hok:zv f.names n=true:=by with_reducible assumption
 refine zh [4,5,6,10,17,23,29,30,31,32,33,34,35,36,37,38,39,40,41,42,43,44,45,46,47,48,49,50,51,52,53,54,55,56,57,58,59,60,61,62,63,64,65,66,67,68,69,70] [] (fun(k:Nat)=> [(5, .int .i64 k)]) (fun k=> []) (fun k=> []) (fun k=>k≤f.sets.length∧∀j,j<k→wh f n j=true) (fun k=>f.sets.length - k) 0 ?_ ⟨by omega,fun j hj=>by omega⟩ ?_
 ·
  exact θX
 ·rintro k ⟨hk,hall⟩ KL0 hL0
  have hrk:=hr k
  have hlk:=JC (gl f.sets k) f.names
  push_cast [↓zK,↓zJ]
  refine zL fun K3 hK3=> ?_
  refine θA ?_
  refine θU (fun hc=> ?_) fun hc=> ?_
  ·
   refine zW (hK3 _ ?_)
   refine zL fun K4 hK4=> ?_
   refine zV ?_
   refine zL fun K5 hK5=> ?_
   refine zL fun K hK=> ?_
   refine yN false zQ zN xR ?_ rfl ?_
   ·kernel_rfl
   intro E hE
   all_goals refine yb 7 (by decide) fun K9 hK9=> ?_
   all_goals push_cast [↓zK,↓zJ]
   all_goals repeat'(first|(apply zO<;>(intro hg;(try push_cast at hg)))|(refine⟨_,qS (gl f.sets k) (hr k) n (by omega),?_⟩;push_cast [↓zK,↓zJ])|(refine⟨_,JA (gl f.sets k) f.names (hr k) h1,?_⟩;push_cast [↓zK,↓zJ])|apply And.intro|(intro hg;(try push_cast at hg)))
   all_goals first|exact gA|(exact zP (by omega))|skip
   all_goals(refine hK9 _ _ ?_;clear hK9 K9)
   all_goals refine yb 10 (by decide) fun K9 hK9=> ?_
   all_goals push_cast [↓zK,↓zJ]
   all_goals repeat'(first|(apply zO<;>(intro hg;(try push_cast at hg)))|(refine⟨_,qS (gl f.sets k) (hr k) n (by omega),?_⟩;push_cast [↓zK,↓zJ])|(refine⟨_,JA (gl f.sets k) f.names (hr k) h1,?_⟩;push_cast [↓zK,↓zJ])|apply And.intro|(intro hg;(try push_cast at hg)))
   all_goals first|exact gA|(exact zP (by omega))|skip
   all_goals(refine hK9 _ _ ?_;clear hK9 K9)
   all_goals push_cast [↓zK,↓zJ]
   all_goals repeat'(first|(apply zO<;>(intro hg;(try push_cast at hg)))|(refine⟨_,qS (gl f.sets k) (hr k) n (by omega),?_⟩;push_cast [↓zK,↓zJ])|(refine⟨_,JA (gl f.sets k) f.names (hr k) h1,?_⟩;push_cast [↓zK,↓zJ])|apply And.intro|(intro hg;(try push_cast at hg)))
   all_goals first|exact gA|(refine hE _ _ ?_ ?_;kernel_rfl)|(exact zP (by omega))|skip
   all_goals clear hE E
   all_goals(refine hK _ ?_;clear hK K)
   all_goals refine zU rfl (fun hc=> ?_) (fun hc=> ?_)
   all_goals(first|(cases hc;done)|skip)
   all_goals(try simp only [push_cast]at hc)
   all_goals try(
     refine θA ?_
     refine zY ⟨Or.inl rfl,?_⟩
     push_cast [zd,↓zK,↓zJ]
     rw [ZK (by omega)];symm
     refine kh (i:=k) (by omega) ?_
     first|exact zBD (by with_reducible assumption)|exact zBE (by omega)
     done)
   refine zW (hK5 _ ?_)
   refine θA ?_
   refine zV ?_
   have hok1:zv (gl f.sets k) n=true:=by with_reducible assumption
   have hok2:(qX (gl f.sets k) f.names).length=0:=by omega
   refine zh [4,6,10,17,23,44,55,56,57,58,59,60,61,62,63,64,65,66,67,68,69,70] [] (fun(i:Nat)=> [(6, .int .i64 i)]) (fun i=> []) (fun i=> []) (fun i=>i≤k∧∀j,j<i→¬gl f.sets j=gl f.sets k) (fun i=>k - i) 0 ?_ ⟨by omega,fun j hj=>by omega⟩ ?_
   ·
    exact θX
   ·rintro i ⟨hi,hall2⟩ KL1 hL1
    have hri:=hr i
    push_cast [↓zK,↓zJ]
    refine zL fun K6 hK6=> ?_
    refine θA ?_
    refine θU (fun hc=> ?_) fun hc=> ?_
    ·
     refine zW (hK6 _ ?_)
     refine zL fun K7 hK7=> ?_
     refine zV ?_
     refine zL fun K hK=> ?_
     refine yN false zQ zN xR ?_ rfl ?_
     ·kernel_rfl
     intro E hE
     all_goals refine yb 11 (by decide) fun K9 hK9=> ?_
     all_goals push_cast [↓zK,↓zJ]
     all_goals repeat'(first|(apply zO<;>(intro hg;(try push_cast at hg)))|(refine⟨_,ZQ (gl f.sets i) (gl f.sets k) (hr i) (hr k),?_⟩;push_cast [↓zK,↓zJ])|apply And.intro|(intro hg;(try push_cast at hg)))
     all_goals first|exact gA|(exact zP (by omega))|skip
     all_goals(refine hK9 _ _ ?_;clear hK9 K9)
     all_goals push_cast [↓zK,↓zJ]
     all_goals repeat'(first|(apply zO<;>(intro hg;(try push_cast at hg)))|(refine⟨_,ZQ (gl f.sets i) (gl f.sets k) (hr i) (hr k),?_⟩;push_cast [↓zK,↓zJ])|apply And.intro|(intro hg;(try push_cast at hg)))
     all_goals first|exact gA|(refine hE _ _ ?_ ?_;kernel_rfl)|(exact zP (by omega))|skip
     all_goals clear hE E
     all_goals(refine hK _ ?_;clear hK K)
     refine θU (fun hc=> ?_) fun hc=> ?_
     ·
      refine θA ?_
      refine zY ⟨Or.inl rfl,?_⟩
      push_cast [zd,↓zK,↓zJ]
      rw [ZK (by omega)];symm
      exact kh (i:=k) (by omega) (zBF (zDr (j:=i) (by omega) (by omega) (by with_reducible assumption)))
     ·
      refine zW (hK7 _ ?_)
      refine θB ?_
      refine hL1 _ ⟨i+1,⟨by omega,fun j hj=>(by
        by_cases hji:j=i
        ·subst hji;with_reducible assumption
        ·exact hall2 j (by omega))⟩,by omega,?_⟩
      exact θX
    ·
     refine zi (hK4 _ ?_)
     refine θB ?_
     refine hL0 _ ⟨k+1,⟨by omega,fun j hj=>(by
       by_cases hjk:j=k
       ·subst hjk;exact KK hok1 (by omega) (zE2 (by omega) fun i hi=>hall2 i (by omega))
       ·exact hall j (by omega))⟩,by omega,?_⟩
     exact θX
  ·
   refine zi (hK2 _ ?_)
   refine θA ?_
   refine zY ⟨Or.inl rfl,?_⟩
   push_cast [zd,↓zK,↓zJ]
   rw [ZK (by omega)];symm
   exact ki hok (by omega) fun i hi=>hall i (by omega)
theorem Ye {b:List Int}{n:Int}(hs:zv b n=true):b.Pairwise (· < ·):=by
 rw [List.pairwise_iff_getElem]
 intro i j hi hj hij
 have :=zEG hs i j hij hj
 have e: ∀k (hk:k<b.length),b[k]=gi b k:=fun k hk=>by have :=wC hk;rw [List.getElem?_eq_getElem hk]at this;exact Option.some.inj this
 rw [e i hi,e j hj]
 exact this
theorem QH : ∀{xs ys:List Int},xs.Pairwise (· < ·)→ys.Pairwise (· < ·)→(∀x,x∈xs↔x∈ys)→xs=ys
 | [],[],_,_,_=>rfl
 | [],y::ys,_,_,h=>by have :=(h y).2 (by simp);simp at this
 |x::xs,[],_,_,h=>by have :=(h x).1 (by simp);simp at this
 |x::xs,y::ys,h1,h2,h=>by
  rw [List.pairwise_cons]at h1 h2
  have e:x=y:=by
   have hx:=(h x).1 (by simp)
   have hy:=(h y).2 (by simp)
   rw [List.mem_cons]at hx hy
   rcases hx with hx|hx
   ·exact hx
   ·rcases hy with hy|hy
    ·exact hy.symm
    ·have :=h1.1 y hy;have :=h2.1 x hx;omega
  subst e
  rw [QH h1.2 h2.2 fun z=> ?_]
  have hz:=h z
  rw [List.mem_cons,List.mem_cons]at hz
  constructor
  ·intro hm
   rcases hz.1 (.inr hm)with rfl|h3
   ·have :=h1.1 z hm;omega
   ·exact h3
  ·intro hm
   rcases hz.2 (.inr hm)with rfl|h3
   ·have :=h2.1 z hm;omega
   ·exact h3
def ya (a b:List Int):List Int:=a.filter fun x=>zr b x
theorem uA (a b:List Int):(ya a b).length≤a.length:=zAI _ _
theorem zGw {a b:List Int}{n m:Int}(ha:zv a n=true)(hb:zv b m=true):ya a b=ya b a:=by
 refine QH ((Ye ha).filter _) ((Ye hb).filter _) fun x=> ?_
 unfold ya
 rw [List.mem_filter,List.mem_filter,yD,yD]
 exact⟨fun h=>⟨h.2,h.1⟩,fun h=>⟨h.2,h.1⟩⟩
def XX (f:Fm)(met:List Int):Bool:=xg f 256&&(zv met 256&&xn f.sets (ya f.names met))
theorem zGh {f:Fm}{met:List Int}(h:xg f 256=false):XX f met=false:=by unfold XX;rw [h];rfl
theorem zGi {f:Fm}{met:List Int}(h:zv met 256=false):XX f met=false:=by unfold XX;rw [h,Bool.false_and,Bool.and_false]
theorem UB {f:Fm}{met:List Int}(h1:xg f 256=true)(h2:zv met 256=true):XX f met=xn f.sets (ya f.names met):=by unfold XX;rw [h1,h2];rfl
theorem qC {f:Fm}{n:Int}(h:xg f n=true):zv f.names n=true∧f.names.length≤4∧f.sets.length≤16:=by
 unfold xg at h
 rw [Bool.and_eq_true,Bool.and_eq_true,decide_eq_true_eq]at h
 exact⟨h.1,h.2.1⟩
set_option maxRecDepth 20000 in
set_option maxHeartbeats 4000000 in
theorem Jn (a b:List Int)(ha:a.length≤1048576)(hb:b.length≤1048576)(h1:zv a 256=true)(h2:zv b 256=true):Fn Tryz.prog tyT 76 [.c (DI a), .c (DI b)] [.c (DI (ya a b))]:=by
 have hA:=yP a 256 ha
 have hB:=yP b 256 hb
 rw [h1]at hA
 rw [h2]at hB
 refine θH (ts:= [4]) Tryz.func76 Tryz.ntmps76 ?_
 push_cast
 refine θA ?_
 refine zL fun K1 hK1=> ?_
 refine zL fun K hK=> ?_
 refine zc false zQ zN ?_ rfl ?_
 ·kernel_rfl
 all_goals refine zm 2 fun K9 hK9=> ?_
 all_goals push_cast
 all_goals repeat'(first|(apply zO<;>(intro hg;push_cast at hg))|(refine⟨_,hA,?_⟩;push_cast)|(refine⟨_,hB,?_⟩;push_cast)|apply And.intro|(intro hg;push_cast at hg))
 all_goals try exact gA
 refine hK9 _ ?_;clear hK9 K9
 all_goals refine zm 4 fun K9 hK9=> ?_
 all_goals push_cast
 all_goals repeat'(first|(apply zO<;>(intro hg;push_cast at hg))|(refine⟨_,hA,?_⟩;push_cast)|(refine⟨_,hB,?_⟩;push_cast)|apply And.intro|(intro hg;push_cast at hg))
 all_goals try exact gA
 refine hK9 _ ?_;clear hK9 K9
 all_goals push_cast
 all_goals repeat'(first|(apply zO<;>(intro hg;push_cast at hg))|(refine⟨_,hA,?_⟩;push_cast)|(refine⟨_,hB,?_⟩;push_cast)|apply And.intro|(intro hg;push_cast at hg))
 all_goals try exact gA
 refine hK _ ?_;clear hK K
 all_goals refine zU rfl (fun hc=> ?_) (fun hc=> ?_)
 all_goals(first|(cases hc;done)|skip)
 all_goals(try simp only [push_cast]at hc)
 all_goals try(
   refine θA ?_
   refine zY ⟨Or.inl rfl,?_⟩
   push_cast [zd]
   exfalso;simp_all
   done)
 refine zW (hK1 _ ?_)
 refine θA ?_
 refine zL fun K2 hK2=> ?_
 refine θA ?_
 refine zV ?_
 refine zh [5,7,11,19,20,21,22,23,24,25,26,27,28,29,30] [80] (fun(q:Nat×List Int)=> [(19, .int .i64 q.1),(5, .sl 80 [] 0 q.2.length 2)]) (fun q=> []) (fun q=> [(80,⟨.ex,2,dI q.2,none⟩)]) (fun q=>q.1≤a.length∧q.2=(a.take q.1).filter (fun x=>zr b x)) (fun q=>a.length - q.1) (0,[]) ?_ ⟨by omega,rfl⟩ ?_
 ·
  simp only [show dI ([]:List Int)= []from rfl]
  exact θX
 ·rintro⟨k,o⟩ ⟨hk,ho⟩ KL0 hL0
  simp only at hk ho
  have hol:o.length≤a.length:=by rw [ho];exact uQ _ _ _
  push_cast
  refine θA ?_
  refine zL fun K3 hK3=> ?_
  refine θU (fun hc=> ?_) fun hc=> ?_
  ·
   refine zW (hK3 _ ?_)
   refine zL fun K4 hK4=> ?_
   refine zV ?_
   refine θA ?_
   refine θL fun K hK=> ?_
   all_goals refine zj 3 fun K9 hK9=> ?_
   all_goals push_cast
   all_goals repeat'(first|(apply zO<;>(intro hg;push_cast at hg))|(refine⟨_,xz b _ hb,?_⟩;push_cast)|apply And.intro|(intro hg;push_cast at hg))
   all_goals try exact gA
   refine hK9 _ ?_;clear hK9 K9
   all_goals push_cast
   all_goals repeat'(first|(apply zO<;>(intro hg;push_cast at hg))|(refine⟨_,xz b _ hb,?_⟩;push_cast)|apply And.intro|(intro hg;push_cast at hg))
   all_goals try exact gA
   refine hK _ ?_;clear hK K
   refine θU (fun hc=> ?_) fun hc=> ?_
   ·
    refine θB ?_
    refine hK4 _ ?_
    refine θB ?_
    refine hL0 _ ⟨(k+1,o++ [gi a k]),⟨by simp only;omega,by simp only;rw [kj (by omega) (by rw [hc]),←ho]⟩,by simp only;omega,?_⟩
    refine zX rfl ?_ ?_ ?_<;>push_cast [zf,ze]
    all_goals(try(rw [List.length_append];rfl))
   ·
    refine zW (hK4 _ ?_)
    refine θB ?_
    refine hL0 _ ⟨(k+1,o),⟨by simp only;omega,by simp only;rw [zAJ (by omega) (by rw [hc]),←ho]⟩,by simp only;omega,?_⟩
    exact θX
    all_goals(try(rw [List.length_append];rfl))
  ·
   refine zi ?_
   have hkk:k=a.length:=by omega
   subst hkk
   rw [List.take_length]at ho
   refine hK2 _ ?_
   refine θA ?_
   refine zY ⟨Or.inl rfl,?_⟩
   push_cast [zd]
   subst ho
   first|rfl|(simp [ya];done)
set_option maxRecDepth 20000 in
set_option maxHeartbeats 4000000 in
theorem zBv (f:Fm)(hf:f.Ln 1048576)(met:List Int)(hm:met.length≤1048576):Fn Tryz.prog tyT 28 [.agg (dFm f), .c (DI met)] [.c (.bool (XX f met))]:=by
 have h1:=hf.names
 have h2:=hf.sets.1
 unfold LnI at h1
 have hr: ∀v,(gl f.sets v).length≤1048576:=fun v=>ZP hf.sets v
 have hA:=Vr f hf 256
 have hH:=fun t ht=>VJ f h2 hr t ht
 unfold dFm at hA hH
 unfold dFm
 refine θH (ts:= [4]) Tryz.func28 Tryz.ntmps28 ?_
 push_cast [↓zK,↓zJ]
 refine θA ?_
 refine zL fun K1 hK1=> ?_
 refine zL fun K hK=> ?_
 refine zc false zQ zN ?_ rfl ?_
 ·kernel_rfl
 all_goals refine zm 2 fun K9 hK9=> ?_
 all_goals push_cast [↓zK,↓zJ]
 all_goals repeat'(first|(apply zO<;>(intro hg;(try push_cast at hg)))|(refine⟨_,hA,?_⟩;push_cast [↓zK,↓zJ])|(refine⟨_,yP met 256 hm,?_⟩;push_cast [↓zK,↓zJ])|apply And.intro|(intro hg;(try push_cast at hg)))
 all_goals try exact gA
 all_goals(refine hK9 _ ?_;clear hK9 K9)
 all_goals refine zm 4 fun K9 hK9=> ?_
 all_goals push_cast [↓zK,↓zJ]
 all_goals repeat'(first|(apply zO<;>(intro hg;(try push_cast at hg)))|(refine⟨_,hA,?_⟩;push_cast [↓zK,↓zJ])|(refine⟨_,yP met 256 hm,?_⟩;push_cast [↓zK,↓zJ])|apply And.intro|(intro hg;(try push_cast at hg)))
 all_goals try exact gA
 all_goals(refine hK9 _ ?_;clear hK9 K9)
 all_goals push_cast [↓zK,↓zJ]
 all_goals repeat'(first|(apply zO<;>(intro hg;(try push_cast at hg)))|(refine⟨_,hA,?_⟩;push_cast [↓zK,↓zJ])|(refine⟨_,yP met 256 hm,?_⟩;push_cast [↓zK,↓zJ])|apply And.intro|(intro hg;(try push_cast at hg)))
 all_goals try exact gA
 all_goals(refine hK _ ?_;clear hK K)
 all_goals refine zU rfl (fun hc=> ?_) (fun hc=> ?_)
 all_goals(first|(cases hc;done)|skip)
 all_goals(try simp only [push_cast]at hc)
 all_goals try(
   refine θA ?_
   refine zY ⟨Or.inl rfl,?_⟩
   push_cast [zd,↓zK,↓zJ]
   symm
   first|exact zGh (by with_reducible assumption)|exact zGi (by with_reducible assumption)
   done)
 refine zW (hK1 _ ?_)
 have hok1:xg f 256=true:=by with_reducible assumption
 have hok2:zv met 256=true:=by with_reducible assumption
 refine zL fun K hK=> ?_
 refine yN false zQ zN xR ?_ rfl ?_
 ·kernel_rfl
 intro E hE
 all_goals refine yb 5 (by decide) fun K9 hK9=> ?_
 all_goals push_cast [↓zK,↓zJ]
 all_goals repeat'(first|(apply zO<;>(intro hg;(try push_cast at hg)))|(refine⟨_,Jn met f.names hm h1 hok2 (qC hok1).1,?_⟩;push_cast [↓zK,↓zJ])|(refine⟨_,hH (ya met f.names) (Nat.le_trans (uA _ _) hm),?_⟩;push_cast [↓zK,↓zJ])|apply And.intro|(intro hg;(try push_cast at hg)))
 all_goals try exact gA
 all_goals(refine hK9 _ _ ?_;clear hK9 K9)
 all_goals refine yb 1 (by decide) fun K9 hK9=> ?_
 all_goals push_cast [↓zK,↓zJ]
 all_goals repeat'(first|(apply zO<;>(intro hg;(try push_cast at hg)))|(refine⟨_,Jn met f.names hm h1 hok2 (qC hok1).1,?_⟩;push_cast [↓zK,↓zJ])|(refine⟨_,hH (ya met f.names) (Nat.le_trans (uA _ _) hm),?_⟩;push_cast [↓zK,↓zJ])|apply And.intro|(intro hg;(try push_cast at hg)))
 all_goals try exact gA
 all_goals(refine hK9 _ _ ?_;clear hK9 K9)
 all_goals push_cast [↓zK,↓zJ]
 all_goals repeat'(first|(apply zO<;>(intro hg;(try push_cast at hg)))|(refine⟨_,Jn met f.names hm h1 hok2 (qC hok1).1,?_⟩;push_cast [↓zK,↓zJ])|(refine⟨_,hH (ya met f.names) (Nat.le_trans (uA _ _) hm),?_⟩;push_cast [↓zK,↓zJ])|apply And.intro|(intro hg;(try push_cast at hg)))
 all_goals first|exact gA|(refine hE _ _ ?_ ?_;kernel_rfl)|skip
 all_goals clear hE E
 all_goals(refine hK _ ?_;clear hK K)
 refine zY ⟨Or.inl rfl,?_⟩
 push_cast [zd,↓zK,↓zJ]
 rw [UB hok1 hok2,zGw hok2 (qC hok1).1]
open Go.Shelf
def zCf :Go.Shelf.Ren:=⟨fun|53=>118|64=>167|63=>166|78=>194|79=>195|70=>186|71=>187|72=>188|73=>189|74=>190|75=>191|59=>184|76=>192|77=>193|88=>210|89=>211|90=>212|91=>213|92=>214|68=>208|96=>220|n=>n,fun|22=>22|23=>2|3=>3|51=>100|0=>0|67=>203|69=>42|4=>4|61=>197|60=>196|44=>175|5=>5|9=>9|75=>216|79=>220|83=>224|84=>225|n=>n,fun|n=>n⟩
theorem zCe :Go.Proofs.SlLaysN.n53 Tryz.prog zCf:={
 mixed:=by kernel_rfl
 f53:=⟨Tryz.f118.name,by decide,Tryz.func118.trans (congrArg some (by kernel_rfl))⟩
 f59:=⟨Tryz.f184.name,by decide,Tryz.func184.trans (congrArg some (by kernel_rfl))⟩
 f63:=⟨Tryz.f166.name,by decide,Tryz.func166.trans (congrArg some (by kernel_rfl))⟩
 f64:=Tryz.func167.trans (congrArg some (by kernel_rfl))
 f68:=⟨Tryz.f208.name,by decide,Tryz.func208.trans (congrArg some (by kernel_rfl))⟩
 f70:=⟨Tryz.f186.name,by decide,Tryz.func186.trans (congrArg some (by kernel_rfl))⟩
 f71:=⟨Tryz.f187.name,by decide,Tryz.func187.trans (congrArg some (by kernel_rfl))⟩
 f72:=⟨Tryz.f188.name,by decide,Tryz.func188.trans (congrArg some (by kernel_rfl))⟩
 f73:=⟨Tryz.f189.name,by decide,Tryz.func189.trans (congrArg some (by kernel_rfl))⟩
 f74:=⟨Tryz.f190.name,by decide,Tryz.func190.trans (congrArg some (by kernel_rfl))⟩
 f75:=⟨Tryz.f191.name,by decide,Tryz.func191.trans (congrArg some (by kernel_rfl))⟩
 f76:=⟨Tryz.f192.name,by decide,Tryz.func192.trans (congrArg some (by kernel_rfl))⟩
 f77:=⟨Tryz.f193.name,by decide,Tryz.func193.trans (congrArg some (by kernel_rfl))⟩
 f78:=Tryz.func194.trans (congrArg some (by kernel_rfl))
 f79:=Tryz.func195.trans (congrArg some (by kernel_rfl))
 f88:=⟨Tryz.f210.name,by decide,Tryz.func210.trans (congrArg some (by kernel_rfl))⟩
 f89:=Tryz.func211.trans (congrArg some (by kernel_rfl))
 f90:=Tryz.func212.trans (congrArg some (by kernel_rfl))
 f91:=⟨Tryz.f213.name,by decide,Tryz.func213.trans (congrArg some (by kernel_rfl))⟩
 f92:=⟨Tryz.f214.name,by decide,Tryz.func214.trans (congrArg some (by kernel_rfl))⟩
 f96:=⟨Tryz.f220.name,by decide,Tryz.func220.trans (congrArg some (by kernel_rfl))⟩
 t0:=Tryz.underlying0
 a0:=Tryz.isAgg0
 z0:=Tryz.sizeOf0
 v0:=Tryz.zeroValue0
 t3:=Tryz.underlying3
 a3:=Tryz.isAgg3
 z3:=Tryz.sizeOf3
 v3:=Tryz.zeroValue3
 t4:=Tryz.underlying4
 a4:=Tryz.isAgg4
 z4:=Tryz.sizeOf4
 v4:=Tryz.zeroValue4
 t5:=Tryz.underlying5
 a5:=Tryz.isAgg5
 z5:=Tryz.sizeOf5
 v5:=Tryz.zeroValue5
 t9:=Tryz.underlying9
 a9:=Tryz.isAgg9
 z9:=Tryz.sizeOf9
 v9:=Tryz.zeroValue9
 t22:=Tryz.underlying22
 a22:=Tryz.isAgg22
 z22:=Tryz.sizeOf22
 v22:=Tryz.zeroValue22
 t23:=Tryz.underlying2
 a23:=Tryz.isAgg2
 z23:=Tryz.sizeOf2
 v23:=Tryz.zeroValue2
 t44:=Tryz.underlying175
 a44:=Tryz.isAgg175
 z44:=Tryz.sizeOf175
 v44:=Tryz.zeroValue175
 t51:=Tryz.underlying100
 a51:=Tryz.isAgg100
 z51:=Tryz.sizeOf100
 v51:=Tryz.zeroValue100
 t60:=Tryz.underlying196
 a60:=Tryz.isAgg196
 z60:=Tryz.sizeOf196
 v60:=Tryz.zeroValue196
 t61:=Tryz.underlying197
 a61:=Tryz.isAgg197
 z61:=Tryz.sizeOf197
 v61:=Tryz.zeroValue197
 t67:=Tryz.underlying203
 a67:=Tryz.isAgg203
 z67:=Tryz.sizeOf203
 v67:=Tryz.zeroValue203
 t69:=Tryz.underlying42
 a69:=Tryz.isAgg42
 z69:=Tryz.sizeOf42
 v69:=Tryz.zeroValue42
 t75:=Tryz.underlying216
 a75:=Tryz.isAgg216
 z75:=Tryz.sizeOf216
 v75:=Tryz.zeroValue216
 t79:=Tryz.underlying220
 a79:=Tryz.isAgg220
 z79:=Tryz.sizeOf220
 v79:=Tryz.zeroValue220
 t83:=Tryz.underlying224
 a83:=Tryz.isAgg224
 z83:=Tryz.sizeOf224
 v83:=Tryz.zeroValue224
 t84:=Tryz.underlying225
 a84:=Tryz.isAgg225
 z84:=Tryz.sizeOf225
 v84:=Tryz.zeroValue225}
open Go Go.RowKit Go.Sort
def zz (xs:List Int):List Int:=xs.mergeSort fun x y=>decide (x≤y)
theorem xJ (xs:List Int):(zz xs).length=xs.length:=List.length_mergeSort ..
theorem xE (xs:List Int):(zz xs).Perm xs:=List.mergeSort_perm ..
theorem vd (xs:List Int):(zz xs).Pairwise (· ≤ ·):=by
 have :=List.pairwise_mergeSort (le:=fun x y:Int=>decide (x≤y)) (fun a b c h1 h2=>by simp at h1 h2⊢;omega) (fun a b=>by simp;omega) xs
 refine this.imp fun h=>by simpa using h
theorem VV :zz []= []:=by simp [zz]
theorem zB1 :vU Tryz.prog 118:=⟨_,Tryz.func118,by decide+kernel,rfl⟩
theorem zFZ {S:TypeId→Nat}{lo:Nat}{w:World}{ow:Nat→Option Pl}: ∀{xs:List Int} {m:Md} {k:Nat} {vs:List Value},RpL S lo w ow m k (dI xs) vs→vs=xs.map (Value.int .i64)
 | [],m,k,vs,h=>by simpa only [dI,List.map_nil,RpL]using h
 |x::xs,m,k,vs,h=>by
  simp only [dI,List.map_cons,RpL,Rp]at h
  obtain⟨v,vs',rfl,rfl,h2⟩:=h
  rw [zFZ (xs:=xs) h2]
  rfl
set_option maxHeartbeats 1000000 in
theorem jA (xs:List Int)(hl:xs.length≤1048576):FnG Tryz.prog tyT 118 [.c (DI xs)] [0] [(0,2,dI (zz xs))] []:=by
 refine⟨zB1,fun lo w ow cargs hlo how hargs=> ?_⟩
 obtain⟨h1,h2⟩:=hargs
 obtain⟨v,rfl⟩: ∃v,cargs= [v]:=by
  cases cargs with
  |nil=>simp at h1
  |cons v vs=>cases vs with
   |nil=>exact⟨v,rfl⟩
   |cons _ _=>simp at h1
 obtain⟨cs,k1,k2,k3⟩:=h2 0 _ v rfl rfl
 have hv:Rp (sz tyT) lo w ow (.ex 0 []) (DI xs) v:=by
  rcases k3 with⟨d,c,e1,rfl,rfl⟩|⟨ds,e1,-⟩|⟨f,ds,e1,-⟩
  ·exact k2 0 _ _ rfl rfl
  ·cases e1
  ·cases e1
 simp only [DI,Rp]at hv
 obtain⟨vs,⟨q1,n,q2,q3,q4⟩,q5⟩:=hv
 have hs1:sz tyT 2=1:=rfl
 have hvs:=zFZ q5
 rw [WL,hs1,Nat.mul_one]at q2
 subst q2
 rw [hs1]at q3
 have hh:yJ [v] 0=v∨True:= .inr trivial
 rcases q3.2 with⟨rfl,h0⟩|⟨g,cap,cur,rfl,hg,hb,hc1,hc2,hc3,htake⟩
 ·have hx:xs= []:=List.eq_nil_of_length_eq_zero h0
  subst hx
  refine(AnyG.slices_Sort_int_none zCe none 0 w).mono fun e w' ⟨he,hw⟩=> ?_
  subst hw;subst he
  refine⟨[],fun b=>none,rfl,xS.start _,fun b _ _=>rfl,fun b p h=>(by cases h),by simp [wl],fun x hx=> ?_⟩
  simp only [List.mem_singleton]at hx
  subst hx
  simp only [VV,show dI ([]:List Int)= []from rfl]
  exact wm _ _ _
 ·rw [hvs]at htake q3
  have hlt:g<w.heap.size:=(Array.getElem?_eq_some_iff.1 hb).1
  rw [Nat.mul_one]at htake
  have hH:=holds_of_blockI hb htake
  have hsl:=xJ xs
  refine(AnyG.slices_Sort_int zCe g 0 cap xs w hH hlt (by omega)).mono fun e w' ⟨he,n,os,hw⟩=> ?_
  subst he
  have hgr:w.grownBy w' (some g):=by rw [hw];exact grownBy_sortedI _
  have hown:=ownsRow_sortedI (base:=lo) (n:=n) (os:=os) (ts:=zz xs) hsl hg hb hc1 hc2 hc3
  rw [show(grow (putRow (Value.int .i64) (Sort.ahead w n) g 0 (zz xs).toArray) os)=w' from hw.symm]at hown
  have hog:=q4 g rfl
  refine⟨[],fun b=>match ow b with|some (.root d q)=>if d=0 then some (.root (ZS 0) q)else none|_=>none,rfl,⟨hgr.os,hgr.tape,hgr.output,hgr.size,fun b hb' hk=>hgr.block b hb' (fun e=> ?_)⟩,fun b _ h=>by simp only [h],fun b p h=> ?_,by simp [wl],fun x hx=> ?_⟩
  ·simp only [Option.some.injEq]at e
   subst e
   simp only at hk
   rw [hog]at hk;cases hk
  ·simp only at h
   split at h
   ·rename_i d q ho
    split at h
    ·cases h
     have :=how b _ ho
     exact⟨Nat.lt_of_lt_of_le this.1 hgr.size,this.2.1,_,_,rfl⟩
    ·cases h
   ·cases h
  ·simp only [List.mem_singleton]at hx
   subst hx
   simp only
   refine(yC _ _).2 ⟨(zz xs).map (Value.int .i64),⟨by simp [WL],xs.length,by rw [WL,hs1,hsl,Nat.mul_one],?_⟩,fun i x u hx hu=> ?_⟩
   ·simp only
    rw [hs1]
    exact⟨hown,fun b hb'=>by
     have :b=g:=by simp [yJ,Value.ownBlock]at hb';exact hb'.symm
     subst this
     simp only [hog,if_true]⟩
   ·simp only [dI,List.getElem?_map]at hx hu
    cases hk:(zz xs)[i]? with
    |none=>rw [hk]at hx;cases hx
    |some y=>rw [hk]at hx hu;cases hx;cases hu;simp only [Rp]
end Go.Proofs.YthepmdkpbjfdcaaGreat
