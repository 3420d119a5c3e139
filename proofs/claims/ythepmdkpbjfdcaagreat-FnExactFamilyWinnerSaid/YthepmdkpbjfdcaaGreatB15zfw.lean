/- families of sets: both sides' tests -/
import Derived.Test.YthepmdkpbjfdcaaGreatB11zfw
import Derived.Test.YthepmdkpbjfdcaaGreatB14zfw
import Derived.Test.YthepmdkpbjfdcaaGreatGDzfw
import Derived.Shelf.SortG.Plain
import Derived.Shelf.SortG.SortNone
import Derived.Test.YthepmdkpbjfdcaaGreatProg
import Derived.Sort.OwnSortedInts
namespace Go.Proofs.YthepmdkpbjfdcaaGreat
open Nat renaming reduceMod → zA, reduceMul → zB, reduceDiv → zC, reduceAdd → zD, reduceSub → zE, reduceEqDiff → zF, reduceBEq → zG, reduceLT → zH, reduceLeDiff → zI
open Go.RowKit
set_option linter.unusedVariables false
set_option linter.unusedSimpArgs false
def ZA (a b:List Int):List Int:=a.filter fun x=> !yD b x
theorem zAx (a b:List Int):(ZA a b).length≤a.length:=kR _ _
theorem un {a b:List Int}:(ZA a b).length=0↔∀x∈a,x∈b:=by
 unfold ZA
 rw [List.length_eq_zero_iff,List.filter_eq_nil_iff]
 constructor
 ·intro h x hx
  have :=h x hx
  rw [←xD]
  simpa using this
 ·intro h x hx
  have :=h x hx
  rw [←xD]at this
  simp [this]
theorem zGD {a b:List Int}{k:Nat}(hk:k<a.length)(h:yD b (gi a k)=false): ¬(ZA a b).length=0:=by
 rw [un]
 intro h2
 have :=xD b (gi a k)
 rw [h]at this
 exact absurd (this.2 (h2 _ (Qg hk))) (by decide)
theorem zEl {a b:List Int}(h: ∀k,k<a.length→yD b (gi a k)=true):(ZA a b).length=0:=by
 rw [un]
 intro x hx
 obtain⟨k,hk,rfl⟩:=zEs hx
 exact(xD _ _).1 (h k hk)
def vt (f:Fm)(n:Int)(i:Nat):Bool:=yf (gl f.sets i) n&&(decide ((ZA (gl f.sets i) f.names).length=0)&& !qD (f.sets.take i) (gl f.sets i))
theorem uT {f:Fm}{n:Int}{i:Nat}(h:yf (gl f.sets i) n=false):vt f n i=false:=by unfold vt;rw [h];rfl
theorem uU {f:Fm}{n:Int}{i:Nat}(h: ¬(ZA (gl f.sets i) f.names).length=0):vt f n i=false:=by unfold vt;rw [decide_eq_false h,Bool.false_and,Bool.and_false]
theorem uV {f:Fm}{n:Int}{i:Nat}(h:qD (f.sets.take i) (gl f.sets i)=true):vt f n i=false:=by unfold vt;rw [h];simp
theorem uW {f:Fm}{n:Int}{i:Nat}(h1:yf (gl f.sets i) n=true)(h2:(ZA (gl f.sets i) f.names).length=0)(h3:qD (f.sets.take i) (gl f.sets i)=false):vt f n i=true:=by unfold vt;rw [h1,decide_eq_true h2,h3];rfl
def qr (f:Fm)(n:Int):Bool:=yf f.names n&&(decide (f.names.length≤4∧f.sets.length≤16)&&QB f.sets.length (vt f n))
theorem zAd {f:Fm}{n:Int}(h:yf f.names n=false):qr f n=false:=by unfold qr;rw [h];rfl
theorem zAe {f:Fm}{n:Int}(h: ¬(f.names.length≤4∧f.sets.length≤16)):qr f n=false:=by unfold qr;rw [decide_eq_false h,Bool.false_and,Bool.and_false]
theorem KX {f:Fm}{n:Int}{i:Nat}(hi:i<f.sets.length)(h:vt f n i=false):qr f n=false:=by unfold qr;rw [Yh hi h,Bool.and_false,Bool.and_false]
theorem zAf {f:Fm}{n:Int}(h1:yf f.names n=true)(h2:f.names.length≤4∧f.sets.length≤16)(h3: ∀i,i<f.sets.length→vt f n i=true):qr f n=true:=by unfold qr;rw [h1,decide_eq_true h2,vZ h3];rfl
def WW (f:Fm)(n:Int):Bool:=decide (0≤n∧n≤256)&&qr f n
theorem zFw {f:Fm}{n:Int}(h: ¬(0≤n∧n≤256)):WW f n=false:=by unfold WW;rw [decide_eq_false h];rfl
theorem Zw {f:Fm}{n:Int}(h:0≤n∧n≤256):WW f n=qr f n:=by unfold WW;rw [decide_eq_true h];rfl
theorem zFz {xs:List (List Int)}{B k:Nat}(h: ∀v,(gl xs v).length≤B)(v:Nat):(gl (xs.take k) v).length≤B:=by
 rcases Nat.lt_or_ge v k with h1|h1
 ·rw [show gl (xs.take k) v=gl xs v from by unfold gl;rw [List.getD_eq_getElem?_getD,List.getElem?_take_of_lt h1,List.getD_eq_getElem?_getD]]
  exact h v
 ·rw [show gl (xs.take k) v= []from by unfold gl;rw [List.getD_eq_getElem?_getD,List.getElem?_take_eq_none h1];rfl]
  simp
theorem Jw {xs:List (List Int)}{s:List Int}{k:Nat}(hk:k≤xs.length)(h: ∀j,j<k→¬gl xs j=s):qD (xs.take k) s=false:=by
 rw [Bool.eq_false_iff,ne_eq,zA7]
 intro hm
 obtain⟨j,hj,rfl⟩:=zEt hm
 rw [List.length_take]at hj
 have e:gl (xs.take k) j=gl xs j:=by unfold gl;rw [List.getD_eq_getElem?_getD,List.getElem?_take_of_lt (by omega),List.getD_eq_getElem?_getD]
 exact h j (by omega) e.symm
theorem Wq {xs:List (List Int)}{k j:Nat}{s:List Int}(hj:j<k)(hk:k≤xs.length)(h:gl xs j=s):qD (xs.take k) s=true:=by
 rw [zA7]
 have e:gl (xs.take k) j=gl xs j:=by unfold gl;rw [List.getD_eq_getElem?_getD,List.getElem?_take_of_lt hj,List.getD_eq_getElem?_getD]
 rw [←h,←e]
 exact zJK (by rw [List.length_take];omega)
set_option maxRecDepth 20000 in
set_option maxHeartbeats 4000000 in
theorem zBq (f:Fm)(hf:f.Ln 1048576)(n:Int):Fn Tryz.prog tyT 72 [.agg (dFm f), .c (.int .i64 n)] [.c (.bool (qr f n))]:=by
 have h1:=hf.names
 have h2:=hf.sets.1
 unfold LnI at h1
 have hr: ∀v,(gl f.sets v).length≤1048576:=fun v=>Yl hf.sets v
 have hH:=fun k=>uc ⟨[],f.sets.take k⟩ (by rw [List.length_take];omega) (zFz hr) (gl f.sets k) (hr k)
 have hL:=fun h k=>zEm (gl f.sets k) f.names (hr k) h1 n h
 unfold dFm at hH
 unfold dFm
 (try simp only at hH)
 refine zr (fn:=Tryz.f72) (ts:= [4]) Tryz.func72 (by kernel_rfl) rfl rfl (by rw [Tryz.ntmps72];exact Nat.le_of_ble_eq_true rfl) rfl (by simp only [szA,List.mem_cons,List.not_mem_nil,or_false,forall_eq_or_imp,forall_eq,VT.cells,szL];try decide) ?_
 rw [Tryz.ntmps72]
 push_cast [↓zK,↓zJ]
 refine zL fun K hK=> ?_
 refine zM zO zN [] rfl ?_
 all_goals push_cast [↓zK,↓zJ]
 all_goals repeat'(first|(apply zP<;>(intro hg;(try simp only [push_cast]at hg)))|apply And.intro|(intro hg;(try simp only [push_cast]at hg)))
 all_goals first|exact gA|(exact zS (by omega))|skip
 all_goals(refine hK _ ?_;clear hK K)
 refine zL fun K1 hK1=> ?_
 refine zL fun K hK=> ?_
 refine zj false zO zN ?_ rfl ?_
 ·kernel_rfl
 all_goals refine yF 4 fun K9 hK9=> ?_
 all_goals push_cast [↓zK,↓zJ]
 all_goals repeat'(first|(apply zP<;>(intro hg;(try simp only [push_cast]at hg)))|(refine⟨_,xE f.names n h1,?_⟩;push_cast [↓zK,↓zJ])|apply And.intro|(intro hg;(try simp only [push_cast]at hg)))
 all_goals first|exact gA|(exact zS (by omega))|skip
 all_goals(refine hK9 _ ?_;clear hK9 K9)
 all_goals push_cast [↓zK,↓zJ]
 all_goals repeat'(first|(apply zP<;>(intro hg;(try simp only [push_cast]at hg)))|(refine⟨_,xE f.names n h1,?_⟩;push_cast [↓zK,↓zJ])|apply And.intro|(intro hg;(try simp only [push_cast]at hg)))
 all_goals first|exact gA|(exact zS (by omega))|skip
 all_goals(refine hK _ ?_;clear hK K)
 all_goals refine zT rfl (fun hc=> ?_) (fun hc=> ?_)
 all_goals(first|(cases hc;done)|skip)
 all_goals(try simp only [push_cast]at hc)
 all_goals try(
   refine zL fun K hK=> ?_
   refine zM zO zN [] rfl ?_
   all_goals push_cast [↓zK,↓zJ]
   all_goals repeat'(first|(apply zP<;>(intro hg;(try simp only [push_cast]at hg)))|apply And.intro|(intro hg;(try simp only [push_cast]at hg)))
   all_goals first|exact gA|(exact zS (by omega))|skip
   all_goals(refine hK _ ?_;clear hK K)
   refine zW ?_
   refine⟨Or.inl rfl,?_⟩
   push_cast [za,↓zK,↓zJ]
   symm
   first|exact zAd (by with_reducible assumption)|exact zAe (by omega)
   done)
 refine zU ?_
 refine hK1 _ ?_
 refine zL fun K2 hK2=> ?_
 refine zL fun K hK=> ?_
 refine zM zO zN [] rfl ?_
 all_goals push_cast [↓zK,↓zJ]
 all_goals repeat'(first|(apply zP<;>(intro hg;(try simp only [push_cast]at hg)))|apply And.intro|(intro hg;(try simp only [push_cast]at hg)))
 all_goals first|exact gA|(exact zS (by omega))|skip
 all_goals(refine hK _ ?_;clear hK K)
 refine zV ?_
 have hok:yf f.names n=true:=by with_reducible assumption
 refine zh [4,5,6,12,18,27,28,29,30,31,32,33,34,35,36,37,38,39,40,41,42,43,44,45,46,47,48,49,50,51,52,53] [] (fun(k:Nat)=> [(27, .int .i64 k)]) (fun k=> []) (fun k=> []) (fun k=>k≤f.sets.length∧∀j,j<k→vt f n j=true) (fun k=>f.sets.length - k) 0 ?_ ⟨by omega,fun j hj=>by omega⟩ ?_
 ·
  refine zX rfl ?_ ?_ ?_<;>push_cast [zg,zf,↓zK,↓zJ]
 ·rintro k ⟨hk,hall⟩ KL0 hL0
  have hrk:=hr k
  have hlk:=zAx (gl f.sets k) f.names
  push_cast [↓zK,↓zJ]
  refine zL fun K hK=> ?_
  refine zM zO zN [] rfl ?_
  all_goals push_cast [↓zK,↓zJ]
  all_goals repeat'(first|(apply zP<;>(intro hg;(try simp only [push_cast]at hg)))|apply And.intro|(intro hg;(try simp only [push_cast]at hg)))
  all_goals first|exact gA|(exact zS (by omega))|skip
  all_goals(refine hK _ ?_;clear hK K)
  refine zL fun K3 hK3=> ?_
  refine zT rfl (fun hc=> ?_) (fun hc=> ?_)<;>(try simp only [push_cast]at hc)
  ·
   refine zU ?_
   refine hK3 _ ?_
   refine zL fun K4 hK4=> ?_
   refine zV ?_
   refine zL fun K hK=> ?_
   refine zM zO zN [] rfl ?_
   all_goals push_cast [↓zK,↓zJ]
   all_goals repeat'(first|(apply zP<;>(intro hg;(try simp only [push_cast]at hg)))|apply And.intro|(intro hg;(try simp only [push_cast]at hg)))
   all_goals first|exact gA|(exact zS (by omega))|skip
   all_goals(refine hK _ ?_;clear hK K)
   refine zL fun K hK=> ?_
   refine zj false zO zN ?_ rfl ?_
   ·kernel_rfl
   all_goals refine yF 3 fun K9 hK9=> ?_
   all_goals push_cast [↓zK,↓zJ]
   all_goals repeat'(first|(apply zP<;>(intro hg;(try simp only [push_cast]at hg)))|(refine⟨_,xE (gl f.sets k) n (hr k),?_⟩;push_cast [↓zK,↓zJ])|(refine⟨_,hL hok k,?_⟩;push_cast [↓zK,↓zJ])|(refine⟨_,hH k,?_⟩;push_cast [↓zK,↓zJ])|apply And.intro|(intro hg;(try simp only [push_cast]at hg)))
   all_goals first|exact gA|(exact zS (by omega))|skip
   all_goals(refine hK9 _ ?_;clear hK9 K9)
   all_goals refine yF 6 fun K9 hK9=> ?_
   all_goals push_cast [↓zK,↓zJ]
   all_goals repeat'(first|(apply zP<;>(intro hg;(try simp only [push_cast]at hg)))|(refine⟨_,xE (gl f.sets k) n (hr k),?_⟩;push_cast [↓zK,↓zJ])|(refine⟨_,hL hok k,?_⟩;push_cast [↓zK,↓zJ])|(refine⟨_,hH k,?_⟩;push_cast [↓zK,↓zJ])|apply And.intro|(intro hg;(try simp only [push_cast]at hg)))
   all_goals first|exact gA|(exact zS (by omega))|skip
   all_goals(refine hK9 _ ?_;clear hK9 K9)
   all_goals refine yF 11 fun K9 hK9=> ?_
   all_goals push_cast [↓zK,↓zJ]
   all_goals repeat'(first|(apply zP<;>(intro hg;(try simp only [push_cast]at hg)))|(refine⟨_,xE (gl f.sets k) n (hr k),?_⟩;push_cast [↓zK,↓zJ])|(refine⟨_,hL hok k,?_⟩;push_cast [↓zK,↓zJ])|(refine⟨_,hH k,?_⟩;push_cast [↓zK,↓zJ])|apply And.intro|(intro hg;(try simp only [push_cast]at hg)))
   all_goals first|exact gA|(exact zS (by omega))|skip
   all_goals(refine hK9 _ ?_;clear hK9 K9)
   all_goals push_cast [↓zK,↓zJ]
   all_goals repeat'(first|(apply zP<;>(intro hg;(try simp only [push_cast]at hg)))|(refine⟨_,xE (gl f.sets k) n (hr k),?_⟩;push_cast [↓zK,↓zJ])|(refine⟨_,hL hok k,?_⟩;push_cast [↓zK,↓zJ])|(refine⟨_,hH k,?_⟩;push_cast [↓zK,↓zJ])|apply And.intro|(intro hg;(try simp only [push_cast]at hg)))
   all_goals first|exact gA|(exact zS (by omega))|skip
   all_goals(refine hK _ ?_;clear hK K)
   all_goals refine zT rfl (fun hc=> ?_) (fun hc=> ?_)
   all_goals(first|(cases hc;done)|skip)
   all_goals(try simp only [push_cast]at hc)
   all_goals try(
     refine zL fun K hK=> ?_
     refine zM zO zN [] rfl ?_
     all_goals push_cast [↓zK,↓zJ]
     all_goals repeat'(first|(apply zP<;>(intro hg;(try simp only [push_cast]at hg)))|apply And.intro|(intro hg;(try simp only [push_cast]at hg)))
     all_goals first|exact gA|(exact zS (by omega))|skip
     all_goals(refine hK _ ?_;clear hK K)
     refine zW ?_
     refine⟨Or.inl rfl,?_⟩
     push_cast [za,↓zK,↓zJ]
     symm
     refine KX (i:=k) (by omega) ?_
     first|exact uT (by with_reducible assumption)|exact uV (by with_reducible assumption)|exact uU (by unfold ZA;omega)
     done)
   refine zU ?_
   refine hK4 _ ?_
   refine zM zO zN [] rfl ?_
   all_goals push_cast [↓zK,↓zJ]
   all_goals repeat'(first|(apply zP<;>(intro hg;(try simp only [push_cast]at hg)))|apply And.intro|(intro hg;(try simp only [push_cast]at hg)))
   all_goals first|exact gA|(exact zS (by omega))|skip
   refine hL0 _ ⟨k+1,⟨by omega,fun j hj=>(by
     by_cases hjk:j=k
     ·subst hjk;exact uW (by with_reducible assumption) (by unfold ZA;omega) (by with_reducible assumption)
     ·exact hall j (by omega))⟩,by omega,?_⟩
   refine zX rfl ?_ ?_ ?_<;>push_cast [zg,zf,↓zK,↓zJ]
  ·
   refine zi ?_
   refine hK2 _ ?_
   refine zL fun K hK=> ?_
   refine zM zO zN [] rfl ?_
   all_goals push_cast [↓zK,↓zJ]
   all_goals repeat'(first|(apply zP<;>(intro hg;(try simp only [push_cast]at hg)))|apply And.intro|(intro hg;(try simp only [push_cast]at hg)))
   all_goals first|exact gA|(exact zS (by omega))|skip
   all_goals(refine hK _ ?_;clear hK K)
   refine zW ?_
   refine⟨Or.inl rfl,?_⟩
   push_cast [za,↓zK,↓zJ]
   symm
   exact zAf hok (by omega) fun i hi=>hall i (by omega)
set_option maxRecDepth 20000 in
set_option maxHeartbeats 4000000 in
theorem VY (s names:List Int)(h1:s.length≤1048576)(h2:names.length≤1048576):Fn Tryz.prog tyT 63 [.c (DI s), .c (DI names)] [.c (.bool (decide ((ZA s names).length=0)))]:=by
 refine zr (fn:=Tryz.f63) (ts:= [4]) Tryz.func63 (by kernel_rfl) rfl rfl (by rw [Tryz.ntmps63];exact Nat.le_of_ble_eq_true rfl) rfl (by simp only [szA,List.mem_cons,List.not_mem_nil,or_false,forall_eq_or_imp,forall_eq,VT.cells,szL];try decide) ?_
 rw [Tryz.ntmps63]
 push_cast
 refine zL fun K hK=> ?_
 refine zM zO zN [] rfl ?_
 push_cast
 repeat' apply And.intro
 all_goals try exact gB
 refine hK _ ?_;clear hK K
 refine zL fun K1 hK1=> ?_
 refine zL fun K hK=> ?_
 refine zM zO zN [] rfl ?_
 push_cast
 repeat' apply And.intro
 all_goals try exact gB
 refine hK _ ?_;clear hK K
 refine zV ?_
 refine zh [4,5,6,7,8,9,10,11,12,13,14,15,16,17,18] [] (fun(k:Nat)=> [(5, .int .i64 k)]) (fun k=> []) (fun k=> []) (fun k=>k≤s.length∧∀j,j<k→yD names (gi s j)=true) (fun k=>s.length - k) 0 ?_ ⟨by omega,fun j hj=>by omega⟩ ?_
 ·
  refine zX rfl ?_ ?_ ?_<;>push_cast [zg,zf]
 ·rintro k ⟨hk,hall⟩ KL0 hL0
  push_cast
  refine zL fun K2 hK2=> ?_
  refine zL fun K hK=> ?_
  refine zM zO zN [] rfl ?_
  push_cast
  repeat' apply And.intro
  all_goals try exact gB
  refine hK _ ?_;clear hK K
  refine zT rfl (fun hc=> ?_) (fun hc=> ?_)<;>(try simp only [push_cast]at hc)
  ·
   refine zU ?_
   refine hK2 _ ?_
   refine zL fun K3 hK3=> ?_
   refine zV ?_
   refine zL fun K hK=> ?_
   refine zM zO zN [] rfl ?_
   all_goals refine zl 6 fun K9 hK9=> ?_
   all_goals push_cast
   all_goals repeat'(first|(apply zP<;>(intro hg;push_cast at hg))|(refine⟨_,YS names _ h2,?_⟩;push_cast)|apply And.intro|(intro hg;push_cast at hg))
   all_goals try exact gA
   refine hK9 _ ?_;clear hK9 K9
   all_goals push_cast
   all_goals repeat'(first|(apply zP<;>(intro hg;push_cast at hg))|(refine⟨_,YS names _ h2,?_⟩;push_cast)|apply And.intro|(intro hg;push_cast at hg))
   all_goals try exact gA
   refine hK _ ?_;clear hK K
   refine zT rfl (fun hc=> ?_) (fun hc=> ?_)<;>(try simp only [push_cast]at hc)
   ·
    refine zL fun K hK=> ?_
    refine zM zO zN [] rfl ?_
    push_cast
    repeat' apply And.intro
    all_goals try exact gB
    refine hK _ ?_;clear hK K
    refine zW ?_
    refine⟨Or.inl rfl,?_⟩
    push_cast [za]
    exact(decide_eq_false (zGD (k:=k) (by omega) (by with_reducible assumption))).symm
   ·
    refine zU ?_
    refine hK3 _ ?_
    refine zM zO zN [] rfl ?_
    push_cast
    repeat' apply And.intro
    all_goals try exact gB
    refine hL0 _ ⟨k+1,⟨by omega,fun j hj=>(by
      by_cases hjk:j=k
      ·subst hjk;with_reducible assumption
      ·exact hall j (by omega))⟩,by omega,?_⟩
    refine zX rfl ?_ ?_ ?_<;>push_cast [zg,zf]
  ·
   refine zi ?_
   refine hK1 _ ?_
   refine zL fun K hK=> ?_
   refine zM zO zN [] rfl ?_
   push_cast
   repeat' apply And.intro
   all_goals try exact gB
   refine hK _ ?_;clear hK K
   refine zW ?_
   refine⟨Or.inl rfl,?_⟩
   push_cast [za]
   exact(decide_eq_true (zEl fun j hj=>hall j (by omega))).symm
set_option maxRecDepth 20000 in
set_option maxHeartbeats 4000000 in
theorem Ui (f:Fm)(hf:f.Ln 1048576)(n:Int):Fn Tryz.prog tyT 20 [.agg (dFm f), .c (.int .i64 n)] [.c (.bool (WW f n))]:=by
 have h1:=hf.names
 have h2:=hf.sets.1
 unfold LnI at h1
 have hr: ∀v,(gl f.sets v).length≤1048576:=fun v=>Yl hf.sets v
 unfold dFm
 refine zr (fn:=Tryz.f20) (ts:= [4]) Tryz.func20 (by kernel_rfl) rfl rfl (by rw [Tryz.ntmps20];exact Nat.le_of_ble_eq_true rfl) rfl (by simp only [szA,List.mem_cons,List.not_mem_nil,or_false,forall_eq_or_imp,forall_eq,VT.cells,szL];try decide) ?_
 rw [Tryz.ntmps20]
 push_cast [↓zK,↓zJ]
 refine zL fun K hK=> ?_
 refine zM zO zN [] rfl ?_
 all_goals push_cast [↓zK,↓zJ]
 all_goals repeat'(first|(apply zP<;>(intro hg;(try simp only [push_cast]at hg)))|apply And.intro|(intro hg;(try simp only [push_cast]at hg)))
 all_goals first|exact gA|(exact zS (by omega))|skip
 all_goals(refine hK _ ?_;clear hK K)
 refine zL fun K1 hK1=> ?_
 refine zL fun K hK=> ?_
 refine zj false zO zN ?_ rfl ?_
 ·kernel_rfl
 all_goals refine yF 2 fun K9 hK9=> ?_
 all_goals push_cast [↓zK,↓zJ]
 all_goals repeat'(first|(apply zP<;>(intro hg;(try simp only [push_cast]at hg)))|(refine⟨_,xB _ _ _,?_⟩;push_cast [↓zK,↓zJ])|(refine⟨_,ZJ f.names h1 n (by omega),?_⟩;push_cast [↓zK,↓zJ])|apply And.intro|(intro hg;(try simp only [push_cast]at hg)))
 all_goals first|exact gA|(exact zS (by omega))|skip
 all_goals(refine hK9 _ ?_;clear hK9 K9)
 all_goals refine yF 6 fun K9 hK9=> ?_
 all_goals push_cast [↓zK,↓zJ]
 all_goals repeat'(first|(apply zP<;>(intro hg;(try simp only [push_cast]at hg)))|(refine⟨_,xB _ _ _,?_⟩;push_cast [↓zK,↓zJ])|(refine⟨_,ZJ f.names h1 n (by omega),?_⟩;push_cast [↓zK,↓zJ])|apply And.intro|(intro hg;(try simp only [push_cast]at hg)))
 all_goals first|exact gA|(exact zS (by omega))|skip
 all_goals(refine hK9 _ ?_;clear hK9 K9)
 all_goals push_cast [↓zK,↓zJ]
 all_goals repeat'(first|(apply zP<;>(intro hg;(try simp only [push_cast]at hg)))|(refine⟨_,xB _ _ _,?_⟩;push_cast [↓zK,↓zJ])|(refine⟨_,ZJ f.names h1 n (by omega),?_⟩;push_cast [↓zK,↓zJ])|apply And.intro|(intro hg;(try simp only [push_cast]at hg)))
 all_goals first|exact gA|(exact zS (by omega))|skip
 all_goals(refine hK _ ?_;clear hK K)
 all_goals refine zT rfl (fun hc=> ?_) (fun hc=> ?_)
 all_goals(first|(cases hc;done)|skip)
 all_goals(try simp only [push_cast]at hc)
 all_goals try(
   refine zL fun K hK=> ?_
   refine zM zO zN [] rfl ?_
   all_goals push_cast [↓zK,↓zJ]
   all_goals repeat'(first|(apply zP<;>(intro hg;(try simp only [push_cast]at hg)))|apply And.intro|(intro hg;(try simp only [push_cast]at hg)))
   all_goals first|exact gA|(exact zS (by omega))|skip
   all_goals(refine hK _ ?_;clear hK K)
   refine zW ?_
   refine⟨Or.inl rfl,?_⟩
   push_cast [za,↓zK,↓zJ]
   symm
   first|exact zFw (by omega)|(rw [Zw (by omega)];first|exact zAd (by with_reducible assumption)|exact zAe (by omega))
   done)
 refine zU ?_
 refine hK1 _ ?_
 refine zL fun K2 hK2=> ?_
 refine zL fun K hK=> ?_
 refine zM zO zN [] rfl ?_
 all_goals push_cast [↓zK,↓zJ]
 all_goals repeat'(first|(apply zP<;>(intro hg;(try simp only [push_cast]at hg)))|apply And.intro|(intro hg;(try simp only [push_cast]at hg)))
 all_goals first|exact gA|(exact zS (by omega))|skip
 all_goals(refine hK _ ?_;clear hK K)
 refine zV ?_
 have hok:yf f.names n=true:=by with_reducible assumption
 refine zh [4,5,6,10,17,23,29,30,31,32,33,34,35,36,37,38,39,40,41,42,43,44,45,46,47,48,49,50,51,52,53,54,55,56,57,58,59,60,61,62,63,64,65,66,67,68,69,70] [] (fun(k:Nat)=> [(5, .int .i64 k)]) (fun k=> []) (fun k=> []) (fun k=>k≤f.sets.length∧∀j,j<k→vt f n j=true) (fun k=>f.sets.length - k) 0 ?_ ⟨by omega,fun j hj=>by omega⟩ ?_
 ·
  refine zX rfl ?_ ?_ ?_<;>push_cast [zg,zf,↓zK,↓zJ]
 ·rintro k ⟨hk,hall⟩ KL0 hL0
  have hrk:=hr k
  have hlk:=zAx (gl f.sets k) f.names
  push_cast [↓zK,↓zJ]
  refine zL fun K3 hK3=> ?_
  refine zL fun K hK=> ?_
  refine zM zO zN [] rfl ?_
  all_goals push_cast [↓zK,↓zJ]
  all_goals repeat'(first|(apply zP<;>(intro hg;(try simp only [push_cast]at hg)))|apply And.intro|(intro hg;(try simp only [push_cast]at hg)))
  all_goals first|exact gA|(exact zS (by omega))|skip
  all_goals(refine hK _ ?_;clear hK K)
  refine zT rfl (fun hc=> ?_) (fun hc=> ?_)<;>(try simp only [push_cast]at hc)
  ·
   refine zU ?_
   refine hK3 _ ?_
   refine zL fun K4 hK4=> ?_
   refine zV ?_
   refine zL fun K5 hK5=> ?_
   refine zL fun K hK=> ?_
   refine yo false zO zN xj ?_ rfl ?_
   ·kernel_rfl
   intro E hE
   all_goals refine xR 7 (by decide) fun K9 hK9=> ?_
   all_goals push_cast [↓zK,↓zJ]
   all_goals repeat'(first|(apply zP<;>(intro hg;(try simp only [push_cast]at hg)))|(refine⟨_,ZJ (gl f.sets k) (hr k) n (by omega),?_⟩;push_cast [↓zK,↓zJ])|(refine⟨_,VY (gl f.sets k) f.names (hr k) h1,?_⟩;push_cast [↓zK,↓zJ])|apply And.intro|(intro hg;(try simp only [push_cast]at hg)))
   all_goals first|exact gA|(exact zS (by omega))|skip
   all_goals(refine hK9 _ _ ?_;clear hK9 K9)
   all_goals refine xR 10 (by decide) fun K9 hK9=> ?_
   all_goals push_cast [↓zK,↓zJ]
   all_goals repeat'(first|(apply zP<;>(intro hg;(try simp only [push_cast]at hg)))|(refine⟨_,ZJ (gl f.sets k) (hr k) n (by omega),?_⟩;push_cast [↓zK,↓zJ])|(refine⟨_,VY (gl f.sets k) f.names (hr k) h1,?_⟩;push_cast [↓zK,↓zJ])|apply And.intro|(intro hg;(try simp only [push_cast]at hg)))
   all_goals first|exact gA|(exact zS (by omega))|skip
   all_goals(refine hK9 _ _ ?_;clear hK9 K9)
   all_goals push_cast [↓zK,↓zJ]
   all_goals repeat'(first|(apply zP<;>(intro hg;(try simp only [push_cast]at hg)))|(refine⟨_,ZJ (gl f.sets k) (hr k) n (by omega),?_⟩;push_cast [↓zK,↓zJ])|(refine⟨_,VY (gl f.sets k) f.names (hr k) h1,?_⟩;push_cast [↓zK,↓zJ])|apply And.intro|(intro hg;(try simp only [push_cast]at hg)))
   all_goals first|exact gA|(refine hE _ _ ?_ ?_;kernel_rfl)|(exact zS (by omega))|skip
   all_goals clear hE E
   all_goals(refine hK _ ?_;clear hK K)
   all_goals refine zT rfl (fun hc=> ?_) (fun hc=> ?_)
   all_goals(first|(cases hc;done)|skip)
   all_goals(try simp only [push_cast]at hc)
   all_goals try(
     refine zL fun K hK=> ?_
     refine zM zO zN [] rfl ?_
     all_goals push_cast [↓zK,↓zJ]
     all_goals repeat'(first|(apply zP<;>(intro hg;(try simp only [push_cast]at hg)))|apply And.intro|(intro hg;(try simp only [push_cast]at hg)))
     all_goals first|exact gA|(exact zS (by omega))|skip
     all_goals(refine hK _ ?_;clear hK K)
     refine zW ?_
     refine⟨Or.inl rfl,?_⟩
     push_cast [za,↓zK,↓zJ]
     rw [Zw (by omega)];symm
     refine KX (i:=k) (by omega) ?_
     first|exact uT (by with_reducible assumption)|exact uU (by omega)
     done)
   refine zU ?_
   refine hK5 _ ?_
   refine zL fun K hK=> ?_
   refine zM zO zN [] rfl ?_
   all_goals push_cast [↓zK,↓zJ]
   all_goals repeat'(first|(apply zP<;>(intro hg;(try simp only [push_cast]at hg)))|apply And.intro|(intro hg;(try simp only [push_cast]at hg)))
   all_goals first|exact gA|(exact zS (by omega))|skip
   all_goals(refine hK _ ?_;clear hK K)
   refine zV ?_
   have hok1:yf (gl f.sets k) n=true:=by with_reducible assumption
   have hok2:(ZA (gl f.sets k) f.names).length=0:=by omega
   refine zh [4,6,10,17,23,44,55,56,57,58,59,60,61,62,63,64,65,66,67,68,69,70] [] (fun(i:Nat)=> [(6, .int .i64 i)]) (fun i=> []) (fun i=> []) (fun i=>i≤k∧∀j,j<i→¬gl f.sets j=gl f.sets k) (fun i=>k - i) 0 ?_ ⟨by omega,fun j hj=>by omega⟩ ?_
   ·
    refine zX rfl ?_ ?_ ?_<;>push_cast [zg,zf,↓zK,↓zJ]
   ·rintro i ⟨hi,hall2⟩ KL1 hL1
    have hri:=hr i
    push_cast [↓zK,↓zJ]
    refine zL fun K6 hK6=> ?_
    refine zL fun K hK=> ?_
    refine zM zO zN [] rfl ?_
    all_goals push_cast [↓zK,↓zJ]
    all_goals repeat'(first|(apply zP<;>(intro hg;(try simp only [push_cast]at hg)))|apply And.intro|(intro hg;(try simp only [push_cast]at hg)))
    all_goals first|exact gA|(exact zS (by omega))|skip
    all_goals(refine hK _ ?_;clear hK K)
    refine zT rfl (fun hc=> ?_) (fun hc=> ?_)<;>(try simp only [push_cast]at hc)
    ·
     refine zU ?_
     refine hK6 _ ?_
     refine zL fun K7 hK7=> ?_
     refine zV ?_
     refine zL fun K hK=> ?_
     refine yo false zO zN xj ?_ rfl ?_
     ·kernel_rfl
     intro E hE
     all_goals refine xR 11 (by decide) fun K9 hK9=> ?_
     all_goals push_cast [↓zK,↓zJ]
     all_goals repeat'(first|(apply zP<;>(intro hg;(try simp only [push_cast]at hg)))|(refine⟨_,yg (gl f.sets i) (gl f.sets k) (hr i) (hr k),?_⟩;push_cast [↓zK,↓zJ])|apply And.intro|(intro hg;(try simp only [push_cast]at hg)))
     all_goals first|exact gA|(exact zS (by omega))|skip
     all_goals(refine hK9 _ _ ?_;clear hK9 K9)
     all_goals push_cast [↓zK,↓zJ]
     all_goals repeat'(first|(apply zP<;>(intro hg;(try simp only [push_cast]at hg)))|(refine⟨_,yg (gl f.sets i) (gl f.sets k) (hr i) (hr k),?_⟩;push_cast [↓zK,↓zJ])|apply And.intro|(intro hg;(try simp only [push_cast]at hg)))
     all_goals first|exact gA|(refine hE _ _ ?_ ?_;kernel_rfl)|(exact zS (by omega))|skip
     all_goals clear hE E
     all_goals(refine hK _ ?_;clear hK K)
     refine zT rfl (fun hc=> ?_) (fun hc=> ?_)<;>(try simp only [push_cast]at hc)
     ·
      refine zL fun K hK=> ?_
      refine zM zO zN [] rfl ?_
      all_goals push_cast [↓zK,↓zJ]
      all_goals repeat'(first|(apply zP<;>(intro hg;(try simp only [push_cast]at hg)))|apply And.intro|(intro hg;(try simp only [push_cast]at hg)))
      all_goals first|exact gA|(exact zS (by omega))|skip
      all_goals(refine hK _ ?_;clear hK K)
      refine zW ?_
      refine⟨Or.inl rfl,?_⟩
      push_cast [za,↓zK,↓zJ]
      rw [Zw (by omega)];symm
      exact KX (i:=k) (by omega) (uV (Wq (j:=i) (by omega) (by omega) (by with_reducible assumption)))
     ·
      refine zU ?_
      refine hK7 _ ?_
      refine zM zO zN [] rfl ?_
      all_goals push_cast [↓zK,↓zJ]
      all_goals repeat'(first|(apply zP<;>(intro hg;(try simp only [push_cast]at hg)))|apply And.intro|(intro hg;(try simp only [push_cast]at hg)))
      all_goals first|exact gA|(exact zS (by omega))|skip
      refine hL1 _ ⟨i+1,⟨by omega,fun j hj=>(by
        by_cases hji:j=i
        ·subst hji;with_reducible assumption
        ·exact hall2 j (by omega))⟩,by omega,?_⟩
      refine zX rfl ?_ ?_ ?_<;>push_cast [zg,zf,↓zK,↓zJ]
    ·
     refine zi ?_
     refine hK4 _ ?_
     refine zM zO zN [] rfl ?_
     all_goals push_cast [↓zK,↓zJ]
     all_goals repeat'(first|(apply zP<;>(intro hg;(try simp only [push_cast]at hg)))|apply And.intro|(intro hg;(try simp only [push_cast]at hg)))
     all_goals first|exact gA|(exact zS (by omega))|skip
     refine hL0 _ ⟨k+1,⟨by omega,fun j hj=>(by
       by_cases hjk:j=k
       ·subst hjk;exact uW hok1 (by omega) (Jw (by omega) fun i hi=>hall2 i (by omega))
       ·exact hall j (by omega))⟩,by omega,?_⟩
     refine zX rfl ?_ ?_ ?_<;>push_cast [zg,zf,↓zK,↓zJ]
  ·
   refine zi ?_
   refine hK2 _ ?_
   refine zL fun K hK=> ?_
   refine zM zO zN [] rfl ?_
   all_goals push_cast [↓zK,↓zJ]
   all_goals repeat'(first|(apply zP<;>(intro hg;(try simp only [push_cast]at hg)))|apply And.intro|(intro hg;(try simp only [push_cast]at hg)))
   all_goals first|exact gA|(exact zS (by omega))|skip
   all_goals(refine hK _ ?_;clear hK K)
   refine zW ?_
   refine⟨Or.inl rfl,?_⟩
   push_cast [za,↓zK,↓zJ]
   rw [Zw (by omega)];symm
   exact zAf hok (by omega) fun i hi=>hall i (by omega)
theorem jq {b:List Int}{n:Int}(hs:yf b n=true):b.Pairwise (· < ·):=by
 rw [List.pairwise_iff_getElem]
 intro i j hi hj hij
 have :=zBO hs i j hij hj
 have e: ∀k (hk:k<b.length),b[k]=gi b k:=fun k hk=>by have :=vC hk;rw [List.getElem?_eq_getElem hk]at this;exact Option.some.inj this
 rw [e i hi,e j hj]
 exact this
theorem jr : ∀{xs ys:List Int},xs.Pairwise (· < ·)→ys.Pairwise (· < ·)→(∀x,x∈xs↔x∈ys)→xs=ys
 | [],[],_,_,_=>rfl
 | [],y::ys,_,_,h=>by have :=(h y).2 (by simp);simp at this
 |x::xs,[],_,_,h=>by have :=(h x).1 (by simp);simp at this
 |x::xs,y::ys,h1,h2,h=>by
  rw [List.pairwise_cons]at h1 h2
  have e:x=y:=by
   have hx:=(h x).1 (by simp)
   have hy:=(h y).2 (by simp)
   rw [List.mem_cons]at hx hy
   rcases hx with hx|hx
   ·exact hx
   ·rcases hy with hy|hy
    ·exact hy.symm
    ·have :=h1.1 y hy;have :=h2.1 x hx;omega
  subst e
  rw [jr h1.2 h2.2 fun z=> ?_]
  have hz:=h z
  rw [List.mem_cons,List.mem_cons]at hz
  constructor
  ·intro hm
   rcases hz.1 (.inr hm)with rfl|h3
   ·have :=h1.1 z hm;omega
   ·exact h3
  ·intro hm
   rcases hz.2 (.inr hm)with rfl|h3
   ·have :=h2.1 z hm;omega
   ·exact h3
def xi (a b:List Int):List Int:=a.filter fun x=>yD b x
theorem zA5 (a b:List Int):(xi a b).length≤a.length:=kR _ _
theorem VQ {f:Fm}{n:Int}(h:qr f n=true):yf f.names n=true∧f.names.length≤4∧f.sets.length≤16:=by
 unfold qr at h
 rw [Bool.and_eq_true,Bool.and_eq_true,decide_eq_true_eq]at h
 exact⟨h.1,h.2.1⟩
set_option maxRecDepth 20000 in
set_option maxHeartbeats 4000000 in
theorem zF4 (a b:List Int)(ha:a.length≤1048576)(hb:b.length≤1048576):Fn Tryz.prog tyT 152 [.c (DI a), .c (DI b)] [.c (DI (xi a b))]:=by
 refine zr (fn:=Tryz.f152) (ts:= [4]) Tryz.func152 (by kernel_rfl) rfl rfl (by rw [Tryz.ntmps152];exact Nat.le_of_ble_eq_true rfl) rfl (by simp only [szA,List.mem_cons,List.not_mem_nil,or_false,forall_eq_or_imp,forall_eq,VT.cells,szL];try decide) ?_
 rw [Tryz.ntmps152]
 push_cast
 refine zL fun K hK=> ?_
 refine zM zO zN [] rfl ?_
 push_cast
 repeat' apply And.intro
 all_goals try exact gB
 refine hK _ ?_;clear hK K
 refine zL fun K hK=> ?_
 refine zM zO zN [] rfl ?_
 push_cast
 repeat' apply And.intro
 all_goals try exact gB
 refine hK _ ?_;clear hK K
 refine zL fun K1 hK1=> ?_
 refine zL fun K hK=> ?_
 refine zM zO zN [] rfl ?_
 push_cast
 repeat' apply And.intro
 all_goals try exact gB
 refine hK _ ?_;clear hK K
 refine zV ?_
 refine zh [5,6,8,9,10,11,12,13,14,15,16,17,18,19,20,21,22,23,24,25,26] [80] (fun(q:Nat×List Int)=> [(6, .int .i64 q.1),(5, .sl 80 [] 0 q.2.length 2)]) (fun q=> []) (fun q=> [(80,⟨.ex,2,dI q.2,none⟩)]) (fun q=>q.1≤a.length∧q.2=(a.take q.1).filter (fun x=>yD b x)) (fun q=>a.length - q.1) (0,[]) ?_ ⟨by omega,rfl⟩ ?_
 ·
  simp only [show dI ([]:List Int)= []from rfl]
  refine zX rfl ?_ ?_ ?_<;>push_cast [zg,zf]
 ·rintro⟨k,o⟩ ⟨hk,ho⟩ KL0 hL0
  simp only at hk ho
  have hol:o.length≤a.length:=by rw [ho];exact Vv _ _ _
  push_cast
  refine zL fun K2 hK2=> ?_
  refine zL fun K hK=> ?_
  refine zM zO zN [] rfl ?_
  push_cast
  repeat' apply And.intro
  all_goals try exact gB
  refine hK _ ?_;clear hK K
  refine zT rfl (fun hc=> ?_) (fun hc=> ?_)<;>(try simp only [push_cast]at hc)
  ·
   refine zU ?_
   refine hK2 _ ?_
   refine zL fun K3 hK3=> ?_
   refine zV ?_
   refine zL fun K hK=> ?_
   refine zM zO zN [] rfl ?_
   all_goals refine zl 6 fun K9 hK9=> ?_
   all_goals push_cast
   all_goals repeat'(first|(apply zP<;>(intro hg;push_cast at hg))|(refine⟨_,YS b _ hb,?_⟩;push_cast)|apply And.intro|(intro hg;push_cast at hg))
   all_goals try exact gA
   refine hK9 _ ?_;clear hK9 K9
   all_goals push_cast
   all_goals repeat'(first|(apply zP<;>(intro hg;push_cast at hg))|(refine⟨_,YS b _ hb,?_⟩;push_cast)|apply And.intro|(intro hg;push_cast at hg))
   all_goals try exact gA
   refine hK _ ?_;clear hK K
   refine zT rfl (fun hc=> ?_) (fun hc=> ?_)<;>(try simp only [push_cast]at hc)
   ·
    refine zM zO zN [] rfl ?_
    push_cast
    repeat' apply And.intro
    all_goals try exact gB
    refine hK3 _ ?_
    refine zM zO zN [] rfl ?_
    push_cast
    repeat' apply And.intro
    all_goals try exact gB
    refine hL0 _ ⟨(k+1,o++ [gi a k]),⟨by simp only;omega,by simp only;rw [VR (by omega) (by rw [hc]),←ho]⟩,by simp only;omega,?_⟩
    refine zX rfl ?_ ?_ ?_<;>push_cast [zg,zf]
    all_goals(try(rw [List.length_append];rfl))
   ·
    refine zU ?_
    refine hK3 _ ?_
    refine zM zO zN [] rfl ?_
    push_cast
    repeat' apply And.intro
    all_goals try exact gB
    refine hL0 _ ⟨(k+1,o),⟨by simp only;omega,by simp only;rw [JP (by omega) (by rw [hc]),←ho]⟩,by simp only;omega,?_⟩
    refine zX rfl ?_ ?_ ?_<;>push_cast [zg,zf]
    all_goals(try(rw [List.length_append];rfl))
  ·
   refine zi ?_
   have hkk:k=a.length:=by omega
   subst hkk
   rw [List.take_length]at ho
   refine hK1 _ ?_
   refine zL fun K hK=> ?_
   refine zM zO zN [] rfl ?_
   push_cast
   repeat' apply And.intro
   all_goals try exact gB
   refine hK _ ?_;clear hK K
   refine zW ?_
   refine⟨Or.inl rfl,?_⟩
   push_cast [za]
   subst ho
   first|rfl|(simp [xi];done)
set_option maxRecDepth 20000 in
set_option maxHeartbeats 4000000 in
theorem zEi (f:Fm)(h1:f.sets.length≤1048576)(hr: ∀v,(gl f.sets v).length≤1048576)(t:List Int)(h2:t.length≤1048576):Fn Tryz.prog tyT 151 [.agg (dFm f), .c (DI t)] [.c (.bool (qD f.sets t))]:=by
 unfold dFm
 refine zr (fn:=Tryz.f151) (ts:= [4]) Tryz.func151 (by kernel_rfl) rfl rfl (by rw [Tryz.ntmps151];exact Nat.le_of_ble_eq_true rfl) rfl (by simp only [szA,List.mem_cons,List.not_mem_nil,or_false,forall_eq_or_imp,forall_eq,VT.cells,szL];try decide) ?_
 rw [Tryz.ntmps151]
 push_cast
 refine zL fun K hK=> ?_
 refine zM zO zN [] rfl ?_
 all_goals push_cast
 all_goals repeat'(first|(apply zP<;>(intro hg;push_cast at hg))|(refine⟨_,yg (gl f.sets k) t (hr k) h2,?_⟩;push_cast)|apply And.intro|(intro hg;push_cast at hg))
 all_goals first|exact gA|(exact zS (by omega))|skip
 refine hK _ ?_;clear hK K
 refine zL fun K1 hK1=> ?_
 refine zL fun K hK=> ?_
 refine zM zO zN [] rfl ?_
 all_goals push_cast
 all_goals repeat'(first|(apply zP<;>(intro hg;push_cast at hg))|(refine⟨_,yg (gl f.sets k) t (hr k) h2,?_⟩;push_cast)|apply And.intro|(intro hg;push_cast at hg))
 all_goals first|exact gA|(exact zS (by omega))|skip
 refine hK _ ?_;clear hK K
 refine zV ?_
 refine zh [4,5,6,7,8,9,10,11,12,13,14,15,16,17,18,19] [] (fun(k:Nat)=> [(5, .int .i64 k)]) (fun k=> []) (fun k=> []) (fun k=>k≤f.sets.length∧∀j,j<k→¬gl f.sets j=t) (fun k=>f.sets.length - k) 0 ?_ ⟨by omega,fun j hj=>by omega⟩ ?_
 ·
  refine zX rfl ?_ ?_ ?_<;>push_cast [zg,zf]
 ·rintro k ⟨hk,hall⟩ KL0 hL0
  have hrk:=hr k
  push_cast
  refine zL fun K2 hK2=> ?_
  refine zL fun K hK=> ?_
  refine zM zO zN [] rfl ?_
  all_goals push_cast
  all_goals repeat'(first|(apply zP<;>(intro hg;push_cast at hg))|(refine⟨_,yg (gl f.sets k) t (hr k) h2,?_⟩;push_cast)|apply And.intro|(intro hg;push_cast at hg))
  all_goals first|exact gA|(exact zS (by omega))|skip
  refine hK _ ?_;clear hK K
  refine zT rfl (fun hc=> ?_) (fun hc=> ?_)<;>(try simp only [push_cast]at hc)
  ·
   refine zU ?_
   refine hK2 _ ?_
   refine zL fun K3 hK3=> ?_
   refine zV ?_
   refine zL fun K hK=> ?_
   refine zM zO zN [] rfl ?_
   all_goals refine zl 7 fun K9 hK9=> ?_
   all_goals push_cast
   all_goals repeat'(first|(apply zP<;>(intro hg;push_cast at hg))|(refine⟨_,yg (gl f.sets k) t (hr k) h2,?_⟩;push_cast)|apply And.intro|(intro hg;push_cast at hg))
   all_goals first|exact gA|(exact zS (by omega))|skip
   refine hK9 _ ?_;clear hK9 K9
   all_goals push_cast
   all_goals repeat'(first|(apply zP<;>(intro hg;push_cast at hg))|(refine⟨_,yg (gl f.sets k) t (hr k) h2,?_⟩;push_cast)|apply And.intro|(intro hg;push_cast at hg))
   all_goals first|exact gA|(exact zS (by omega))|skip
   refine hK _ ?_;clear hK K
   refine zT rfl (fun hc=> ?_) (fun hc=> ?_)<;>(try simp only [push_cast]at hc)
   ·
    refine zL fun K hK=> ?_
    refine zM zO zN [] rfl ?_
    all_goals push_cast
    all_goals repeat'(first|(apply zP<;>(intro hg;push_cast at hg))|(refine⟨_,yg (gl f.sets k) t (hr k) h2,?_⟩;push_cast)|apply And.intro|(intro hg;push_cast at hg))
    all_goals first|exact gA|(exact zS (by omega))|skip
    refine hK _ ?_;clear hK K
    refine zW ?_
    refine⟨Or.inl rfl,?_⟩
    push_cast [za]
    have h9:=Wq (xs:=f.sets) (k:=f.sets.length) (j:=k) (by omega) (by omega) hc
    rw [List.take_length]at h9
    exact h9.symm
   ·
    refine zU ?_
    refine hK3 _ ?_
    refine zM zO zN [] rfl ?_
    all_goals push_cast
    all_goals repeat'(first|(apply zP<;>(intro hg;push_cast at hg))|(refine⟨_,yg (gl f.sets k) t (hr k) h2,?_⟩;push_cast)|apply And.intro|(intro hg;push_cast at hg))
    all_goals first|exact gA|(exact zS (by omega))|skip
    refine hL0 _ ⟨k+1,⟨by omega,fun j hj=>(by
      by_cases hjk:j=k
      ·subst hjk;with_reducible assumption
      ·exact hall j (by omega))⟩,by omega,?_⟩
    refine zX rfl ?_ ?_ ?_<;>push_cast [zg,zf]
  ·
   refine zi ?_
   refine hK1 _ ?_
   refine zL fun K hK=> ?_
   refine zM zO zN [] rfl ?_
   all_goals push_cast
   all_goals repeat'(first|(apply zP<;>(intro hg;push_cast at hg))|(refine⟨_,yg (gl f.sets k) t (hr k) h2,?_⟩;push_cast)|apply And.intro|(intro hg;push_cast at hg))
   all_goals first|exact gA|(exact zS (by omega))|skip
   refine hK _ ?_;clear hK K
   refine zW ?_
   refine⟨Or.inl rfl,?_⟩
   push_cast [za]
   have h9:=Jw (xs:=f.sets) (s:=t) (Nat.le_refl _) fun j hj=>hall j (by omega)
   rw [List.take_length]at h9
   exact h9.symm
open Go.Shelf
def Uv :Go.Shelf.Ren:=⟨fun|53=>118|64=>167|63=>166|78=>194|79=>195|70=>186|71=>187|72=>188|73=>189|74=>190|75=>191|59=>184|76=>192|77=>193|88=>210|89=>211|90=>212|91=>213|92=>214|68=>208|96=>220|n=>n,fun|22=>22|23=>2|3=>3|51=>100|0=>0|67=>203|69=>42|4=>4|61=>197|60=>196|44=>175|5=>5|9=>9|75=>216|79=>220|83=>224|84=>225|n=>n,fun|n=>n⟩
theorem Uu :Go.Proofs.SlLaysN.n53 Tryz.prog Uv:={
 mixed:=by kernel_rfl
 f53:=⟨Tryz.f118.name,by decide,Tryz.func118.trans (congrArg some (by kernel_rfl))⟩
 f59:=⟨Tryz.f184.name,by decide,Tryz.func184.trans (congrArg some (by kernel_rfl))⟩
 f63:=⟨Tryz.f166.name,by decide,Tryz.func166.trans (congrArg some (by kernel_rfl))⟩
 f64:=Tryz.func167.trans (congrArg some (by kernel_rfl))
 f68:=⟨Tryz.f208.name,by decide,Tryz.func208.trans (congrArg some (by kernel_rfl))⟩
 f70:=⟨Tryz.f186.name,by decide,Tryz.func186.trans (congrArg some (by kernel_rfl))⟩
 f71:=⟨Tryz.f187.name,by decide,Tryz.func187.trans (congrArg some (by kernel_rfl))⟩
 f72:=⟨Tryz.f188.name,by decide,Tryz.func188.trans (congrArg some (by kernel_rfl))⟩
 f73:=⟨Tryz.f189.name,by decide,Tryz.func189.trans (congrArg some (by kernel_rfl))⟩
 f74:=⟨Tryz.f190.name,by decide,Tryz.func190.trans (congrArg some (by kernel_rfl))⟩
 f75:=⟨Tryz.f191.name,by decide,Tryz.func191.trans (congrArg some (by kernel_rfl))⟩
 f76:=⟨Tryz.f192.name,by decide,Tryz.func192.trans (congrArg some (by kernel_rfl))⟩
 f77:=⟨Tryz.f193.name,by decide,Tryz.func193.trans (congrArg some (by kernel_rfl))⟩
 f78:=Tryz.func194.trans (congrArg some (by kernel_rfl))
 f79:=Tryz.func195.trans (congrArg some (by kernel_rfl))
 f88:=⟨Tryz.f210.name,by decide,Tryz.func210.trans (congrArg some (by kernel_rfl))⟩
 f89:=Tryz.func211.trans (congrArg some (by kernel_rfl))
 f90:=Tryz.func212.trans (congrArg some (by kernel_rfl))
 f91:=⟨Tryz.f213.name,by decide,Tryz.func213.trans (congrArg some (by kernel_rfl))⟩
 f92:=⟨Tryz.f214.name,by decide,Tryz.func214.trans (congrArg some (by kernel_rfl))⟩
 f96:=⟨Tryz.f220.name,by decide,Tryz.func220.trans (congrArg some (by kernel_rfl))⟩
 t0:=Tryz.underlying0
 a0:=Tryz.isAgg0
 z0:=Tryz.sizeOf0
 v0:=Tryz.zeroValue0
 t3:=Tryz.underlying3
 a3:=Tryz.isAgg3
 z3:=Tryz.sizeOf3
 v3:=Tryz.zeroValue3
 t4:=Tryz.underlying4
 a4:=Tryz.isAgg4
 z4:=Tryz.sizeOf4
 v4:=Tryz.zeroValue4
 t5:=Tryz.underlying5
 a5:=Tryz.isAgg5
 z5:=Tryz.sizeOf5
 v5:=Tryz.zeroValue5
 t9:=Tryz.underlying9
 a9:=Tryz.isAgg9
 z9:=Tryz.sizeOf9
 v9:=Tryz.zeroValue9
 t22:=Tryz.underlying22
 a22:=Tryz.isAgg22
 z22:=Tryz.sizeOf22
 v22:=Tryz.zeroValue22
 t23:=Tryz.underlying2
 a23:=Tryz.isAgg2
 z23:=Tryz.sizeOf2
 v23:=Tryz.zeroValue2
 t44:=Tryz.underlying175
 a44:=Tryz.isAgg175
 z44:=Tryz.sizeOf175
 v44:=Tryz.zeroValue175
 t51:=Tryz.underlying100
 a51:=Tryz.isAgg100
 z51:=Tryz.sizeOf100
 v51:=Tryz.zeroValue100
 t60:=Tryz.underlying196
 a60:=Tryz.isAgg196
 z60:=Tryz.sizeOf196
 v60:=Tryz.zeroValue196
 t61:=Tryz.underlying197
 a61:=Tryz.isAgg197
 z61:=Tryz.sizeOf197
 v61:=Tryz.zeroValue197
 t67:=Tryz.underlying203
 a67:=Tryz.isAgg203
 z67:=Tryz.sizeOf203
 v67:=Tryz.zeroValue203
 t69:=Tryz.underlying42
 a69:=Tryz.isAgg42
 z69:=Tryz.sizeOf42
 v69:=Tryz.zeroValue42
 t75:=Tryz.underlying216
 a75:=Tryz.isAgg216
 z75:=Tryz.sizeOf216
 v75:=Tryz.zeroValue216
 t79:=Tryz.underlying220
 a79:=Tryz.isAgg220
 z79:=Tryz.sizeOf220
 v79:=Tryz.zeroValue220
 t83:=Tryz.underlying224
 a83:=Tryz.isAgg224
 z83:=Tryz.sizeOf224
 v83:=Tryz.zeroValue224
 t84:=Tryz.underlying225
 a84:=Tryz.isAgg225
 z84:=Tryz.sizeOf225
 v84:=Tryz.zeroValue225}
open Go Go.RowKit Go.Sort
def zy (xs:List Int):List Int:=xs.mergeSort fun x y=>decide (x≤y)
theorem xT (xs:List Int):(zy xs).length=xs.length:=List.length_mergeSort ..
theorem xp (xs:List Int):(zy xs).Perm xs:=List.mergeSort_perm ..
theorem qn (xs:List Int):(zy xs).Pairwise (· ≤ ·):=by
 have :=List.pairwise_mergeSort (le:=fun x y:Int=>decide (x≤y)) (fun a b c h1 h2=>by simp at h1 h2⊢;omega) (fun a b=>by simp;omega) xs
 refine this.imp fun h=>by simpa using h
theorem Xw :zy []= []:=by simp [zy]
theorem UK :vJ Tryz.prog 118:=⟨_,Tryz.func118,by decide+kernel,rfl⟩
theorem zCT {S:TypeId→Nat}{lo:Nat}{w:World}{ow:Nat→Option Pl}: ∀{xs:List Int} {m:Md} {k:Nat} {vs:List Value},RpL S lo w ow m k (dI xs) vs→vs=xs.map (Value.int .i64)
 | [],m,k,vs,h=>by simpa only [dI,List.map_nil,RpL]using h
 |x::xs,m,k,vs,h=>by
  simp only [dI,List.map_cons,RpL,Rp]at h
  obtain⟨v,vs',rfl,rfl,h2⟩:=h
  rw [zCT (xs:=xs) h2]
  rfl
set_option maxHeartbeats 1000000 in
theorem zCJ (xs:List Int)(hl:xs.length≤1048576):FnG Tryz.prog tyT 118 [.c (DI xs)] [0] [(0,2,dI (zy xs))] []:=by
 refine⟨UK,fun lo w ow cargs hlo how hargs=> ?_⟩
 obtain⟨h1,h2⟩:=hargs
 obtain⟨v,rfl⟩: ∃v,cargs= [v]:=by
  cases cargs with
  |nil=>simp at h1
  |cons v vs=>cases vs with
   |nil=>exact⟨v,rfl⟩
   |cons _ _=>simp at h1
 obtain⟨cs,k1,k2,k3⟩:=h2 0 _ v rfl rfl
 have hv:Rp (sz tyT) lo w ow (.ex 0 []) (DI xs) v:=by
  rcases k3 with⟨d,c,e1,rfl,rfl⟩|⟨ds,e1,-⟩|⟨f,ds,e1,-⟩
  ·exact k2 0 _ _ rfl rfl
  ·cases e1
  ·cases e1
 simp only [DI,Rp]at hv
 obtain⟨vs,⟨q1,n,q2,q3,q4⟩,q5⟩:=hv
 have hs1:sz tyT 2=1:=rfl
 have hvs:=zCT q5
 rw [Qj,hs1,Nat.mul_one]at q2
 subst q2
 rw [hs1]at q3
 have hh:yE [v] 0=v∨True:= .inr trivial
 rcases q3.2 with⟨rfl,h0⟩|⟨g,cap,cur,rfl,hg,hb,hc1,hc2,hc3,htake⟩
 ·have hx:xs= []:=List.eq_nil_of_length_eq_zero h0
  subst hx
  refine(AnyG.slices_Sort_int_none Uu none 0 w).mono fun e w' ⟨he,hw⟩=> ?_
  subst hw;subst he
  refine⟨[],fun b=>none,rfl,xC.start _,fun b _ _=>rfl,fun b p h=>(by cases h),by simp [vy],fun x hx=> ?_⟩
  simp only [List.mem_singleton]at hx
  subst hx
  simp only [Xw,show dI ([]:List Int)= []from rfl]
  exact vz _ _ _
 ·rw [hvs]at htake q3
  have hlt:g<w.heap.size:=(Array.getElem?_eq_some_iff.1 hb).1
  rw [Nat.mul_one]at htake
  have hH:=holds_of_blockI hb htake
  have hsl:=xT xs
  refine(AnyG.slices_Sort_int Uu g 0 cap xs w hH hlt (by omega)).mono fun e w' ⟨he,n,os,hw⟩=> ?_
  subst he
  have hgr:w.grownBy w' (some g):=by rw [hw];exact grownBy_sortedI _
  have hown:=ownsRow_sortedI (base:=lo) (n:=n) (os:=os) (ts:=zy xs) hsl hg hb hc1 hc2 hc3
  rw [show(grow (putRow (Value.int .i64) (Sort.ahead w n) g 0 (zy xs).toArray) os)=w' from hw.symm]at hown
  have hog:=q4 g rfl
  refine⟨[],fun b=>match ow b with|some (.root d q)=>if d=0 then some (.root (wb 0) q)else none|_=>none,rfl,⟨hgr.os,hgr.tape,hgr.output,hgr.size,fun b hb' hk=>hgr.block b hb' (fun e=> ?_)⟩,fun b _ h=>by simp only [h],fun b p h=> ?_,by simp [vy],fun x hx=> ?_⟩
  ·simp only [Option.some.injEq]at e
   subst e
   simp only at hk
   rw [hog]at hk;cases hk
  ·simp only at h
   split at h
   ·rename_i d q ho
    split at h
    ·cases h
     have :=how b _ ho
     exact⟨Nat.lt_of_lt_of_le this.1 hgr.size,this.2.1,_,_,rfl⟩
    ·cases h
   ·cases h
  ·simp only [List.mem_singleton]at hx
   subst hx
   simp only
   refine(zu _ _).2 ⟨(zy xs).map (Value.int .i64),⟨by simp [Qj],xs.length,by rw [Qj,hs1,hsl,Nat.mul_one],?_⟩,fun i x u hx hu=> ?_⟩
   ·simp only
    rw [hs1]
    exact⟨hown,fun b hb'=>by
     have :b=g:=by simp [yE,Value.ownBlock]at hb';exact hb'.symm
     subst this
     simp only [hog,if_true]⟩
   ·simp only [dI,List.getElem?_map]at hx hu
    cases hk:(zy xs)[i]? with
    |none=>rw [hk]at hx;cases hx
    |some y=>rw [hk]at hx hu;cases hx;cases hu;simp only [Rp]
end Go.Proofs.YthepmdkpbjfdcaaGreat
