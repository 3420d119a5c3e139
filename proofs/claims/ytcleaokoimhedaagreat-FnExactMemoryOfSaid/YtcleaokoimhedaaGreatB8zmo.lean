/- lists, sets, and function values: the library's searches, both sides' helpers -/
import Derived.Test.YtcleaokoimhedaaGreatB6zmo
import Derived.Test.YtcleaokoimhedaaGreatGDzmo
import Derived.Shelf.SortG.Plain
import Derived.Shelf.SortG.SortNone
import Derived.Test.YtcleaokoimhedaaGreatProg
import Derived.Sort.OwnSortedInts
import Derived.Test.YtcleaokoimhedaaGreatB7zmo
namespace Go.Proofs.YtcleaokoimhedaaGreat
open Nat renaming reduceMod → zA, reduceMul → zB, reduceDiv → zC, reduceAdd → zD, reduceSub → zE, reduceEqDiff → zF, reduceBEq → zG, reduceLT → zH, reduceLeDiff → zI
open Go.RowKit
set_option linter.unusedVariables false
set_option linter.unusedSimpArgs false
theorem zJX :min 1 64=1:=rfl
theorem pow_1 :(2:Int)^1=2:=rfl
attribute [push_cast] zJX pow_1
theorem zDz {xs:List Int}{k:Nat}(h:k<xs.length):xs.take (k+1)=xs.take k++ [gi xs k]:=by rw [List.take_add_one,qk h];rfl
theorem UA {xs:List Int}{k:Nat}(h:k<xs.length):gi xs k∈xs:=List.mem_of_getElem? (qk h)
theorem zNc {xs:List (List Int)}{x:List Int}(h:x∈xs): ∃k,k<xs.length∧gl xs k=x:=by
 obtain⟨k,hk,rfl⟩:=List.mem_iff_getElem.1 h
 exact⟨k,hk,by have :=Zs hk;rw [List.getElem?_eq_getElem hk]at this;exact(Option.some.inj this).symm⟩
theorem zHU {xs ys:List Int}(hl:xs.length=ys.length)(h: ∀k,k<xs.length→gi xs k=gi ys k):xs=ys:=by
 refine List.ext_getElem? fun k=> ?_
 rcases Nat.lt_or_ge k xs.length with hk|hk
 ·rw [qk hk,qk (xs:=ys) (by omega),h k hk]
 ·rw [List.getElem?_eq_none hk,List.getElem?_eq_none (by omega)]
theorem zJ7 {b:List Int}{n:Int}(hs:xN b n=true): ∀i j,i<j→j<b.length→gi b i<gi b j:=by
 intro i j hij
 induction j with
 |zero=>omega
 |succ j ih=>
  intro hj
  have h1:=va hs hj
  unfold qr at h1
  have h1:=of_decide_eq_true h1
  simp at h1
  rcases Nat.lt_or_ge i j with h2|h2
  ·have :=ih h2 (by omega);omega
  ·have :i=j:=by omega
   subst this;omega
def ixF (p:List Int→Bool)(xs:List (List Int)):Int:=if xs.findIdx p<xs.length then(xs.findIdx p:Int)else -1
theorem zHf {p:List Int→Bool}{xs:List (List Int)}{k:Nat}(hk:k<xs.length)(h: ∀j,j<k→p (gl xs j)=false)(he:p (gl xs k)=true):ixF p xs=k:=by
 have hg: ∀j (hj:j<xs.length),xs[j]=gl xs j:=fun j hj=>by unfold gl;rw [List.getD_eq_getElem?_getD,List.getElem?_eq_getElem hj];rfl
 have :xs.findIdx p=k:=by
  rw [List.findIdx_eq hk]
  exact⟨by rw [hg];exact he,fun j hj=>by rw [hg];exact h j hj⟩
 unfold ixF
 rw [this,if_pos hk]
theorem zJJ {p:List Int→Bool}{xs:List (List Int)}(h: ∀j,j<xs.length→p (gl xs j)=false):ixF p xs= -1:=by
 have :xs.findIdx p=xs.length:=by
  rw [List.findIdx_eq_length]
  intro y hy
  obtain⟨j,hj,rfl⟩:=zNc hy
  exact h j hj
 unfold ixF
 rw [this,if_neg (by omega)]
def Vs (ss:List (List Int))(s:List Int):Bool:=ss.any fun x=>decide (x=s)
set_option maxRecDepth 20000 in
set_option maxHeartbeats 4000000 in
theorem ka (s t:List Int)(h1:s.length≤1048576)(h2:t.length≤1048576):Fn Tryz.prog tyT 64 [.c (DI s), .c (DI t)] [.c (.bool (decide (s=t)))]:=by
 refine θH (ts:= [4]) Tryz.func64 Tryz.ntmps64 ?_
 push_cast
 refine θA ?_
 refine zL fun K1 hK1=> ?_
 refine θA ?_
 refine θU (fun hc=> ?_) fun hc=> ?_
 ·
  refine θA ?_
  refine zZ ⟨Or.inl rfl,?_⟩
  push_cast [zd]
  exact(decide_eq_false (fun e=>by subst e;omega)).symm
 ·
  refine zU (hK1 _ ?_)
  refine zL fun K2 hK2=> ?_
  refine θA ?_
  refine zV ?_
  refine zg [4,5,13,14,15,16,17,18,19,20,21,22,23,24,25] [] (fun(k:Nat)=> [(13, .int .i64 k)]) (fun k=> []) (fun k=> []) (fun k=>k≤s.length∧∀j,j<k→gi s j=gi t j) (fun k=>s.length - k) 0 ?_ ⟨by omega,fun j hj=>by omega⟩ ?_
  ·
   exact θX
  ·rintro k ⟨hk,hall⟩ KL0 hL0
   push_cast
   refine θA ?_
   refine zL fun K3 hK3=> ?_
   refine θU (fun hc=> ?_) fun hc=> ?_
   ·
    refine zU (hK3 _ ?_)
    refine zL fun K4 hK4=> ?_
    refine zV ?_
    refine θA ?_
    refine zL fun K hK=> ?_
    refine xY false zO zN ya ?_ rfl ?_
    ·kernel_rfl
    intro C hC
    push_cast
    repeat' apply And.intro
    all_goals first|omega|with_reducible assumption|(refine hC _ ?_;kernel_rfl)|(simp only [List.length_set,List.length_append,List.length_replicate,List.length_cons,List.length_nil];omega)|skip
    all_goals first|(refine hK _ ?_;clear hC C hK K)|(simp only [push_cast];done)
    refine θU (fun hc=> ?_) fun hc=> ?_
    ·
     refine θA ?_
     refine zZ ⟨Or.inl rfl,?_⟩
     push_cast [zd]
     exact(decide_eq_false (fun e=>by subst e;omega)).symm
    ·
     refine zU (hK4 _ ?_)
     refine θB ?_
     refine hL0 _ ⟨k+1,⟨by omega,fun j hj=>(by
       by_cases hjk:j=k
       ·subst hjk;omega
       ·exact hall j (by omega))⟩,by omega,?_⟩
     exact θX
   ·
    refine zh (hK2 _ ?_)
    refine θA ?_
    refine zZ ⟨Or.inl rfl,?_⟩
    push_cast [zd]
    exact(decide_eq_true (zHU (by omega) fun j hj=>hall j (by omega))).symm
set_option maxRecDepth 20000 in
set_option maxHeartbeats 4000000 in
theorem ZV (s t:List Int)(h1:s.length≤1048576)(h2:t.length≤1048576):Fn Tryz.prog tyT 51 [.c (DI s), .c (DI t)] [.c (.bool (decide (s=t)))]:=by
 refine θH (ts:= [4]) Tryz.func51 Tryz.ntmps51 ?_
 push_cast
 refine θA ?_
 refine zL fun K1 hK1=> ?_
 refine θA ?_
 refine θU (fun hc=> ?_) fun hc=> ?_
 ·
  refine θA ?_
  refine zZ ⟨Or.inl rfl,?_⟩
  push_cast [zd]
  exact(decide_eq_false (fun e=>by subst e;omega)).symm
 ·
  refine zU (hK1 _ ?_)
  refine zL fun K2 hK2=> ?_
  refine θA ?_
  refine zV ?_
  refine zg [4,5,11,12,13,14,15,16,17,18,19,20,21,22,23,24,25] [] (fun(k:Nat)=> [(5, .int .i64 k)]) (fun k=> []) (fun k=> []) (fun k=>k≤s.length∧∀j,j<k→gi s j=gi t j) (fun k=>s.length - k) 0 ?_ ⟨by omega,fun j hj=>by omega⟩ ?_
  ·
   exact θX
  ·rintro k ⟨hk,hall⟩ KL0 hL0
   push_cast
   refine zL fun K3 hK3=> ?_
   refine θA ?_
   refine θU (fun hc=> ?_) fun hc=> ?_
   ·
    refine zU (hK3 _ ?_)
    refine zL fun K4 hK4=> ?_
    refine zV ?_
    refine zL fun K hK=> ?_
    refine xY false zO zN ya ?_ rfl ?_
    ·kernel_rfl
    intro C hC
    push_cast
    repeat' apply And.intro
    all_goals first|omega|with_reducible assumption|(refine hC _ ?_;kernel_rfl)|(simp only [List.length_set,List.length_append,List.length_replicate,List.length_cons,List.length_nil];omega)|skip
    all_goals first|(refine hK _ ?_;clear hC C hK K)|(simp only [push_cast];done)
    refine θU (fun hc=> ?_) fun hc=> ?_
    ·
     refine θA ?_
     refine zZ ⟨Or.inl rfl,?_⟩
     push_cast [zd]
     exact(decide_eq_false (fun e=>by subst e;omega)).symm
    ·
     refine zU (hK4 _ ?_)
     refine θB ?_
     refine hL0 _ ⟨k+1,⟨by omega,fun j hj=>(by
       by_cases hjk:j=k
       ·subst hjk;omega
       ·exact hall j (by omega))⟩,by omega,?_⟩
     exact θX
   ·
    refine zh (hK2 _ ?_)
    refine θA ?_
    refine zZ ⟨Or.inl rfl,?_⟩
    push_cast [zd]
    exact(decide_eq_true (zHU (by omega) fun j hj=>hall j (by omega))).symm
set_option maxRecDepth 20000 in
set_option maxHeartbeats 4000000 in
theorem Jw (xs:List (List Int))(hl:xs.length≤1048576)(hr: ∀v,(gl xs v).length≤1048576)(g:FuncId)(d:D)(ds:List D)(p:List Int→Bool)(hp: ∀k,k<xs.length→FnX Tryz.prog tyT g [.v (.c (DI (gl xs k))), .ref (.lst 2 (d::ds))] [.c (.bool (p (gl xs k)))]):FnX Tryz.prog tyT 62 [.v (.c (DII xs)), .clo g [.lst 2 (d::ds)]] [.c (.int .i64 (ixF p xs))]:=by
 refine QW (fn:=Tryz.f62) (rs:= [.tmp 4]) zO zN Tryz.func62 (by kernel_rfl) rfl rfl (by rw [Tryz.ntmps62];exact Nat.le_of_ble_eq_true rfl) rfl (by simp only [szX,List.mem_cons,List.not_mem_nil,or_false,forall_eq_or_imp,forall_eq,XT.cells,VT.cells,szL];try decide) ?_
 rw [Tryz.ntmps62]
 push_cast [↓zK,↓zJ]
 refine θA ?_
 refine zL fun K1 hK1=> ?_
 refine θA ?_
 refine zV ?_
 refine zg [4,5,8,9,10,11,12,13,14,15,16,17,18] [] (fun(k:Nat)=> [(8, .int .i64 k)]) (fun k=> []) (fun k=> []) (fun k=>k≤xs.length∧∀j,j<k→p (gl xs j)=false) (fun k=>xs.length - k) 0 ?_ ⟨by omega,fun j hj=>by omega⟩ ?_
 ·
  exact θX
 ·rintro k ⟨hk,hall⟩ KL0 hL0
  have hrk:=hr k
  push_cast [↓zK,↓zJ]
  refine θA ?_
  refine zL fun K2 hK2=> ?_
  refine θU (fun hc=> ?_) fun hc=> ?_
  ·
   refine zU (hK2 _ ?_)
   refine zL fun K3 hK3=> ?_
   refine zV ?_
   refine θA ?_
   refine zL fun K hK=> ?_
   refine qh 16 2 rfl zO zN [] rfl ?_
   push_cast [↓zK,↓zJ]
   repeat' apply And.intro
   all_goals(try push_cast [↓zK,↓zJ])
   all_goals repeat'(first|(apply zP<;>(intro hg;(try push_cast at hg)))|(refine⟨_,hp k (by omega),?_⟩;push_cast [↓zK,↓zJ])|apply And.intro|(intro hg;(try push_cast at hg)))
   all_goals first|exact gA|(exact zQ (by omega))|skip
   all_goals(refine hK _ ?_;clear hK K)
   refine θU (fun hc=> ?_) fun hc=> ?_
   ·
    refine θA ?_
    refine zZ ⟨Or.inl rfl,?_⟩
    push_cast [zd,zo,yA,↓zK,↓zJ]
    rw [zHf (k:=k) (by omega) (fun j hj=>hall j hj) hc]
   ·
    refine zU (hK3 _ ?_)
    refine θB ?_
    refine hL0 _ ⟨k+1,⟨by omega,fun j hj=>(by
      by_cases hjk:j=k
      ·subst hjk;exact hc
      ·exact hall j (by omega))⟩,by omega,?_⟩
    exact θX
  ·
   refine zh (hK1 _ ?_)
   refine θA ?_
   refine zZ ⟨Or.inl rfl,?_⟩
   push_cast [zd,zo,yA,↓zK,↓zJ]
   rw [zJJ fun j hj=>hall j (by omega)]
def lessI (a b:List Int):List Int:=a.filter fun x=> !yI b x
def famAt (f:Fm)(n:Int)(i:Nat):Bool:=xN (gl f.sets i) n&&(decide ((lessI (gl f.sets i) f.names).length=0)&& !Vs (f.sets.take i) (gl f.sets i))
def famI (f:Fm)(n:Int):Bool:=xN f.names n&&(decide (f.names.length≤4∧f.sets.length≤16)&&Za f.sets.length (famAt f n))
set_option maxRecDepth 20000 in
set_option maxHeartbeats 4000000 in
theorem YB (s:List Int)(hs:s.length≤1048576)(n:Int)(hn:0≤n∧n≤256):Fn Tryz.prog tyT 71 [.c (DI s), .c (.int .i64 n)] [.c (.bool (xN s n))]:=by
 refine θH (ts:= [4]) Tryz.func71 Tryz.ntmps71 ?_
 push_cast
 refine θA ?_
 refine zL fun K hK=> ?_
 refine zf false zO zN ?_ rfl ?_
 ·kernel_rfl
 all_goals refine yD 2 fun K9 hK9=> ?_
 all_goals push_cast
 all_goals repeat'(first|(apply zP<;>(intro hg;push_cast at hg))|(refine⟨_,xJ _ _ _,?_⟩;push_cast)|(refine⟨_,xk s n hs (by omega) (by omega),?_⟩;push_cast)|apply And.intro|(intro hg;push_cast at hg))
 all_goals try exact gA
 refine hK9 _ ?_;clear hK9 K9
 all_goals refine yD 4 fun K9 hK9=> ?_
 all_goals push_cast
 all_goals repeat'(first|(apply zP<;>(intro hg;push_cast at hg))|(refine⟨_,xJ _ _ _,?_⟩;push_cast)|(refine⟨_,xk s n hs (by omega) (by omega),?_⟩;push_cast)|apply And.intro|(intro hg;push_cast at hg))
 all_goals try exact gA
 refine hK9 _ ?_;clear hK9 K9
 all_goals push_cast
 all_goals repeat'(first|(apply zP<;>(intro hg;push_cast at hg))|(refine⟨_,xJ _ _ _,?_⟩;push_cast)|(refine⟨_,xk s n hs (by omega) (by omega),?_⟩;push_cast)|apply And.intro|(intro hg;push_cast at hg))
 all_goals try exact gA
 refine hK _ ?_;clear hK K
 all_goals(
   refine zZ ⟨Or.inl rfl,?_⟩
   push_cast [zd]
   all_goals first|rfl|omega|(symm;with_reducible assumption))
set_option maxRecDepth 20000 in
set_option maxHeartbeats 4000000 in
theorem wG (xs:List Int)(x:Int)(hl:xs.length≤1048576):Fn Tryz.prog tyT 52 [.c (DI xs), .c (.int .i64 x)] [.c (.bool (yI xs x))]:=by
 refine θH (ts:= [4]) Tryz.func52 Tryz.ntmps52 ?_
 push_cast
 refine θA ?_
 refine zL fun K1 hK1=> ?_
 refine θA ?_
 refine zV ?_
 refine zg [4,5,6,7,8,9,10,11,12,13,14,15,16,17] [] (fun(k:Nat)=> [(5, .int .i64 k)]) (fun k=> []) (fun k=> []) (fun k=>k≤xs.length∧∀j,j<k→¬gi xs j=x) (fun k=>xs.length - k) 0 ?_ ⟨by omega,fun j hj=>by omega⟩ ?_
 ·
  exact θX
 ·rintro k ⟨hk,hall⟩ KL0 hL0
  push_cast
  refine zL fun K2 hK2=> ?_
  refine θA ?_
  refine θU (fun hc=> ?_) fun hc=> ?_
  ·
   refine zU (hK2 _ ?_)
   refine zL fun K3 hK3=> ?_
   refine zV ?_
   refine θA ?_
   refine θU (fun hc=> ?_) fun hc=> ?_
   ·
    refine θA ?_
    refine zZ ⟨Or.inl rfl,?_⟩
    push_cast [zd]
    have hf:vH xs x=k:=zAE (by omega) hall (by omega)
    unfold yI
    rw [hf]
    exact(decide_eq_true (by omega)).symm
   ·
    refine zU (hK3 _ ?_)
    refine θB ?_
    refine hL0 _ ⟨k+1,⟨by omega,fun j hj=>(by
      by_cases hjk:j=k
      ·subst hjk;omega
      ·exact hall j (by omega))⟩,by omega,?_⟩
    exact θX
  ·
   refine zh (hK1 _ ?_)
   refine θA ?_
   refine zZ ⟨Or.inl rfl,?_⟩
   push_cast [zd]
   unfold yI
   rw [zA7 (fun j hj=>hall j (by omega))]
   exact(decide_eq_false (by omega)).symm
theorem zIL {b:List Int}{n:Int}(hs:xN b n=true):b.Pairwise (· < ·):=by
 rw [List.pairwise_iff_getElem]
 intro i j hi hj hij
 have :=zJ7 hs i j hij hj
 have e: ∀k (hk:k<b.length),b[k]=gi b k:=fun k hk=>by have :=qk hk;rw [List.getElem?_eq_getElem hk]at this;exact Option.some.inj this
 rw [e i hi,e j hj]
 exact this
def Yd (a b:List Int):List Int:=a.filter fun x=>yI b x
theorem zGE {f:Fm}{n:Int}(h:famI f n=true):xN f.names n=true∧f.names.length≤4∧f.sets.length≤16:=by
 unfold famI at h
 rw [Bool.and_eq_true,Bool.and_eq_true,decide_eq_true_eq]at h
 exact⟨h.1,h.2.1⟩
open Go.Shelf
def zCM :Go.Shelf.Ren:=⟨fun|53=>78|64=>99|63=>98|78=>119|79=>120|70=>110|71=>111|72=>112|73=>113|74=>114|75=>115|59=>116|76=>117|77=>118|88=>127|89=>128|90=>129|91=>130|92=>131|68=>132|96=>134|n=>n,fun|22=>22|23=>2|3=>3|51=>125|0=>0|67=>143|69=>145|4=>4|61=>135|60=>134|44=>140|5=>5|9=>9|75=>151|79=>155|83=>158|84=>159|n=>n,fun|n=>n⟩
theorem zCL :Go.Proofs.SlLaysN.n53 Tryz.prog zCM:={
 mixed:=by kernel_rfl
 f53:=⟨Tryz.f78.name,by decide,Tryz.func78.trans (congrArg some (by kernel_rfl))⟩
 f59:=⟨Tryz.f116.name,by decide,Tryz.func116.trans (congrArg some (by kernel_rfl))⟩
 f63:=⟨Tryz.f98.name,by decide,Tryz.func98.trans (congrArg some (by kernel_rfl))⟩
 f64:=Tryz.func99.trans (congrArg some (by kernel_rfl))
 f68:=⟨Tryz.f132.name,by decide,Tryz.func132.trans (congrArg some (by kernel_rfl))⟩
 f70:=⟨Tryz.f110.name,by decide,Tryz.func110.trans (congrArg some (by kernel_rfl))⟩
 f71:=⟨Tryz.f111.name,by decide,Tryz.func111.trans (congrArg some (by kernel_rfl))⟩
 f72:=⟨Tryz.f112.name,by decide,Tryz.func112.trans (congrArg some (by kernel_rfl))⟩
 f73:=⟨Tryz.f113.name,by decide,Tryz.func113.trans (congrArg some (by kernel_rfl))⟩
 f74:=⟨Tryz.f114.name,by decide,Tryz.func114.trans (congrArg some (by kernel_rfl))⟩
 f75:=⟨Tryz.f115.name,by decide,Tryz.func115.trans (congrArg some (by kernel_rfl))⟩
 f76:=⟨Tryz.f117.name,by decide,Tryz.func117.trans (congrArg some (by kernel_rfl))⟩
 f77:=⟨Tryz.f118.name,by decide,Tryz.func118.trans (congrArg some (by kernel_rfl))⟩
 f78:=Tryz.func119.trans (congrArg some (by kernel_rfl))
 f79:=Tryz.func120.trans (congrArg some (by kernel_rfl))
 f88:=⟨Tryz.f127.name,by decide,Tryz.func127.trans (congrArg some (by kernel_rfl))⟩
 f89:=Tryz.func128.trans (congrArg some (by kernel_rfl))
 f90:=Tryz.func129.trans (congrArg some (by kernel_rfl))
 f91:=⟨Tryz.f130.name,by decide,Tryz.func130.trans (congrArg some (by kernel_rfl))⟩
 f92:=⟨Tryz.f131.name,by decide,Tryz.func131.trans (congrArg some (by kernel_rfl))⟩
 f96:=⟨Tryz.f134.name,by decide,Tryz.func134.trans (congrArg some (by kernel_rfl))⟩
 t0:=Tryz.underlying0
 a0:=Tryz.isAgg0
 z0:=Tryz.sizeOf0
 v0:=Tryz.zeroValue0
 t3:=Tryz.underlying3
 a3:=Tryz.isAgg3
 z3:=Tryz.sizeOf3
 v3:=Tryz.zeroValue3
 t4:=Tryz.underlying4
 a4:=Tryz.isAgg4
 z4:=Tryz.sizeOf4
 v4:=Tryz.zeroValue4
 t5:=Tryz.underlying5
 a5:=Tryz.isAgg5
 z5:=Tryz.sizeOf5
 v5:=Tryz.zeroValue5
 t9:=Tryz.underlying9
 a9:=Tryz.isAgg9
 z9:=Tryz.sizeOf9
 v9:=Tryz.zeroValue9
 t22:=Tryz.underlying22
 a22:=Tryz.isAgg22
 z22:=Tryz.sizeOf22
 v22:=Tryz.zeroValue22
 t23:=Tryz.underlying2
 a23:=Tryz.isAgg2
 z23:=Tryz.sizeOf2
 v23:=Tryz.zeroValue2
 t44:=Tryz.underlying140
 a44:=Tryz.isAgg140
 z44:=Tryz.sizeOf140
 v44:=Tryz.zeroValue140
 t51:=Tryz.underlying125
 a51:=Tryz.isAgg125
 z51:=Tryz.sizeOf125
 v51:=Tryz.zeroValue125
 t60:=Tryz.underlying134
 a60:=Tryz.isAgg134
 z60:=Tryz.sizeOf134
 v60:=Tryz.zeroValue134
 t61:=Tryz.underlying135
 a61:=Tryz.isAgg135
 z61:=Tryz.sizeOf135
 v61:=Tryz.zeroValue135
 t67:=Tryz.underlying143
 a67:=Tryz.isAgg143
 z67:=Tryz.sizeOf143
 v67:=Tryz.zeroValue143
 t69:=Tryz.underlying145
 a69:=Tryz.isAgg145
 z69:=Tryz.sizeOf145
 v69:=Tryz.zeroValue145
 t75:=Tryz.underlying151
 a75:=Tryz.isAgg151
 z75:=Tryz.sizeOf151
 v75:=Tryz.zeroValue151
 t79:=Tryz.underlying155
 a79:=Tryz.isAgg155
 z79:=Tryz.sizeOf155
 v79:=Tryz.zeroValue155
 t83:=Tryz.underlying158
 a83:=Tryz.isAgg158
 z83:=Tryz.sizeOf158
 v83:=Tryz.zeroValue158
 t84:=Tryz.underlying159
 a84:=Tryz.isAgg159
 z84:=Tryz.sizeOf159
 v84:=Tryz.zeroValue159}
open Go Go.RowKit Go.Sort
def yZ (xs:List Int):List Int:=xs.mergeSort fun x y=>decide (x≤y)
theorem qS (xs:List Int):(yZ xs).length=xs.length:=List.length_mergeSort ..
theorem vm (xs:List Int):(yZ xs).Perm xs:=List.mergeSort_perm ..
theorem Qz (xs:List Int):(yZ xs).Pairwise (· ≤ ·):=by
 have :=List.pairwise_mergeSort (le:=fun x y:Int=>decide (x≤y)) (fun a b c h1 h2=>by simp at h1 h2⊢;omega) (fun a b=>by simp;omega) xs
 refine this.imp fun h=>by simpa using h
theorem zBb :yZ []= []:=by simp [yZ]
theorem zBk :vp Tryz.prog 78:=⟨_,Tryz.func78,by decide+kernel,rfl⟩
theorem zE8 {S:TypeId→Nat}{lo:Nat}{w:World}{ow:Nat→Option Pl}: ∀{xs:List Int} {m:Md} {k:Nat} {vs:List Value},RpL S lo w ow m k (dI xs) vs→vs=xs.map (Value.int .i64)
 | [],m,k,vs,h=>by simpa only [dI,List.map_nil,RpL]using h
 |x::xs,m,k,vs,h=>by
  simp only [dI,List.map_cons,RpL,Rp]at h
  obtain⟨v,vs',rfl,rfl,h2⟩:=h
  rw [zE8 (xs:=xs) h2]
  rfl
set_option maxHeartbeats 1000000 in
theorem zKv (xs:List Int)(hl:xs.length≤1048576):FnG Tryz.prog tyT 78 [.c (DI xs)] [0] [(0,2,dI (yZ xs))] []:=by
 refine⟨zBk,fun lo w ow cargs hlo how hargs=> ?_⟩
 obtain⟨h1,h2⟩:=hargs
 obtain⟨v,rfl⟩: ∃v,cargs= [v]:=by
  cases cargs with
  |nil=>simp at h1
  |cons v vs=>cases vs with
   |nil=>exact⟨v,rfl⟩
   |cons _ _=>simp at h1
 obtain⟨cs,k1,k2,k3⟩:=h2 0 _ v rfl rfl
 have hv:Rp (sz tyT) lo w ow (.ex 0 []) (DI xs) v:=by
  rcases k3 with⟨d,c,e1,rfl,rfl⟩|⟨ds,e1,-⟩|⟨f,ds,e1,-⟩
  ·exact k2 0 _ _ rfl rfl
  ·cases e1
  ·cases e1
 simp only [DI,Rp]at hv
 obtain⟨vs,⟨q1,n,q2,q3,q4⟩,q5⟩:=hv
 have hs1:sz tyT 2=1:=rfl
 have hvs:=zE8 q5
 rw [WT,hs1,Nat.mul_one]at q2
 subst q2
 rw [hs1]at q3
 have hh:yO [v] 0=v∨True:= .inr trivial
 rcases q3.2 with⟨rfl,h0⟩|⟨g,cap,cur,rfl,hg,hb,hc1,hc2,hc3,htake⟩
 ·have hx:xs= []:=List.eq_nil_of_length_eq_zero h0
  subst hx
  refine(AnyG.slices_Sort_int_none zCL none 0 w).mono fun e w' ⟨he,hw⟩=> ?_
  subst hw;subst he
  refine⟨[],fun b=>none,rfl,xR.start _,fun b _ _=>rfl,fun b p h=>(by cases h),by simp [wj],fun x hx=> ?_⟩
  simp only [List.mem_singleton]at hx
  subst hx
  simp only [zBb,show dI ([]:List Int)= []from rfl]
  exact wk _ _ _
 ·rw [hvs]at htake q3
  have hlt:g<w.heap.size:=(Array.getElem?_eq_some_iff.1 hb).1
  rw [Nat.mul_one]at htake
  have hH:=holds_of_blockI hb htake
  have hsl:=qS xs
  refine(AnyG.slices_Sort_int zCL g 0 cap xs w hH hlt (by omega)).mono fun e w' ⟨he,n,os,hw⟩=> ?_
  subst he
  have hgr:w.grownBy w' (some g):=by rw [hw];exact grownBy_sortedI _
  have hown:=ownsRow_sortedI (base:=lo) (n:=n) (os:=os) (ts:=yZ xs) hsl hg hb hc1 hc2 hc3
  rw [show(grow (putRow (Value.int .i64) (Sort.ahead w n) g 0 (yZ xs).toArray) os)=w' from hw.symm]at hown
  have hog:=q4 g rfl
  refine⟨[],fun b=>match ow b with|some (.root d q)=>if d=0 then some (.root (ZW 0) q)else none|_=>none,rfl,⟨hgr.os,hgr.tape,hgr.output,hgr.size,fun b hb' hk=>hgr.block b hb' (fun e=> ?_)⟩,fun b _ h=>by simp only [h],fun b p h=> ?_,by simp [wj],fun x hx=> ?_⟩
  ·simp only [Option.some.injEq]at e
   subst e
   simp only at hk
   rw [hog]at hk;cases hk
  ·simp only at h
   split at h
   ·rename_i d q ho
    split at h
    ·cases h
     have :=how b _ ho
     exact⟨Nat.lt_of_lt_of_le this.1 hgr.size,this.2.1,_,_,rfl⟩
    ·cases h
   ·cases h
  ·simp only [List.mem_singleton]at hx
   subst hx
   simp only
   refine(zy _ _).2 ⟨(yZ xs).map (Value.int .i64),⟨by simp [WT],xs.length,by rw [WT,hs1,hsl,Nat.mul_one],?_⟩,fun i x u hx hu=> ?_⟩
   ·simp only
    rw [hs1]
    exact⟨hown,fun b hb'=>by
     have :b=g:=by simp [yO,Value.ownBlock]at hb';exact hb'.symm
     subst this
     simp only [hog,if_true]⟩
   ·simp only [dI,List.getElem?_map]at hx hu
    cases hk:(yZ xs)[i]? with
    |none=>rw [hk]at hx;cases hx
    |some y=>rw [hk]at hx hu;cases hx;cases hu;simp only [Rp]
theorem WZ : ∀{xs ys:List Int},xs.Perm ys→xs.Pairwise (· ≤ ·)→ys.Pairwise (· ≤ ·)→xs=ys
 | [],ys,h,_,_=>(List.Perm.nil_eq h)
 |x::xs,[],h,_,_=>by have :=h.length_eq;simp at this
 |x::xs,y::ys,h,h1,h2=>by
  rw [List.pairwise_cons]at h1 h2
  have hx:x∈y::ys:=h.subset (by simp)
  have hy:y∈x::xs:=h.symm.subset (by simp)
  have e:x=y:=by
   rw [List.mem_cons]at hx hy
   rcases hx with hx|hx
   ·exact hx
   ·rcases hy with hy|hy
    ·exact hy.symm
    ·have :=h1.1 y hy;have :=h2.1 x hx;omega
  subst e
  rw [WZ ((List.perm_cons x).1 h) h1.2 h2.2]
theorem zJz {xs:List Int}(h:xs.Pairwise (· < ·)):xs.Nodup:=h.imp fun h=>by omega
def visB (f:Fm)(r:List Int):Bool:=famI f 256&&decide (yZ r=f.names)
theorem Kx {f:Fm}{r:List Int}(h:visB f r=true):famI f 256=true∧yZ r=f.names∧r.length≤4∧r.Nodup∧∀x,x∈r↔x∈f.names:=by
 unfold visB at h
 rw [Bool.and_eq_true,decide_eq_true_eq]at h
 obtain⟨h1,h2⟩:=h
 have hn:=zGE h1
 refine⟨h1,h2,by have :=qS r;rw [h2]at this;omega,?_,fun x=> ?_⟩
 ·rw [←(vm r).nodup_iff,h2];exact zJz (zIL hn.1)
 ·rw [←(vm r).mem_iff,h2]
def jY (r:List Int)(v:Int):List Int:=if yI r v then v::r.filter (fun x=> !decide (x=v))else r
theorem zJc {r:List Int}{v:Int}(h:yI r v=false):jY r v=r:=by unfold jY;rw [h];rfl
theorem zHv {r:List Int}{v:Int}(h:yI r v=true):jY r v=v::r.filter (fun x=> !decide (x=v)):=by unfold jY;rw [h];rfl
def QC (f:Fm)(r:List Int)(v:Int):Int:=if yI r v then 2*vH r v+(if Vs f.sets (Yd f.names (r.take (vH r v+1)))then 2 else 1)else(if Vs f.sets []then 0 else 1)
theorem zHa {r:List Int}{v:Int}:yI r v=decide (vH r v<r.length):=rfl
theorem zJu {f:Fm}{r:List Int}{v:Int}{k:Nat}(hk:k<r.length)(h: ∀j,j<k→¬gi r j=v)(he:gi r k=v):QC f r v=2*k+(if Vs f.sets (Yd f.names (r.take (k+1)))then 2 else 1):=by
 have hf:vH r v=k:=zAE hk h he
 unfold QC
 rw [zHa,hf,decide_eq_true hk]
 rfl
def xD (u:Int)(r:List Int)(p:Plc):Bool:=decide (p.at_=u)&&decide (p.record=r)
theorem zBX {u:Int}{r:List Int}{p:Plc}(h: ¬p.at_=u):xD u r p=false:=by unfold xD;rw [decide_eq_false h];rfl
theorem zBY {u:Int}{r:List Int}{p:Plc}(h: ¬p.record=r):xD u r p=false:=by unfold xD;rw [decide_eq_false h,Bool.and_false]
theorem zIG {u:Int}{r:List Int}{p:Plc}(h:p.at_=u)(h2:p.record=r):xD u r p=true:=by unfold xD;rw [decide_eq_true h,decide_eq_true h2];rfl
def ixQ (p:Plc→Bool)(ps:List Plc):Int:=if ps.findIdx p<ps.length then ps.findIdx p else -1
theorem UC {ps:List Plc}{k:Nat}(h:k<ps.length):ps[k]=gq ps k:=by
 have :=zGI h
 rw [List.getElem?_eq_getElem h]at this
 exact Option.some.inj this
theorem zBF {p:Plc→Bool}{ps:List Plc}{k:Nat}(hk:k<ps.length)(h: ∀j,j<k→p (gq ps j)=false)(hp:p (gq ps k)=true):ixQ p ps=k:=by
 have e:ps.findIdx p=k:=by
  rw [List.findIdx_eq hk]
  refine⟨by rw [UC hk];exact hp,fun j hj=> ?_⟩
  rw [UC (by omega)]
  exact h j hj
 unfold ixQ
 rw [e,if_pos hk]
theorem kv {p:Plc→Bool}{ps:List Plc}(h: ∀j,j<ps.length→p (gq ps j)=false):ixQ p ps= -1:=by
 have e: ¬ps.findIdx p<ps.length:=fun h9=>by
  have h1:=List.findIdx_getElem (w:=h9)
  rw [UC h9,h _ h9]at h1
  cases h1
 unfold ixQ
 rw [if_neg e]
theorem zJG {ys:List Int}{x:Int}{k:Nat}(hk:k≤ys.length)(hs:ys.Pairwise (· ≤ ·))(h1: ∀j,k≤j→j<ys.length→gi ys j>x)(h2:k=0∨gi ys (k - 1)≤x):(ys.take k++ [x]++ys.drop k).Pairwise (· ≤ ·):=by
 have hg: ∀{j} (hj:j<ys.length),ys[j]=gi ys j:=fun{j} hj=>by
  have h3:=qk (xs:=ys) (k:=j) hj
  rw [List.getElem?_eq_getElem hj]at h3
  exact Option.some.inj h3
 have hle: ∀y∈ys.take k,y≤x:=fun y hy=>by
  obtain⟨j,hj,rfl⟩:=List.mem_iff_getElem.1 hy
  rw [List.length_take]at hj
  rw [List.getElem_take]
  rcases h2 with h2|h2
  ·omega
  ·rw [←hg (j:=k - 1) (by omega)]at h2
   rcases Nat.lt_or_ge j (k - 1)with h|h
   ·have :=List.pairwise_iff_getElem.1 hs j (k - 1) (by omega) (by omega) h
    omega
   ·have :j=k - 1:=by omega
    subst this;exact h2
 have hgt: ∀y∈ys.drop k,x≤y:=fun y hy=>by
  obtain⟨j,hj,rfl⟩:=List.mem_iff_getElem.1 hy
  rw [List.length_drop]at hj
  rw [List.getElem_drop,hg (by omega)]
  have :=h1 (k+j) (by omega) (by omega)
  omega
 rw [List.append_assoc,List.pairwise_append]
 refine⟨hs.sublist (List.take_sublist _ _),?_,fun y hy z hz=> ?_⟩
 ·rw [List.singleton_append,List.pairwise_cons]
  exact⟨hgt,hs.sublist (List.drop_sublist _ _)⟩
 ·rw [List.singleton_append,List.mem_cons]at hz
  rcases hz with rfl|hz
  ·exact hle y hy
  ·have :=hle y hy;have :=hgt z hz;omega
theorem zNO {xs:List Int}{i k:Nat}(hi:i<xs.length)(hk:k≤i)(h1: ∀j,k≤j→j<i→gi (yZ (xs.take i)) j>gi xs i)(h2:k=0∨gi (yZ (xs.take i)) (k - 1)≤gi xs i):(yZ (xs.take i)).take k++ [gi xs i]++(yZ (xs.take i)).drop k=yZ (xs.take (i+1)):=by
 have hl:(yZ (xs.take i)).length=i:=by rw [qS,List.length_take];omega
 refine WZ ?_ (zJG (by omega) (Qz _) (fun j h3 h4=>h1 j h3 (by omega)) h2) (Qz _)
 refine List.Perm.trans ?_ (vm _).symm
 rw [zDz hi]
 refine List.Perm.trans (l₂:= [gi xs i]++((yZ (xs.take i)).take k++(yZ (xs.take i)).drop k)) ?_ ?_
 ·rw [←List.append_assoc]
  exact List.Perm.append_right _ List.perm_append_comm
 ·rw [List.take_append_drop]
  exact List.perm_append_comm.trans (List.Perm.append_right _ (vm _))
theorem zLY {xs:List Int}{i k:Nat}(hi:i<xs.length)(hk:k≤i)(h1: ∀j,k≤j→j<i→gi (yZ (xs.take i)) j>gi xs i)(h2:k=0∨gi (yZ (xs.take i)) (k - 1)≤gi xs i):List.take (k+1) (List.take k (List.take k (yZ (xs.take i)))++ [gi xs i])++List.take (i - k) (List.drop k (yZ (xs.take i)))=yZ (xs.take (i+1)):=by
 have hl:(yZ (xs.take i)).length=i:=by rw [qS,List.length_take];omega
 rw [List.take_take,Nat.min_self,List.take_of_length_le (l:=(yZ (xs.take i)).take k++ [gi xs i]) (by rw [List.length_append,List.length_take,List.length_singleton];omega),List.take_of_length_le (l:=(yZ (xs.take i)).drop k) (by rw [List.length_drop];omega)]
 exact zNO hi hk h1 h2
set_option maxRecDepth 20000 in
set_option maxHeartbeats 4000000 in
theorem UH (ps:List Plc)(ha:QLn 1048576 ps)(u:Int)(r:List Int)(hr:r.length≤1048576):Fn Tryz.prog tyT 45 [.c (.lst 59 (xF ps)), .c (.int .i64 u), .c (DI r)] [.c (.int .i64 (ixQ (xD u r) ps))]:=by
 have hl:=ha.1
 have hgl:=fun k=>jR ha k
 refine θH (ts:= [6]) Tryz.func45 Tryz.ntmps45 ?_
 push_cast [↓zK,↓zJ]
 refine θA ?_
 refine zL fun K1 hK1=> ?_
 refine θA ?_
 refine zV ?_
 refine zg [6,7,8,9,10,11,12,13,14,15,16,17,18,19,20,21,22,23,24,25,26,27,28,29,30] [] (fun(k:Nat)=> [(7, .int .i64 k)]) (fun k=> []) (fun k=> []) (fun k=>k≤ps.length∧∀j,j<k→xD u r (gq ps j)=false) (fun k=>ps.length - k) 0 ?_ ⟨by omega,fun j hj=>by omega⟩ ?_
 ·
  exact θX
 ·rintro k ⟨hk,hall⟩ KL0 hL0
  push_cast [↓zK,↓zJ]
  refine zL fun K2 hK2=> ?_
  refine θA ?_
  refine θU (fun hc=> ?_) fun hc=> ?_
  ·
   refine zU (hK2 _ ?_)
   refine zL fun K3 hK3=> ?_
   refine zV ?_
   refine zL fun K hK=> ?_
   refine zf false zO zN ?_ rfl ?_
   ·kernel_rfl
   all_goals refine yD 15 fun K9 hK9=> ?_
   all_goals push_cast [↓zK,↓zJ]
   all_goals repeat'(first|(apply zP<;>(intro hg;(try push_cast at hg)))|(refine⟨_,ZV (gq ps k).record r (hgl k) hr,?_⟩;push_cast [↓zK,↓zJ])|apply And.intro|(intro hg;(try push_cast at hg)))
   all_goals first|exact gA|(exact zX (by omega))|skip
   all_goals(refine hK9 _ ?_;clear hK9 K9)
   all_goals push_cast [↓zK,↓zJ]
   all_goals repeat'(first|(apply zP<;>(intro hg;(try push_cast at hg)))|(refine⟨_,ZV (gq ps k).record r (hgl k) hr,?_⟩;push_cast [↓zK,↓zJ])|apply And.intro|(intro hg;(try push_cast at hg)))
   all_goals first|exact gA|(exact zX (by omega))|skip
   all_goals(refine hK _ ?_;clear hK K)
   all_goals refine zT rfl (fun hc=> ?_) (fun hc=> ?_)
   all_goals(first|(cases hc;done)|skip)
   all_goals(try simp only [push_cast]at hc)
   all_goals first
    |(
      refine zU (hK3 _ ?_)
      refine θB ?_
      refine hL0 _ ⟨k+1,⟨by omega,fun j hj=>(by
        by_cases hjk:j=k
        ·subst hjk;first|exact zBX (by omega)|exact zBY (by simpa using hc)|exact zBY (by with_reducible assumption)
        ·exact hall j (by omega))⟩,by omega,?_⟩
      exact θX
      done)
    |(
      refine θA ?_
      refine zZ ⟨Or.inl rfl,?_⟩
      push_cast [zd,↓zK,↓zJ]
      exact(zBF (k:=k) (by omega) hall (zIG (by omega) (by with_reducible assumption))).symm
      done)
  ·
   refine zh (hK1 _ ?_)
   refine θA ?_
   refine zZ ⟨Or.inl rfl,?_⟩
   push_cast [zd,↓zK,↓zJ]
   all_goals first|(rw [kv fun j hj=>hall j (by omega)];done)|(rw [kv fun j hj=>hall j (by omega)];rfl)
set_option maxRecDepth 20000 in
set_option maxHeartbeats 4000000 in
theorem zDD (xs:List Int)(hx:xs.length≤1048576):Fn Tryz.prog tyT 46 [.c (DI xs)] [.c (DI (yZ xs))]:=by
 refine θH (ts:= [2]) Tryz.func46 Tryz.ntmps46 ?_
 push_cast [↓zK,↓zJ]
 refine θA ?_
 refine θA ?_
 refine zL fun K1 hK1=> ?_
 refine θA ?_
 refine zV ?_
 refine zg [3,4,5,6,8,9,10,11,12,13,14,15,16,17,18,19,20,21,22,23,24,25,26,27,28,29,30,31,32,33,34,35,36,37,38,39,40,41,42,43,44,45,46,47,48] [48] (fun(i:Nat)=> [(4, .int .i64 i),(3, .sl 48 [] 0 i 2)]) (fun i=> []) (fun i=> [(48,⟨.ex,2,dI (yZ (xs.take i)),none⟩)]) (fun i=>i≤xs.length) (fun i=>xs.length - i) 0 ?_ (by omega) ?_
 ·
  rw [List.take_zero,zBb,show dI ([]:List Int)= []from rfl]
  exact θX
 ·rintro i hi KL0 hL0
  have hol:(yZ (xs.take i)).length=i:=by rw [qS,List.length_take];omega
  push_cast [↓zK,↓zJ]
  refine zL fun K2 hK2=> ?_
  refine θA ?_
  refine θU (fun hc=> ?_) fun hc=> ?_
  ·
   refine zU (hK2 _ ?_)
   refine zL fun K3 hK3=> ?_
   refine zV ?_
   refine θA ?_
   refine zL fun K4 hK4=> ?_
   refine zV ?_
   refine zg [5,16,17,18,19,20,21,22,23,24,25,26,27,28,29,30,31] [] (fun(k:Nat)=> [(5, .int .i64 k)]) (fun k=> []) (fun k=> []) (fun k=>k≤i∧∀j,k≤j→j<i→gi (yZ (xs.take i)) j>gi xs i) (fun k=>k) i ?_ ⟨by omega,fun j h8 h9=>by omega⟩ ?_
   ·
    exact θX
   ·rintro k ⟨hk,hall⟩ KL1 hL1
    push_cast [↓zK,↓zJ]
    refine zL fun K5 hK5=> ?_
    refine zL fun K hK=> ?_
    refine zx false zO zN ya ?_ rfl ?_
    ·kernel_rfl
    intro E hE
    all_goals push_cast [↓zK,↓zJ]
    all_goals repeat'(first|(apply zP<;>(intro hg;(try push_cast at hg)))|apply And.intro|(intro hg;(try push_cast at hg)))
    all_goals first|exact gA|(refine hE _ _ ?_ ?_;kernel_rfl)|skip
    all_goals clear hE E
    all_goals(refine hK _ ?_;clear hK K)
    all_goals refine zT rfl (fun hc=> ?_) (fun hc=> ?_)
    all_goals(first|(cases hc;done)|skip)
    all_goals(try simp only [push_cast]at hc)
    all_goals try(
      refine zh (hK4 _ ?_)
      refine θA ?_
      refine θA ?_
      refine θB ?_
      refine hK3 _ ?_
      refine θB ?_
      refine hL0 _ ⟨i+1,by omega,by omega,?_⟩
      refine zY rfl ?_ ?_ ?_<;>push_cast [zb,za,↓zK,↓zJ]
      all_goals first|(rw [show k+1+(i - k)=i+1 from by omega];done)|(rw [zLY (by omega) (by omega) (fun j h8 h9=>hall j h8 h9) (by first|exact .inl (by omega)|exact .inr (by omega))];done)|skip
      done)
    refine zU (hK5 _ ?_)
    refine zV ?_
    refine θB ?_
    refine hL1 _ ⟨k - 1,⟨by omega,fun j h8 h9=>(by
      by_cases hjk:j=k - 1
      ·subst hjk;omega
      ·exact hall j (by omega) h9)⟩,by omega,?_⟩
    refine zY rfl ?_ ?_ ?_<;>push_cast [zb,za,↓zK,↓zJ]
    all_goals(try(refine congrArg (AV.int .i64) ?_;omega))
  ·
   refine zh ?_
   have hii:i=xs.length:=by omega
   subst hii
   rw [List.take_length]
   refine hK1 _ ?_
   refine θA ?_
   refine zZ ⟨Or.inl rfl,?_⟩
   push_cast [zd,↓zK,↓zJ]
   all_goals first|rfl|exact⟨rfl,rfl⟩|exact⟨rfl,(qS xs).symm⟩|(simp [qS];done)
def zB4 (r:List Int)(s:List Plc×List Int)(u:Int):List Plc×List Int:=if ixQ (xD u r) s.1<0 then(s.1++ [⟨u,r⟩],s.2++ [(s.1.length:Int)])else(s.1,s.2++ [ixQ (xD u r) s.1])
def zu (r us:List Int)(ps:List Plc)(k:Nat):List Plc×List Int:=(us.take k).foldl (zB4 r) (ps,[])
theorem zDm (r us:List Int)(ps:List Plc):zu r us ps 0=(ps,[]):=rfl
theorem zIE {r us:List Int}{ps:List Plc}{k:Nat}(h:k<us.length):zu r us ps (k+1)=zB4 r (zu r us ps k) (gi us k):=by
 unfold zu
 rw [zDz h,List.foldl_append]
 rfl
theorem wS {r us:List Int}{ps:List Plc}{k:Nat}(h:k<us.length)(h2:ixQ (xD (gi us k) r) (zu r us ps k).1<0):zu r us ps (k+1)=((zu r us ps k).1++ [⟨gi us k,r⟩],(zu r us ps k).2++ [((zu r us ps k).1.length:Int)]):=by
 rw [zIE h];unfold zB4;rw [if_pos h2]
theorem ZF {r us:List Int}{ps:List Plc}{k:Nat}(h:k<us.length)(h2: ¬ixQ (xD (gi us k) r) (zu r us ps k).1<0):zu r us ps (k+1)=((zu r us ps k).1,(zu r us ps k).2++ [ixQ (xD (gi us k) r) (zu r us ps k).1]):=by
 rw [zIE h];unfold zB4;rw [if_neg h2]
theorem qK {r us:List Int}{ps:List Plc}: ∀{k:Nat},k≤us.length→(zu r us ps k).2.length=k∧ps.length≤(zu r us ps k).1.length∧(zu r us ps k).1.length≤ps.length+k
 |0,_=>by rw [zDm];exact⟨rfl,Nat.le_refl _,Nat.le_refl _⟩
 |k+1,h=>by
  have h1:=qK (r:=r) (us:=us) (ps:=ps) (k:=k) (by omega)
  by_cases h2:ixQ (xD (gi us k) r) (zu r us ps k).1<0
  ·rw [wS (by omega) h2];simp only [List.length_append,List.length_cons,List.length_nil];omega
  ·rw [ZF (by omega) h2];simp only [List.length_append,List.length_cons,List.length_nil];omega
theorem zID {r us:List Int}{ps:List Plc}{k j:Nat}(hkj:k≤j)(hj:j≤us.length):(zu r us ps k).1.length≤(zu r us ps j).1.length:=by
 induction j with
 |zero=>
      have :k=0:=by omega
      subst this;exact Nat.le_refl _
 |succ j ih=>
  rcases Nat.lt_or_ge j k with h|h
  ·have :k=j+1:=by omega
   subst this;exact Nat.le_refl _
  ·have h1:=ih h (by omega)
   by_cases h2:ixQ (xD (gi us j) r) (zu r us ps j).1<0
   ·rw [wS (by omega) h2];simp only [List.length_append,List.length_cons,List.length_nil];omega
   ·rw [ZF (by omega) h2];exact h1
theorem zHg (p:Plc→Bool)(ps:List Plc): -1≤ixQ p ps∧ixQ p ps<ps.length:=by unfold ixQ;split<;>omega
theorem Jc {r us:List Int}{ps:List Plc}{O:Plc→Prop}(h0: ∀p∈ps,O p)(h1: ∀u∈us,O ⟨u,r⟩): ∀{k:Nat},k≤us.length→∀p∈(zu r us ps k).1,O p
 |0,_,p,hp=>h0 p hp
 |k+1,h,p,hp=>by
  by_cases h2:ixQ (xD (gi us k) r) (zu r us ps k).1<0
  ·rw [wS (by omega) h2,List.mem_append]at hp
   rcases hp with hp|hp
   ·exact Jc h0 h1 (by omega) p hp
   ·rw [List.mem_singleton]at hp;subst hp;exact h1 _ (UA (by omega))
  ·rw [ZF (by omega) h2]at hp
   exact Jc h0 h1 (by omega) p hp
section
variable (us rc:Plc→List Int) (p0:Plc)
def stQ :Nat→List Plc
 |0=> [p0]
 |i+1=>if i<(stQ i).length then(zu (rc (gq (stQ i) i)) (us (gq (stQ i) i)) (stQ i) (us (gq (stQ i) i)).length).1 else stQ i
def uH (i k:Nat):List Plc×List Int:=zu (rc (gq (stQ us rc p0 i) i)) (us (gq (stQ us rc p0 i) i)) (stQ us rc p0 i) k
def nxQ (i:Nat):List Int:=yZ (uH us rc p0 i (us (gq (stQ us rc p0 i) i)).length).2
def plQ (i:Nat):Plc:=gq (stQ us rc p0 i) i
def okQ :Bool:=decide ((stQ us rc p0 257).length≤256)
end
variable {us rc:Plc→List Int} {p0:Plc}
theorem XP {i:Nat}(h:i<(stQ us rc p0 i).length):stQ us rc p0 (i+1)=(uH us rc p0 i (us (plQ us rc p0 i)).length).1:=by
 show(if i<(stQ us rc p0 i).length then _ else _)=_
 rw [if_pos h];rfl
theorem Jh {i:Nat}(h: ¬i<(stQ us rc p0 i).length):stQ us rc p0 (i+1)=stQ us rc p0 i:=by
 show(if i<(stQ us rc p0 i).length then _ else _)=_
 rw [if_neg h]
theorem Yz {i j:Nat}(h:i≤j):(stQ us rc p0 i).length≤(stQ us rc p0 j).length:=by
 induction j with
 |zero=>
      have :i=0:=by omega
      subst this;exact Nat.le_refl _
 |succ j ih=>
  rcases Nat.lt_or_ge j i with h1|h1
  ·have :i=j+1:=by omega
   subst this;exact Nat.le_refl _
  ·have h2:=ih h1
   by_cases h3:j<(stQ us rc p0 j).length
   ·rw [XP h3]
    have :=(qK (r:=rc (gq (stQ us rc p0 j) j)) (us:=us (gq (stQ us rc p0 j) j)) (ps:=stQ us rc p0 j) (Nat.le_refl _)).2.1
    exact Nat.le_trans h2 this
   ·rw [Jh h3];exact h2
theorem Ji {i:Nat}(h: ¬i<(stQ us rc p0 i).length){j:Nat}(hj:i≤j):stQ us rc p0 j=stQ us rc p0 i:=by
 induction j with
 |zero=>
      have :i=0:=by omega
      subst this;rfl
 |succ j ih=>
  rcases Nat.lt_or_ge j i with h1|h1
  ·have :i=j+1:=by omega
   subst this;rfl
  ·have h2:=ih h1
   rw [Jh (by rw [h2];omega),h2]
theorem zLt {i:Nat}(hi:i≤256)(h: ¬i<(stQ us rc p0 i).length):okQ us rc p0=true∧stQ us rc p0 257=stQ us rc p0 i:=by
 have h1:=Ji h (j:=257) (by omega)
 unfold okQ
 rw [h1]
 exact⟨decide_eq_true (by omega),rfl⟩
theorem zHx {i:Nat}(hi:i≤256)(h:256<(stQ us rc p0 (i+1)).length):okQ us rc p0=false:=by
 have h1:=Yz (us:=us) (rc:=rc) (p0:=p0) (i:=i+1) (j:=257) (by omega)
 unfold okQ
 exact decide_eq_false (by omega)
theorem zLu {i k:Nat}(hi:i≤256)(hl:i<(stQ us rc p0 i).length)(hk:k<(us (plQ us rc p0 i)).length)(h2:ixQ (xD (gi (us (plQ us rc p0 i)) k) (rc (plQ us rc p0 i))) (uH us rc p0 i k).1<0)(h:256≤(uH us rc p0 i k).1.length):okQ us rc p0=false:=by
 refine zHx hi ?_
 rw [XP hl]
 have h1:=zID (r:=rc (plQ us rc p0 i)) (us:=us (plQ us rc p0 i)) (ps:=stQ us rc p0 i) (k:=k+1) (j:=(us (plQ us rc p0 i)).length) (by omega) (Nat.le_refl _)
 have h3:=wS (r:=rc (plQ us rc p0 i)) (us:=us (plQ us rc p0 i)) (ps:=stQ us rc p0 i) hk h2
 rw [h3]at h1
 simp only [List.length_append,List.length_cons,List.length_nil]at h1
 have h4:(zu (rc (plQ us rc p0 i)) (us (plQ us rc p0 i)) (stQ us rc p0 i) k).1.length=(uH us rc p0 i k).1.length:=rfl
 have h5:(zu (rc (plQ us rc p0 i)) (us (plQ us rc p0 i)) (stQ us rc p0 i) (us (plQ us rc p0 i)).length).1.length=(uH us rc p0 i (us (plQ us rc p0 i)).length).1.length:=rfl
 omega
theorem jk {O:Plc→Prop}(h0:O p0)(h1: ∀p,O p→∀u∈us p,O ⟨u,rc p⟩): ∀i,∀p∈stQ us rc p0 i,O p
 |0,p,hp=>by rw [show stQ us rc p0 0= [p0]from rfl,List.mem_singleton]at hp;subst hp;exact h0
 |i+1,p,hp=>by
  by_cases h:i<(stQ us rc p0 i).length
  ·rw [XP h]at hp
   refine Jc (O:=O) (jk h0 h1 i) (fun u hu=>h1 _ (jk h0 h1 i _ (qH h)) u hu) (Nat.le_refl _) p hp
  ·rw [Jh h]at hp
   exact jk h0 h1 i p hp
end Go.Proofs.YtcleaokoimhedaaGreat
