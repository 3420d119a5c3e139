/- The contract of slices.Sort at the kind int64, laid over this program. -/
import Derived.Shelf.SortG.Plain
import Derived.Shelf.SortG.SortNone
import Derived.Test.YtipplkjdmdlhpaaProg
import Derived.Sort.OwnSortedInts
import Derived.Test.YtipplkjdmdlhpaaB4zvi
import Derived.Test.YtipplkjdmdlhpaaB11zvi
import Derived.Test.YtipplkjdmdlhpaaB8zvi
namespace Go.Proofs.Ytipplkjdmdlhpaa
open Go.Shelf
def UT :Go.Shelf.Ren:=⟨fun|53=>79|64=>95|63=>94|78=>109|79=>110|70=>100|71=>101|72=>102|73=>103|74=>104|75=>105|59=>106|76=>107|77=>108|88=>112|89=>113|90=>114|91=>115|92=>116|68=>117|96=>118|n=>n,fun|22=>27|23=>2|3=>3|51=>65|0=>0|67=>116|69=>26|4=>4|61=>109|60=>108|44=>102|5=>5|9=>9|75=>119|79=>123|83=>125|84=>126|n=>n,fun|n=>n⟩
theorem US :Go.Proofs.SlLaysN.n53 Try.prog UT:={
 mixed:=by kernel_rfl
 f53:=⟨Try.f79.name,by decide,Try.func79.trans (congrArg some (by kernel_rfl))⟩
 f59:=⟨Try.f106.name,by decide,Try.func106.trans (congrArg some (by kernel_rfl))⟩
 f63:=⟨Try.f94.name,by decide,Try.func94.trans (congrArg some (by kernel_rfl))⟩
 f64:=Try.func95.trans (congrArg some (by kernel_rfl))
 f68:=⟨Try.f117.name,by decide,Try.func117.trans (congrArg some (by kernel_rfl))⟩
 f70:=⟨Try.f100.name,by decide,Try.func100.trans (congrArg some (by kernel_rfl))⟩
 f71:=⟨Try.f101.name,by decide,Try.func101.trans (congrArg some (by kernel_rfl))⟩
 f72:=⟨Try.f102.name,by decide,Try.func102.trans (congrArg some (by kernel_rfl))⟩
 f73:=⟨Try.f103.name,by decide,Try.func103.trans (congrArg some (by kernel_rfl))⟩
 f74:=⟨Try.f104.name,by decide,Try.func104.trans (congrArg some (by kernel_rfl))⟩
 f75:=⟨Try.f105.name,by decide,Try.func105.trans (congrArg some (by kernel_rfl))⟩
 f76:=⟨Try.f107.name,by decide,Try.func107.trans (congrArg some (by kernel_rfl))⟩
 f77:=⟨Try.f108.name,by decide,Try.func108.trans (congrArg some (by kernel_rfl))⟩
 f78:=Try.func109.trans (congrArg some (by kernel_rfl))
 f79:=Try.func110.trans (congrArg some (by kernel_rfl))
 f88:=⟨Try.f112.name,by decide,Try.func112.trans (congrArg some (by kernel_rfl))⟩
 f89:=Try.func113.trans (congrArg some (by kernel_rfl))
 f90:=Try.func114.trans (congrArg some (by kernel_rfl))
 f91:=⟨Try.f115.name,by decide,Try.func115.trans (congrArg some (by kernel_rfl))⟩
 f92:=⟨Try.f116.name,by decide,Try.func116.trans (congrArg some (by kernel_rfl))⟩
 f96:=⟨Try.f118.name,by decide,Try.func118.trans (congrArg some (by kernel_rfl))⟩
 t0:=Try.underlying0
 a0:=Try.isAgg0
 z0:=Try.sizeOf0
 v0:=Try.zeroValue0
 t3:=Try.underlying3
 a3:=Try.isAgg3
 z3:=Try.sizeOf3
 v3:=Try.zeroValue3
 t4:=Try.underlying4
 a4:=Try.isAgg4
 z4:=Try.sizeOf4
 v4:=Try.zeroValue4
 t5:=Try.underlying5
 a5:=Try.isAgg5
 z5:=Try.sizeOf5
 v5:=Try.zeroValue5
 t9:=Try.underlying9
 a9:=Try.isAgg9
 z9:=Try.sizeOf9
 v9:=Try.zeroValue9
 t22:=Try.underlying27
 a22:=Try.isAgg27
 z22:=Try.sizeOf27
 v22:=Try.zeroValue27
 t23:=Try.underlying2
 a23:=Try.isAgg2
 z23:=Try.sizeOf2
 v23:=Try.zeroValue2
 t44:=Try.underlying102
 a44:=Try.isAgg102
 z44:=Try.sizeOf102
 v44:=Try.zeroValue102
 t51:=Try.underlying65
 a51:=Try.isAgg65
 z51:=Try.sizeOf65
 v51:=Try.zeroValue65
 t60:=Try.underlying108
 a60:=Try.isAgg108
 z60:=Try.sizeOf108
 v60:=Try.zeroValue108
 t61:=Try.underlying109
 a61:=Try.isAgg109
 z61:=Try.sizeOf109
 v61:=Try.zeroValue109
 t67:=Try.underlying116
 a67:=Try.isAgg116
 z67:=Try.sizeOf116
 v67:=Try.zeroValue116
 t69:=Try.underlying26
 a69:=Try.isAgg26
 z69:=Try.sizeOf26
 v69:=Try.zeroValue26
 t75:=Try.underlying119
 a75:=Try.isAgg119
 z75:=Try.sizeOf119
 v75:=Try.zeroValue119
 t79:=Try.underlying123
 a79:=Try.isAgg123
 z79:=Try.sizeOf123
 v79:=Try.zeroValue123
 t83:=Try.underlying125
 a83:=Try.isAgg125
 z83:=Try.sizeOf125
 v83:=Try.zeroValue125
 t84:=Try.underlying126
 a84:=Try.isAgg126
 z84:=Try.sizeOf126
 v84:=Try.zeroValue126}
open Go Go.RowKit Go.Sort
set_option linter.unusedVariables false
set_option linter.unusedSimpArgs false
def yF (xs:List Int):List Int:=xs.mergeSort fun x y=>decide (x≤y)
theorem xZ (xs:List Int):(yF xs).length=xs.length:=List.length_mergeSort ..
theorem xj (xs:List Int):(yF xs).Perm xs:=List.mergeSort_perm ..
theorem qr (xs:List Int):(yF xs).Pairwise (· ≤ ·):=by
 have :=List.pairwise_mergeSort (le:=fun x y:Int=>decide (x≤y)) (fun a b c h1 h2=>by simp at h1 h2⊢;omega) (fun a b=>by simp;omega) xs
 refine this.imp fun h=>by simpa using h
theorem Xc :yF []= []:=by simp [yF]
theorem uh :vH Try.prog 79:=⟨_,Try.func79,by decide+kernel,rfl⟩
theorem zBy {S:TypeId→Nat}{lo:Nat}{w:World}{ow:Nat→Option Pl}: ∀{xs:List Int} {m:Md} {k:Nat} {vs:List Value},RpL S lo w ow m k (dI xs) vs→vs=xs.map (Value.int .i64)
 | [],m,k,vs,h=>by simpa only [dI,List.map_nil,RpL]using h
 |x::xs,m,k,vs,h=>by
  simp only [dI,List.map_cons,RpL,Rp]at h
  obtain⟨v,vs',rfl,rfl,h2⟩:=h
  rw [zBy (xs:=xs) h2]
  rfl
set_option maxHeartbeats 1000000 in
theorem zBn (xs:List Int)(hl:xs.length≤1048576):FnG Try.prog tyT 79 [.c (DI xs)] [0] [(0,2,dI (yF xs))] []:=by
 refine⟨uh,fun lo w ow cargs hlo how hargs=> ?_⟩
 obtain⟨h1,h2⟩:=hargs
 obtain⟨v,rfl⟩: ∃v,cargs= [v]:=by
  cases cargs with
  |nil=>simp at h1
  |cons v vs=>cases vs with
   |nil=>exact⟨v,rfl⟩
   |cons _ _=>simp at h1
 obtain⟨cs,k1,k2,k3⟩:=h2 0 _ v rfl rfl
 have hv:Rp (sz tyT) lo w ow (.ex 0 []) (DI xs) v:=by
  rcases k3 with⟨d,c,e1,rfl,rfl⟩|⟨ds,e1,-⟩|⟨f,ds,e1,-⟩
  ·exact k2 0 _ _ rfl rfl
  ·cases e1
  ·cases e1
 simp only [DI,Rp]at hv
 obtain⟨vs,⟨q1,n,q2,q3,q4⟩,q5⟩:=hv
 have hs1:sz tyT 2=1:=rfl
 have hvs:=zBy q5
 rw [jA,hs1,Nat.mul_one]at q2
 subst q2
 rw [hs1]at q3
 have hh:yK [v] 0=v∨True:= .inr trivial
 rcases q3.2 with⟨rfl,h0⟩|⟨g,cap,cur,rfl,hg,hb,hc1,hc2,hc3,htake⟩
 ·have hx:xs= []:=List.eq_nil_of_length_eq_zero h0
  subst hx
  refine(AnyG.slices_Sort_int_none US none 0 w).mono fun e w' ⟨he,hw⟩=> ?_
  subst hw;subst he
  refine⟨[],fun b=>none,rfl,xF.start _,fun b _ _=>rfl,fun b p h=>(by cases h),by simp [vn],fun x hx=> ?_⟩
  simp only [List.mem_singleton]at hx
  subst hx
  simp only [Xc,show dI ([]:List Int)= []from rfl]
  exact vo _ _ _
 ·rw [hvs]at htake q3
  have hlt:g<w.heap.size:=(Array.getElem?_eq_some_iff.1 hb).1
  rw [Nat.mul_one]at htake
  have hH:=holds_of_blockI hb htake
  have hsl:=xZ xs
  refine(AnyG.slices_Sort_int US g 0 cap xs w hH hlt (by omega)).mono fun e w' ⟨he,n,os,hw⟩=> ?_
  subst he
  have hgr:w.grownBy w' (some g):=by rw [hw];exact grownBy_sortedI _
  have hown:=ownsRow_sortedI (base:=lo) (n:=n) (os:=os) (ts:=yF xs) hsl hg hb hc1 hc2 hc3
  rw [show(grow (putRow (Value.int .i64) (Sort.ahead w n) g 0 (yF xs).toArray) os)=w' from hw.symm]at hown
  have hog:=q4 g rfl
  refine⟨[],fun b=>match ow b with|some (.root d q)=>if d=0 then some (.root (wO 0) q)else none|_=>none,rfl,⟨hgr.os,hgr.tape,hgr.output,hgr.size,fun b hb' hk=>hgr.block b hb' (fun e=> ?_)⟩,fun b _ h=>by simp only [h],fun b p h=> ?_,by simp [vn],fun x hx=> ?_⟩
  ·simp only [Option.some.injEq]at e
   subst e
   simp only at hk
   rw [hog]at hk;cases hk
  ·simp only at h
   split at h
   ·rename_i d q ho
    split at h
    ·cases h
     have :=how b _ ho
     exact⟨Nat.lt_of_lt_of_le this.1 hgr.size,this.2.1,_,_,rfl⟩
    ·cases h
   ·cases h
  ·simp only [List.mem_singleton]at hx
   subst hx
   simp only
   refine(yE _ _).2 ⟨(yF xs).map (Value.int .i64),⟨by simp [jA],xs.length,by rw [jA,hs1,hsl,Nat.mul_one],?_⟩,fun i x u hx hu=> ?_⟩
   ·simp only
    rw [hs1]
    exact⟨hown,fun b hb'=>by
     have :b=g:=by simp [yK,Value.ownBlock]at hb';exact hb'.symm
     subst this
     simp only [hog,if_true]⟩
   ·simp only [dI,List.getElem?_map]at hx hu
    cases hk:(yF xs)[i]? with
    |none=>rw [hk]at hx;cases hx
    |some y=>rw [hk]at hx hu;cases hx;cases hu;simp only [Rp]
open Nat renaming reduceMod → zA, reduceMul → zB, reduceDiv → zC, reduceAdd → zD, reduceSub → zE, reduceEqDiff → zF, reduceBEq → zG, reduceLT → zH, reduceLeDiff → zI
open Go.RowKit
theorem wP : ∀{xs ys:List Int},xs.Perm ys→xs.Pairwise (· ≤ ·)→ys.Pairwise (· ≤ ·)→xs=ys
 | [],ys,h,_,_=>(List.Perm.nil_eq h)
 |x::xs,[],h,_,_=>by have :=h.length_eq;simp at this
 |x::xs,y::ys,h,h1,h2=>by
  rw [List.pairwise_cons]at h1 h2
  have hx:x∈y::ys:=h.subset (by simp)
  have hy:y∈x::xs:=h.symm.subset (by simp)
  have e:x=y:=by
   rw [List.mem_cons]at hx hy
   rcases hx with hx|hx
   ·exact hx
   ·rcases hy with hy|hy
    ·exact hy.symm
    ·have :=h1.1 y hy;have :=h2.1 x hx;omega
  subst e
  rw [wP ((List.perm_cons x).1 h) h1.2 h2.2]
theorem pw_le {xs:List Int}(h:xs.Pairwise (· < ·)):xs.Pairwise (· ≤ ·):=h.imp fun h=>by omega
theorem zF6 {xs:List Int}(h:xs.Pairwise (· < ·)):xs.Nodup:=h.imp fun h=>by omega
theorem zBZ {xs:List Int}(h:xs.Nodup):(yF xs).Pairwise (· < ·):=by
 have h1:=qr xs
 have h2:(yF xs).Nodup:=(xj xs).nodup_iff.2 h
 unfold List.Nodup at h2
 exact(h1.and h2).imp fun h=>by omega
def vh (f:Fm)(r:List Int):Bool:=xg f 256&&decide (yF r=f.names)
theorem zCL {f:Fm}{r:List Int}(h:xg f 256=true):vh f r=decide (yF r=f.names):=by unfold vh;rw [h];rfl
theorem qj {f:Fm}{r:List Int}(h:vh f r=true):xg f 256=true∧yF r=f.names∧r.length≤4∧r.Nodup∧∀x,x∈r↔x∈f.names:=by
 unfold vh at h
 rw [Bool.and_eq_true,decide_eq_true_eq]at h
 obtain⟨h1,h2⟩:=h
 have hn:=qO h1
 refine⟨h1,h2,by have :=xZ r;rw [h2]at this;omega,?_,fun x=> ?_⟩
 ·rw [←(xj r).nodup_iff,h2];exact zF6 (QS hn.1)
 ·rw [←(xj r).mem_iff,h2]
theorem zHr {f:Fm}{r:List Int}(h:vh f r=true)(v:Int):zq f.names v=zq r v:=by
 have :=(qj h).2.2.2.2 v
 cases h1:zq f.names v<;>cases h2:zq r v<;>first|rfl|(have a:=yR f.names v;have b:=yR r v;rw [h1]at a;rw [h2]at b;simp_all)
theorem zBN {xs:List Int}(h:xs.Nodup)(k:Nat):(xs.take k).Nodup:=h.sublist (List.take_sublist _ _)
theorem zHs {f:Fm}{r:List Int}(h:vh f r=true)(k:Nat):yF (r.take k)=yn f.names (r.take k):=by
 obtain⟨h1,h2,h3,h4,h5⟩:=qj h
 refine VL (zBZ (zBN h4 k)) ((QS (qO h1).1).filter _) fun x=> ?_
 unfold yn
 rw [(xj _).mem_iff,List.mem_filter,yR,←h5]
 exact⟨fun hm=>⟨List.mem_of_mem_take hm,hm⟩,fun hm=>hm.2⟩
def zv (r:List Int)(v:Int):List Int:=if zq r v then v::r.filter (fun x=> !decide (x=v))else r
theorem Qw {r:List Int}{v:Int}(h:zq r v=false):zv r v=r:=by unfold zv;rw [h];rfl
theorem XW {r:List Int}{v:Int}(h:zq r v=true):zv r v=v::r.filter (fun x=> !decide (x=v)):=by unfold zv;rw [h];rfl
theorem zFs (r:List Int)(v:Int):(zv r v).length≤r.length+1:=by
 unfold zv
 split
 ·simp only [List.length_cons];have :=List.length_filter_le (fun x=> !decide (x=v)) r;omega
 ·omega
def yp (f:Fm)(r:List Int)(v:Int):Int:=if zq r v then 2*yW r v+(if xU f.sets (yn f.names (r.take (yW r v+1)))then 2 else 1)else(if xU f.sets []then 0 else 1)
theorem wx {r:List Int}{v:Int}:zq r v=decide (yW r v<r.length):=rfl
theorem zCu (r:List Int)(v:Int): -1≤ixB r v∧ixB r v<r.length:=by
 unfold ixB
 split<;>omega
theorem zBV {f:Fm}{r:List Int}{v:Int}{K:Nat}(h:ixB r v<0)(hK:K=(ixB r v+1).toNat)(hs:yF (r.take K)=yn f.names (r.take K))(ho:xU f.sets (yF (r.take K))=true):(0:Int)=yp f r v:=by
 have hx: ¬yW r v<r.length:=fun h2=>by unfold ixB at h;rw [if_pos h2]at h;omega
 have :K=0:=by have :=(zCu r v).1;omega
 subst this
 rw [List.take_zero,Xc]at ho
 unfold yp
 rw [wx,decide_eq_false hx,ho]
 rfl
theorem zBW {f:Fm}{r:List Int}{v:Int}{K:Nat}(h:ixB r v<0)(hK:K=(ixB r v+1).toNat)(hs:yF (r.take K)=yn f.names (r.take K))(ho:xU f.sets (yF (r.take K))=false):(1:Int)=yp f r v:=by
 have hx: ¬yW r v<r.length:=fun h2=>by unfold ixB at h;rw [if_pos h2]at h;omega
 have :K=0:=by have :=(zCu r v).1;omega
 subst this
 rw [List.take_zero,Xc]at ho
 unfold yp
 rw [wx,decide_eq_false hx,ho]
 rfl
theorem Jc {f:Fm}{r:List Int}{v:Int}{K:Nat}(h: ¬ixB r v<0)(hK:K=(ixB r v+1).toNat)(hs:yF (r.take K)=yn f.names (r.take K))(ho:xU f.sets (yF (r.take K))=true):2*ixB r v+1+1=yp f r v:=by
 have hx:yW r v<r.length:=by
  unfold ixB at h
  split at h
  ·assumption
  ·omega
 have hi:ixB r v=yW r v:=by unfold ixB;rw [if_pos hx]
 have :K=yW r v+1:=by omega
 subst this
 rw [hs]at ho
 unfold yp
 rw [wx,decide_eq_true hx,ho,hi]
 simp only [if_true]
 omega
theorem Jb {f:Fm}{r:List Int}{v:Int}{K:Nat}(h: ¬ixB r v<0)(hK:K=(ixB r v+1).toNat)(hs:yF (r.take K)=yn f.names (r.take K))(ho:xU f.sets (yF (r.take K))=false):2*ixB r v+1=yp f r v:=by
 have hx:yW r v<r.length:=by
  unfold ixB at h
  split at h
  ·assumption
  ·omega
 have hi:ixB r v=yW r v:=by unfold ixB;rw [if_pos hx]
 have :K=yW r v+1:=by omega
 subst this
 rw [hs]at ho
 unfold yp
 rw [wx,decide_eq_true hx,ho,hi]
 simp
set_option maxRecDepth 20000 in
set_option maxHeartbeats 4000000 in
theorem jp (r:List Int)(hr:r.length≤1048576)(v:Int):Fn Try.prog tyT 86 [.c (DI r), .c (.int .i64 v)] [.c (DI (r.filter fun x=> !decide (x=v)))]:=by
 refine yB (fn:=Try.f86) (ts:= [4]) Try.func86 (by kernel_rfl) rfl rfl (by rw [Try.ntmps86];exact Nat.le_of_ble_eq_true rfl) rfl (by simp only [szA,List.mem_cons,List.not_mem_nil,or_false,forall_eq_or_imp,forall_eq,VT.cells,szL];try decide) ?_
 rw [Try.ntmps86]
 simp only [push_cast,↓zK,↓zJ,↓reduceIte,zA,zB,zC,zD,zE,zF,zG,zH,zI,reduceCtorEq]
 refine zL fun K hK=> ?_
 refine zM zP zN [] rfl ?_
 simp only [push_cast,↓zK,↓zJ,↓reduceIte,zA,zB,zC,zD,zE,zF,zG,zH,zI,reduceCtorEq]
 repeat' apply And.intro
 all_goals try exact gB
 all_goals first|(refine hK _ ?_;clear hK K)|(simp only [push_cast];done)
 refine zL fun K hK=> ?_
 refine zM zP zN [] rfl ?_
 simp only [push_cast,↓zK,↓zJ,↓reduceIte,zA,zB,zC,zD,zE,zF,zG,zH,zI,reduceCtorEq]
 repeat' apply And.intro
 all_goals try exact gB
 all_goals first|(refine hK _ ?_;clear hK K)|(simp only [push_cast];done)
 refine zL fun K1 hK1=> ?_
 refine zL fun K hK=> ?_
 refine zM zP zN [] rfl ?_
 simp only [push_cast,↓zK,↓zJ,↓reduceIte,zA,zB,zC,zD,zE,zF,zG,zH,zI,reduceCtorEq]
 repeat' apply And.intro
 all_goals try exact gB
 all_goals first|(refine hK _ ?_;clear hK K)|(simp only [push_cast];done)
 refine zV ?_
 refine zh [5,7,11,12,13,14,15,16,17,18,19,20,21,22] [80] (fun(q:Nat×List Int)=> [(11, .int .i64 q.1),(5, .sl 80 [] 0 q.2.length 2)]) (fun q=> []) (fun q=> [(80,⟨.ex,2,dI q.2,none⟩)]) (fun q=>q.1≤r.length∧q.2=(r.take q.1).filter (fun x=> !decide (x=v))) (fun q=>r.length - q.1) (0,[]) ?_ ⟨by omega,rfl⟩ ?_
 ·
  simp only [show dI ([]:List Int)= []from rfl]
  refine zY rfl ?_ ?_ ?_<;>simp only [zf,ze,push_cast,↓zK,↓zJ,↓reduceIte,zA,zB,zC,zD,zE,zF,zG,zH,zI,reduceCtorEq]
 ·rintro⟨k,o⟩ ⟨hk,ho⟩ KL0 hL0
  simp only at hk ho
  have hol:o.length≤r.length:=by rw [ho];exact XE _ _ _
  simp only [push_cast,↓zK,↓zJ,↓reduceIte,zA,zB,zC,zD,zE,zF,zG,zH,zI,reduceCtorEq]
  refine zL fun K hK=> ?_
  refine zM zP zN [] rfl ?_
  simp only [push_cast,↓zK,↓zJ,↓reduceIte,zA,zB,zC,zD,zE,zF,zG,zH,zI,reduceCtorEq]
  repeat' apply And.intro
  all_goals try exact gB
  all_goals first|(refine hK _ ?_;clear hK K)|(simp only [push_cast];done)
  refine zL fun K2 hK2=> ?_
  refine zT rfl (fun hc=> ?_) (fun hc=> ?_)<;>(try simp only [push_cast]at hc)
  ·
   refine zU ?_
   (try simp only [zR,zS,reduceIte,zF]);refine hK2 _ ?_
   refine zL fun K3 hK3=> ?_
   refine zV ?_
   refine zL fun K hK=> ?_
   refine zM zP zN [] rfl ?_
   simp only [push_cast,↓zK,↓zJ,↓reduceIte,zA,zB,zC,zD,zE,zF,zG,zH,zI,reduceCtorEq]
   repeat' apply And.intro
   all_goals try exact gB
   all_goals first|(refine hK _ ?_;clear hK K)|(simp only [push_cast];done)
   refine zL fun K hK=> ?_
   refine zM zP zN [] rfl ?_
   simp only [push_cast,↓zK,↓zJ,↓reduceIte,zA,zB,zC,zD,zE,zF,zG,zH,zI,reduceCtorEq]
   repeat' apply And.intro
   all_goals try exact gB
   all_goals first|(refine hK _ ?_;clear hK K)|(simp only [push_cast];done)
   refine zT rfl (fun hc=> ?_) (fun hc=> ?_)<;>(try simp only [push_cast]at hc)
   ·
    refine zM zP zN [] rfl ?_
    simp only [push_cast,↓zK,↓zJ,↓reduceIte,zA,zB,zC,zD,zE,zF,zG,zH,zI,reduceCtorEq]
    repeat' apply And.intro
    all_goals try exact gB
    (try simp only [zR,zS,reduceIte,zF]);refine hK3 _ ?_
    refine zM zP zN [] rfl ?_
    simp only [push_cast,↓zK,↓zJ,↓reduceIte,zA,zB,zC,zD,zE,zF,zG,zH,zI,reduceCtorEq]
    repeat' apply And.intro
    all_goals try exact gB
    refine hL0 _ ⟨(k+1,o++ [gi r k]),⟨by simp only;omega,by simp only;rw [Yp (by omega) (by simp only [decide_eq_false hc,Bool.not_false]),←ho]⟩,by simp only;omega,?_⟩
    refine zY rfl ?_ ?_ ?_<;>simp only [zf,ze,push_cast,↓zK,↓zJ,↓reduceIte,zA,zB,zC,zD,zE,zF,zG,zH,zI,reduceCtorEq]
    all_goals(try(rw [List.length_append];rfl))
   ·
    refine zU ?_
    (try simp only [zR,zS,reduceIte,zF]);refine hK3 _ ?_
    refine zM zP zN [] rfl ?_
    simp only [push_cast,↓zK,↓zJ,↓reduceIte,zA,zB,zC,zD,zE,zF,zG,zH,zI,reduceCtorEq]
    repeat' apply And.intro
    all_goals try exact gB
    refine hL0 _ ⟨(k+1,o),⟨by simp only;omega,by simp only;rw [QH (by omega) (by simp only [decide_eq_true hc,Bool.not_true]),←ho]⟩,by simp only;omega,?_⟩
    refine zY rfl ?_ ?_ ?_<;>simp only [zf,ze,push_cast,↓zK,↓zJ,↓reduceIte,zA,zB,zC,zD,zE,zF,zG,zH,zI,reduceCtorEq]
    all_goals(try(rw [List.length_append];rfl))
  ·
   refine zk ?_
   have hkk:k=r.length:=by omega
   subst hkk
   rw [List.take_length]at ho
   (try simp only [zR,zS,reduceIte,zF]);refine hK1 _ ?_
   refine zL fun K hK=> ?_
   refine zM zP zN [] rfl ?_
   simp only [push_cast,↓zK,↓zJ,↓reduceIte,zA,zB,zC,zD,zE,zF,zG,zH,zI,reduceCtorEq]
   repeat' apply And.intro
   all_goals try exact gB
   all_goals first|(refine hK _ ?_;clear hK K)|(simp only [push_cast];done)
   refine zX ?_
   (try simp only [zR,zS])
   refine⟨Or.inl rfl,?_⟩
   simp only [zb,push_cast,↓zK,↓zJ,↓reduceIte,zA,zB,zC,zD,zE,zF,zG,zH,zI,reduceCtorEq]
   subst ho
   first|rfl|(simp;done)
set_option maxRecDepth 20000 in
set_option maxHeartbeats 4000000 in
theorem uf (f:Fm)(hf:f.Ln 1048576)(r:List Int)(hr:r.length≤1048576)(v:Int)(hv:vh f r=true):Fn Try.prog tyT 60 [.agg (dFm f), .c (DI r), .c (.int .i64 v)] [.c (DI (zv r v))]:=by
 have h1:=hf.names
 have h2:=hf.sets.1
 unfold LnI at h1
 have hrr: ∀v,(gl f.sets v).length≤1048576:=fun v=>qt hf.sets v
 have hC:=yN f.names v h1
 rw [zHr hv]at hC
 have hL:=jp r hr v
 have hl4:=(qj hv).2.2.1
 have hfl:=jm r (fun x=> !decide (x=v))
 unfold dFm
 refine yB (fn:=Try.f60) (ts:= [6]) Try.func60 (by kernel_rfl) rfl rfl (by rw [Try.ntmps60];exact Nat.le_of_ble_eq_true rfl) rfl (by simp only [szA,List.mem_cons,List.not_mem_nil,or_false,forall_eq_or_imp,forall_eq,VT.cells,szL];try decide) ?_
 rw [Try.ntmps60]
 simp only [push_cast,↓zK,↓zJ,↓reduceIte,zA,zB,zC,zD,zE,zF,zG,zH,zI,reduceCtorEq]
 refine zL fun K hK=> ?_
 refine zM zP zN [] rfl ?_
 simp only [push_cast,↓zK,↓zJ,↓reduceIte,zA,zB,zC,zD,zE,zF,zG,zH,zI,reduceCtorEq]
 repeat' apply And.intro
 all_goals try exact gB
 all_goals first|(refine hK _ ?_;clear hK K)|(simp only [push_cast];done)
 refine zL fun K1 hK1=> ?_
 refine zL fun K hK=> ?_
 refine zM zP zN [] rfl ?_
 all_goals refine zx 4 fun K9 hK9=> ?_
 all_goals simp only [push_cast,↓zK,↓zJ,↓reduceIte,zA,zB,zC,zD,zE,zF,zG,zH,zI,reduceCtorEq]
 all_goals repeat'(first|(apply zO<;>(intro hg;(try simp only [push_cast]at hg)))|(refine⟨_,hC,?_⟩;simp only [push_cast,↓zK,↓zJ,↓reduceIte,zA,zB,zC,zD,zE,zF,zG,zH,zI,reduceCtorEq])|apply And.intro|(intro hg;(try simp only [push_cast]at hg)))
 all_goals try exact gA
 all_goals first|(refine hK9 _ ?_;clear hK9 K9)|(simp only [push_cast];done)
 all_goals simp only [push_cast,↓zK,↓zJ,↓reduceIte,zA,zB,zC,zD,zE,zF,zG,zH,zI,reduceCtorEq]
 all_goals repeat'(first|(apply zO<;>(intro hg;(try simp only [push_cast]at hg)))|(refine⟨_,hC,?_⟩;simp only [push_cast,↓zK,↓zJ,↓reduceIte,zA,zB,zC,zD,zE,zF,zG,zH,zI,reduceCtorEq])|apply And.intro|(intro hg;(try simp only [push_cast]at hg)))
 all_goals try exact gA
 all_goals first|(refine hK _ ?_;clear hK K)|(simp only [push_cast];done)
 refine zT rfl (fun hc=> ?_) (fun hc=> ?_)<;>(try simp only [push_cast]at hc)
 ·
  refine zL fun K hK=> ?_
  refine zM zP zN [] rfl ?_
  simp only [push_cast,↓zK,↓zJ,↓reduceIte,zA,zB,zC,zD,zE,zF,zG,zH,zI,reduceCtorEq]
  repeat' apply And.intro
  all_goals try exact gB
  all_goals first|(refine hK _ ?_;clear hK K)|(simp only [push_cast];done)
  refine zX ?_
  (try simp only [zR,zS])
  refine⟨Or.inl rfl,?_⟩
  simp only [zb,push_cast,↓zK,↓zJ,↓reduceIte,zA,zB,zC,zD,zE,zF,zG,zH,zI,reduceCtorEq]
  rw [Qw (by with_reducible assumption)]
  (try rw [List.take_of_length_le (l:=r) (Nat.le_refl _)])
  all_goals first|rfl|exact⟨rfl,rfl⟩|(simp;done)
 ·
  refine zU ?_
  (try simp only [zR,zS,reduceIte,zF]);refine hK1 _ ?_
  refine zL fun K hK=> ?_
  refine zM zP zN [] rfl ?_
  all_goals refine zx 5 fun K9 hK9=> ?_
  all_goals simp only [push_cast,↓zK,↓zJ,↓reduceIte,zA,zB,zC,zD,zE,zF,zG,zH,zI,reduceCtorEq]
  all_goals repeat'(first|(apply zO<;>(intro hg;(try simp only [push_cast]at hg)))|(refine⟨_,hL,?_⟩;simp only [push_cast,↓zK,↓zJ,↓reduceIte,zA,zB,zC,zD,zE,zF,zG,zH,zI,reduceCtorEq])|apply And.intro|(intro hg;(try simp only [push_cast]at hg)))
  all_goals try exact gA
  all_goals first|(refine hK9 _ ?_;clear hK9 K9)|(simp only [push_cast];done)
  all_goals simp only [push_cast,↓zK,↓zJ,↓reduceIte,zA,zB,zC,zD,zE,zF,zG,zH,zI,reduceCtorEq]
  all_goals repeat'(first|(apply zO<;>(intro hg;(try simp only [push_cast]at hg)))|(refine⟨_,hL,?_⟩;simp only [push_cast,↓zK,↓zJ,↓reduceIte,zA,zB,zC,zD,zE,zF,zG,zH,zI,reduceCtorEq])|apply And.intro|(intro hg;(try simp only [push_cast]at hg)))
  all_goals try exact gA
  all_goals first|(refine hK _ ?_;clear hK K)|(simp only [push_cast];done)
  refine zX ?_
  (try simp only [zR,zS])
  refine⟨Or.inl rfl,?_⟩
  simp only [zb,push_cast,↓zK,↓zJ,↓reduceIte,zA,zB,zC,zD,zE,zF,zG,zH,zI,reduceCtorEq]
  rw [XW (by with_reducible assumption)]
  (try rw [List.take_of_length_le (l:=r.filter fun x=> !decide (x=v)) (Nat.le_refl _)])
  exact⟨rfl,Nat.add_comm _ _⟩
set_option maxRecDepth 20000 in
set_option maxHeartbeats 4000000 in
theorem Ky (r:List Int)(hr:r.length≤1048570)(v:Int):Fn Try.prog tyT 63 [.c (DI r), .c (.int .i64 v)] [.c (DI (zv r v))]:=by
 have hC:=xY r v (by omega)
 refine yB (fn:=Try.f63) (ts:= [4]) Try.func63 (by kernel_rfl) rfl rfl (by rw [Try.ntmps63];exact Nat.le_of_ble_eq_true rfl) rfl (by simp only [szA,List.mem_cons,List.not_mem_nil,or_false,forall_eq_or_imp,forall_eq,VT.cells,szL];try decide) ?_
 rw [Try.ntmps63]
 simp only [push_cast,↓zK,↓zJ,↓reduceIte,zA,zB,zC,zD,zE,zF,zG,zH,zI,reduceCtorEq]
 refine zL fun K hK=> ?_
 refine zM zP zN [] rfl ?_
 simp only [push_cast,↓zK,↓zJ,↓reduceIte,zA,zB,zC,zD,zE,zF,zG,zH,zI,reduceCtorEq]
 repeat' apply And.intro
 all_goals try exact gB
 all_goals first|(refine hK _ ?_;clear hK K)|(simp only [push_cast];done)
 refine zL fun K1 hK1=> ?_
 refine zL fun K hK=> ?_
 refine zM zP zN [] rfl ?_
 all_goals refine zx 3 fun K9 hK9=> ?_
 all_goals simp only [push_cast,↓zK,↓zJ,↓reduceIte,zA,zB,zC,zD,zE,zF,zG,zH,zI,reduceCtorEq]
 all_goals repeat'(first|(apply zO<;>(intro hg;(try simp only [push_cast]at hg)))|(refine⟨_,hC,?_⟩;simp only [push_cast,↓zK,↓zJ,↓reduceIte,zA,zB,zC,zD,zE,zF,zG,zH,zI,reduceCtorEq])|apply And.intro|(intro hg;(try simp only [push_cast]at hg)))
 all_goals try exact gA
 all_goals first|(refine hK9 _ ?_;clear hK9 K9)|(simp only [push_cast];done)
 all_goals simp only [push_cast,↓zK,↓zJ,↓reduceIte,zA,zB,zC,zD,zE,zF,zG,zH,zI,reduceCtorEq]
 all_goals repeat'(first|(apply zO<;>(intro hg;(try simp only [push_cast]at hg)))|(refine⟨_,hC,?_⟩;simp only [push_cast,↓zK,↓zJ,↓reduceIte,zA,zB,zC,zD,zE,zF,zG,zH,zI,reduceCtorEq])|apply And.intro|(intro hg;(try simp only [push_cast]at hg)))
 all_goals try exact gA
 all_goals first|(refine hK _ ?_;clear hK K)|(simp only [push_cast];done)
 refine zT rfl (fun hc=> ?_) (fun hc=> ?_)<;>(try simp only [push_cast]at hc)
 ·
  refine zL fun K hK=> ?_
  refine zM zP zN [] rfl ?_
  simp only [push_cast,↓zK,↓zJ,↓reduceIte,zA,zB,zC,zD,zE,zF,zG,zH,zI,reduceCtorEq]
  repeat' apply And.intro
  all_goals try exact gB
  all_goals first|(refine hK _ ?_;clear hK K)|(simp only [push_cast];done)
  refine zX ?_
  (try simp only [zR,zS])
  refine⟨Or.inl rfl,?_⟩
  simp only [zb,push_cast,↓zK,↓zJ,↓reduceIte,zA,zB,zC,zD,zE,zF,zG,zH,zI,reduceCtorEq]
  rw [Qw (by with_reducible assumption)]
  (try rw [List.take_of_length_le (l:=r) (Nat.le_refl _)])
  all_goals first|rfl|exact⟨rfl,rfl⟩|(simp;done)
 ·
  refine zU ?_
  (try simp only [zR,zS,reduceIte,zF]);refine hK1 _ ?_
  refine zL fun K hK=> ?_
  refine zM zP zN [] rfl ?_
  simp only [push_cast,↓zK,↓zJ,↓reduceIte,zA,zB,zC,zD,zE,zF,zG,zH,zI,reduceCtorEq]
  repeat' apply And.intro
  all_goals try exact gB
  all_goals first|(refine hK _ ?_;clear hK K)|(simp only [push_cast];done)
  refine zL fun K2 hK2=> ?_
  refine zL fun K hK=> ?_
  refine zM zP zN [] rfl ?_
  simp only [push_cast,↓zK,↓zJ,↓reduceIte,zA,zB,zC,zD,zE,zF,zG,zH,zI,reduceCtorEq]
  repeat' apply And.intro
  all_goals try exact gB
  all_goals first|(refine hK _ ?_;clear hK K)|(simp only [push_cast];done)
  refine zV ?_
  refine zh [5,6,16,17,18,19,20,21,22,23,24,25,26,27,28,29,30,31,32,33,34] [80] (fun(q:Nat×List Int)=> [(6, .int .i64 q.1),(5, .sl 80 [] 0 (q.2.length+1) 2)]) (fun q=> []) (fun q=> [(80,⟨.ex,2,dI (v::q.2),none⟩)]) (fun q=>q.1≤r.length∧q.2=(r.take q.1).filter (fun x=> !decide (x=v))) (fun q=>r.length - q.1) (0,[]) ?_ ⟨by omega,rfl⟩ ?_
  ·
   simp only [show dI (v::([]:List Int))= [D.int .i64 v]from rfl]
   refine zY rfl ?_ ?_ ?_<;>simp only [zf,ze,push_cast,↓zK,↓zJ,↓reduceIte,zA,zB,zC,zD,zE,zF,zG,zH,zI,reduceCtorEq]
  ·rintro⟨k,o⟩ ⟨hk,ho⟩ KL0 hL0
   simp only at hk ho
   have hol:o.length≤r.length:=by rw [ho];exact XE _ _ _
   simp only [push_cast,↓zK,↓zJ,↓reduceIte,zA,zB,zC,zD,zE,zF,zG,zH,zI,reduceCtorEq]
   refine zL fun K3 hK3=> ?_
   refine zL fun K hK=> ?_
   refine zM zP zN [] rfl ?_
   simp only [push_cast,↓zK,↓zJ,↓reduceIte,zA,zB,zC,zD,zE,zF,zG,zH,zI,reduceCtorEq]
   repeat' apply And.intro
   all_goals try exact gB
   all_goals first|(refine hK _ ?_;clear hK K)|(simp only [push_cast];done)
   refine zT rfl (fun hc=> ?_) (fun hc=> ?_)<;>(try simp only [push_cast]at hc)
   ·
    refine zU ?_
    (try simp only [zR,zS,reduceIte,zF]);refine hK3 _ ?_
    refine zL fun K4 hK4=> ?_
    refine zV ?_
    refine zL fun K hK=> ?_
    refine zM zP zN [] rfl ?_
    simp only [push_cast,↓zK,↓zJ,↓reduceIte,zA,zB,zC,zD,zE,zF,zG,zH,zI,reduceCtorEq]
    repeat' apply And.intro
    all_goals try exact gB
    all_goals first|(refine hK _ ?_;clear hK K)|(simp only [push_cast];done)
    refine zT rfl (fun hc=> ?_) (fun hc=> ?_)<;>(try simp only [push_cast]at hc)
    ·
     refine zM zP zN [] rfl ?_
     simp only [push_cast,↓zK,↓zJ,↓reduceIte,zA,zB,zC,zD,zE,zF,zG,zH,zI,reduceCtorEq]
     repeat' apply And.intro
     all_goals try exact gB
     (try simp only [zR,zS,reduceIte,zF]);refine hK4 _ ?_
     refine zM zP zN [] rfl ?_
     simp only [push_cast,↓zK,↓zJ,↓reduceIte,zA,zB,zC,zD,zE,zF,zG,zH,zI,reduceCtorEq]
     repeat' apply And.intro
     all_goals try exact gB
     refine hL0 _ ⟨(k+1,o++ [gi r k]),⟨by simp only;omega,by simp only;rw [Yp (by omega) (by simp only [decide_eq_false hc,Bool.not_false]),←ho]⟩,by simp only;omega,?_⟩
     refine zY rfl ?_ ?_ ?_<;>simp only [zf,ze,push_cast,↓zK,↓zJ,↓reduceIte,zA,zB,zC,zD,zE,zF,zG,zH,zI,reduceCtorEq]
     all_goals(try(rw [List.length_append];rfl))
     all_goals(try(first|rfl|(simp;done)))
    ·
     refine zU ?_
     (try simp only [zR,zS,reduceIte,zF]);refine hK4 _ ?_
     refine zM zP zN [] rfl ?_
     simp only [push_cast,↓zK,↓zJ,↓reduceIte,zA,zB,zC,zD,zE,zF,zG,zH,zI,reduceCtorEq]
     repeat' apply And.intro
     all_goals try exact gB
     refine hL0 _ ⟨(k+1,o),⟨by simp only;omega,by simp only;rw [QH (by omega) (by simp only [decide_eq_true hc,Bool.not_true]),←ho]⟩,by simp only;omega,?_⟩
     refine zY rfl ?_ ?_ ?_<;>simp only [zf,ze,push_cast,↓zK,↓zJ,↓reduceIte,zA,zB,zC,zD,zE,zF,zG,zH,zI,reduceCtorEq]
     all_goals(try(rw [List.length_append];rfl))
     all_goals(try(first|rfl|(simp;done)))
   ·
    refine zk ?_
    have hkk:k=r.length:=by omega
    subst hkk
    rw [List.take_length]at ho
    (try simp only [zR,zS,reduceIte,zF]);refine hK2 _ ?_
    refine zL fun K hK=> ?_
    refine zM zP zN [] rfl ?_
    simp only [push_cast,↓zK,↓zJ,↓reduceIte,zA,zB,zC,zD,zE,zF,zG,zH,zI,reduceCtorEq]
    repeat' apply And.intro
    all_goals try exact gB
    all_goals first|(refine hK _ ?_;clear hK K)|(simp only [push_cast];done)
    refine zX ?_
    (try simp only [zR,zS])
    refine⟨Or.inl rfl,?_⟩
    simp only [zb,push_cast,↓zK,↓zJ,↓reduceIte,zA,zB,zC,zD,zE,zF,zG,zH,zI,reduceCtorEq]
    rw [XW (by with_reducible assumption)]
    subst ho
    all_goals first|rfl|exact⟨rfl,rfl⟩|(simp;done)
set_option maxRecDepth 20000 in
set_option maxHeartbeats 4000000 in
theorem zAy (f:Fm)(hf:f.Ln 1048576)(r:List Int)(hr:r.length≤1048576)(v:Int)(hv:vh f r=true):Fn Try.prog tyT 62 [.agg (dFm f), .c (DI r), .c (.int .i64 v)] [.c (.int .i64 (yp f r v))]:=by
 have h1:=hf.names
 have h2:=hf.sets.1
 unfold LnI at h1
 have hrr: ∀v,(gl f.sets v).length≤1048576:=fun v=>qt hf.sets v
 have hI:=Jk r v hr
 have hx:=zCu r v
 obtain⟨m9,hm9⟩: ∃m9,m9=(ixB r v+1).toNat:=⟨_,rfl⟩
 have hsl:=xZ (r.take m9)
 rw [List.length_take]at hsl
 have hkl:(r.take m9).length=m9:=by rw [List.length_take];omega
 have hSo:=zBn (r.take m9) (by omega)
 have hH:=WA f h2 hrr (yF (r.take m9)) (by omega)
 have hset:=zHs hv m9
 unfold dFm at hH
 unfold dFm
 refine yB (fn:=Try.f62) (ts:= [6]) Try.func62 (by kernel_rfl) rfl rfl (by rw [Try.ntmps62];exact Nat.le_of_ble_eq_true rfl) rfl (by simp only [szA,List.mem_cons,List.not_mem_nil,or_false,forall_eq_or_imp,forall_eq,VT.cells,szL];try decide) ?_
 rw [Try.ntmps62]
 simp only [push_cast,↓zK,↓zJ,↓reduceIte,zA,zB,zC,zD,zE,zF,zG,zH,zI,reduceCtorEq]
 refine zL fun K hK=> ?_
 refine zM zP zN [] rfl ?_
 simp only [push_cast,↓zK,↓zJ,↓reduceIte,zA,zB,zC,zD,zE,zF,zG,zH,zI,reduceCtorEq]
 repeat' apply And.intro
 all_goals try exact gB
 all_goals first|(refine hK _ ?_;clear hK K)|(simp only [push_cast];done)
 refine zL fun K hK=> ?_
 refine zM zP zN [] rfl ?_
 all_goals refine zx 3 fun K9 hK9=> ?_
 all_goals simp only [push_cast,↓zK,↓zJ,↓reduceIte,zA,zB,zC,zD,zE,zF,zG,zH,zI,reduceCtorEq]
 all_goals repeat'(first|(apply zO<;>(intro hg;(try simp only [push_cast]at hg)))|(refine⟨_,hI,?_⟩;simp only [push_cast,↓zK,↓zJ,↓reduceIte,zA,zB,zC,zD,zE,zF,zG,zH,zI,reduceCtorEq])|apply And.intro|(intro hg;(try simp only [push_cast]at hg)))
 all_goals try exact gA
 all_goals first|(refine hK9 _ ?_;clear hK9 K9)|(simp only [push_cast];done)
 all_goals simp only [push_cast,↓zK,↓zJ,↓reduceIte,zA,zB,zC,zD,zE,zF,zG,zH,zI,reduceCtorEq]
 all_goals repeat'(first|(apply zO<;>(intro hg;(try simp only [push_cast]at hg)))|(refine⟨_,hI,?_⟩;simp only [push_cast,↓zK,↓zJ,↓reduceIte,zA,zB,zC,zD,zE,zF,zG,zH,zI,reduceCtorEq])|apply And.intro|(intro hg;(try simp only [push_cast]at hg)))
 all_goals try exact gA
 all_goals first|(refine hK _ ?_;clear hK K)|(simp only [push_cast];done)
 refine zL fun K hK=> ?_
 refine zM zP zN [] rfl ?_
 simp only [push_cast,↓zK,↓zJ,↓reduceIte,zA,zB,zC,zD,zE,zF,zG,zH,zI,reduceCtorEq]
 repeat' apply And.intro
 all_goals try exact gB
 all_goals first|(refine hK _ ?_;clear hK K)|(simp only [push_cast];done)
 rw [←hm9]
 (try rw [List.take_of_length_le (l:=r.take m9) (by omega)])
 rw [show AV.sl 128 [] 0 m9 2=AV.sl 128 [] 0 (r.take m9).length 2 from by rw [hkl]]
 refine zL fun K hK=> ?_
 refine zBD 20 [0] [(0,2,dI (yF (r.take m9)))] zP zN [] rfl ?_
 simp only [push_cast,↓zK,↓zJ,↓reduceIte,zA,zB,zC,zD,zE,zF,zG,zH,zI,reduceCtorEq]
 all_goals repeat'(first|(apply zO<;>(intro hg;(try simp only [push_cast]at hg)))|(refine⟨_,hSo,?_⟩;simp only [push_cast,↓zK,↓zJ,↓reduceIte,zA,zB,zC,zD,zE,zF,zG,zH,zI,reduceCtorEq])|apply And.intro|(intro hg;(try simp only [push_cast]at hg)))
 all_goals try exact gA
 all_goals first|(refine hK _ ?_;clear hK K)|(simp only [push_cast];done)
 rw [show AV.sl 128 [] 0 (r.take m9).length 2=AV.sl 128 [] 0 (yF (r.take m9)).length 2 from by rw [xZ]]
 refine zL fun K hK=> ?_
 refine zM zP zN [] rfl ?_
 simp only [push_cast,↓zK,↓zJ,↓reduceIte,zA,zB,zC,zD,zE,zF,zG,zH,zI,reduceCtorEq]
 repeat' apply And.intro
 all_goals try exact gB
 all_goals first|(refine hK _ ?_;clear hK K)|(simp only [push_cast];done)
 refine zL fun K1 hK1=> ?_
 refine zL fun K hK=> ?_
 refine zM zP zN [] rfl ?_
 simp only [push_cast,↓zK,↓zJ,↓reduceIte,zA,zB,zC,zD,zE,zF,zG,zH,zI,reduceCtorEq]
 repeat' apply And.intro
 all_goals try exact gB
 all_goals first|(refine hK _ ?_;clear hK K)|(simp only [push_cast];done)
 refine zT rfl (fun hc=> ?_) (fun hc=> ?_)<;>(try simp only [push_cast]at hc)
 ·
  refine zL fun K hK=> ?_
  refine zM zP zN [] rfl ?_
  simp only [push_cast,↓zK,↓zJ,↓reduceIte,zA,zB,zC,zD,zE,zF,zG,zH,zI,reduceCtorEq]
  repeat' apply And.intro
  all_goals try exact gB
  all_goals first|(refine hK _ ?_;clear hK K)|(simp only [push_cast];done)
  refine zL fun K2 hK2=> ?_
  refine zL fun K hK=> ?_
  refine zM zP zN [] rfl ?_
  all_goals refine zx 3 fun K9 hK9=> ?_
  all_goals simp only [push_cast,↓zK,↓zJ,↓reduceIte,zA,zB,zC,zD,zE,zF,zG,zH,zI,reduceCtorEq]
  all_goals repeat'(first|(apply zO<;>(intro hg;(try simp only [push_cast]at hg)))|(refine⟨_,hH,?_⟩;simp only [push_cast,↓zK,↓zJ,↓reduceIte,zA,zB,zC,zD,zE,zF,zG,zH,zI,reduceCtorEq])|apply And.intro|(intro hg;(try simp only [push_cast]at hg)))
  all_goals try exact gA
  all_goals first|(refine hK9 _ ?_;clear hK9 K9)|(simp only [push_cast];done)
  all_goals simp only [push_cast,↓zK,↓zJ,↓reduceIte,zA,zB,zC,zD,zE,zF,zG,zH,zI,reduceCtorEq]
  all_goals repeat'(first|(apply zO<;>(intro hg;(try simp only [push_cast]at hg)))|(refine⟨_,hH,?_⟩;simp only [push_cast,↓zK,↓zJ,↓reduceIte,zA,zB,zC,zD,zE,zF,zG,zH,zI,reduceCtorEq])|apply And.intro|(intro hg;(try simp only [push_cast]at hg)))
  all_goals try exact gA
  all_goals first|(refine hK _ ?_;clear hK K)|(simp only [push_cast];done)
  refine zT rfl (fun hc=> ?_) (fun hc=> ?_)<;>(try simp only [push_cast]at hc)
  ·
   refine zL fun K hK=> ?_
   refine zM zP zN [] rfl ?_
   simp only [push_cast,↓zK,↓zJ,↓reduceIte,zA,zB,zC,zD,zE,zF,zG,zH,zI,reduceCtorEq]
   repeat' apply And.intro
   all_goals try exact gB
   all_goals first|(refine hK _ ?_;clear hK K)|(simp only [push_cast];done)
   refine zX ?_
   (try simp only [zR,zS])
   refine⟨Or.inl rfl,?_⟩
   simp only [zb,push_cast,↓zK,↓zJ,↓reduceIte,zA,zB,zC,zD,zE,zF,zG,zH,zI,reduceCtorEq]
   all_goals exact zBV (by omega) hm9 hset (by with_reducible assumption)
  ·
   refine zU ?_
   (try simp only [zR,zS,reduceIte,zF]);refine hK2 _ ?_
   refine zL fun K hK=> ?_
   refine zM zP zN [] rfl ?_
   simp only [push_cast,↓zK,↓zJ,↓reduceIte,zA,zB,zC,zD,zE,zF,zG,zH,zI,reduceCtorEq]
   repeat' apply And.intro
   all_goals try exact gB
   all_goals first|(refine hK _ ?_;clear hK K)|(simp only [push_cast];done)
   refine zX ?_
   (try simp only [zR,zS])
   refine⟨Or.inl rfl,?_⟩
   simp only [zb,push_cast,↓zK,↓zJ,↓reduceIte,zA,zB,zC,zD,zE,zF,zG,zH,zI,reduceCtorEq]
   all_goals exact zBW (by omega) hm9 hset (by with_reducible assumption)
 ·
  refine zU ?_
  (try simp only [zR,zS,reduceIte,zF]);refine hK1 _ ?_
  refine zL fun K3 hK3=> ?_
  refine zL fun K hK=> ?_
  refine zM zP zN [] rfl ?_
  all_goals refine zx 3 fun K9 hK9=> ?_
  all_goals simp only [push_cast,↓zK,↓zJ,↓reduceIte,zA,zB,zC,zD,zE,zF,zG,zH,zI,reduceCtorEq]
  all_goals repeat'(first|(apply zO<;>(intro hg;(try simp only [push_cast]at hg)))|(refine⟨_,hH,?_⟩;simp only [push_cast,↓zK,↓zJ,↓reduceIte,zA,zB,zC,zD,zE,zF,zG,zH,zI,reduceCtorEq])|apply And.intro|(intro hg;(try simp only [push_cast]at hg)))
  all_goals try exact gA
  all_goals first|(refine hK9 _ ?_;clear hK9 K9)|(simp only [push_cast];done)
  all_goals simp only [push_cast,↓zK,↓zJ,↓reduceIte,zA,zB,zC,zD,zE,zF,zG,zH,zI,reduceCtorEq]
  all_goals repeat'(first|(apply zO<;>(intro hg;(try simp only [push_cast]at hg)))|(refine⟨_,hH,?_⟩;simp only [push_cast,↓zK,↓zJ,↓reduceIte,zA,zB,zC,zD,zE,zF,zG,zH,zI,reduceCtorEq])|apply And.intro|(intro hg;(try simp only [push_cast]at hg)))
  all_goals try exact gA
  all_goals first|(refine hK _ ?_;clear hK K)|(simp only [push_cast];done)
  refine zT rfl (fun hc=> ?_) (fun hc=> ?_)<;>(try simp only [push_cast]at hc)
  ·
   refine zM zP zN [] rfl ?_
   simp only [push_cast,↓zK,↓zJ,↓reduceIte,zA,zB,zC,zD,zE,zF,zG,zH,zI,reduceCtorEq]
   repeat' apply And.intro
   all_goals try exact gB
   (try simp only [zR,zS,reduceIte,zF]);refine hK3 _ ?_
   refine zL fun K hK=> ?_
   refine zM zP zN [] rfl ?_
   simp only [push_cast,↓zK,↓zJ,↓reduceIte,zA,zB,zC,zD,zE,zF,zG,zH,zI,reduceCtorEq]
   repeat' apply And.intro
   all_goals try exact gB
   all_goals first|(refine hK _ ?_;clear hK K)|(simp only [push_cast];done)
   refine zX ?_
   (try simp only [zR,zS])
   refine⟨Or.inl rfl,?_⟩
   simp only [zb,push_cast,↓zK,↓zJ,↓reduceIte,zA,zB,zC,zD,zE,zF,zG,zH,zI,reduceCtorEq]
   all_goals first|exact Jc (by omega) hm9 hset (by with_reducible assumption)|exact Jb (by omega) hm9 hset (by with_reducible assumption)
  ·
   refine zU ?_
   (try simp only [zR,zS,reduceIte,zF]);refine hK3 _ ?_
   refine zL fun K hK=> ?_
   refine zM zP zN [] rfl ?_
   simp only [push_cast,↓zK,↓zJ,↓reduceIte,zA,zB,zC,zD,zE,zF,zG,zH,zI,reduceCtorEq]
   repeat' apply And.intro
   all_goals try exact gB
   all_goals first|(refine hK _ ?_;clear hK K)|(simp only [push_cast];done)
   refine zX ?_
   (try simp only [zR,zS])
   refine⟨Or.inl rfl,?_⟩
   simp only [zb,push_cast,↓zK,↓zJ,↓reduceIte,zA,zB,zC,zD,zE,zF,zG,zH,zI,reduceCtorEq]
   all_goals first|exact Jc (by omega) hm9 hset (by with_reducible assumption)|exact Jb (by omega) hm9 hset (by with_reducible assumption)
theorem KE {f:Fm}{r:List Int}{v:Int}{k:Nat}(hk:k<r.length)(h: ∀j,j<k→¬gi r j=v)(he:gi r k=v):yp f r v=2*k+(if xU f.sets (yn f.names (r.take (k+1)))then 2 else 1):=by
 have hf:yW r v=k:=Yd hk h he
 unfold yp
 rw [wx,hf,decide_eq_true hk]
 rfl
theorem jM {f:Fm}{r:List Int}{v:Int}(h: ∀j,j<r.length→¬gi r j=v):yp f r v=if xU f.sets []then 0 else 1:=by
 unfold yp
 rw [wx,ww h,decide_eq_false (by omega)]
 rfl
set_option maxRecDepth 20000 in
set_option maxHeartbeats 4000000 in
theorem zCx (f:Fm)(hf:f.Ln 1048576)(r:List Int)(hr:r.length≤1048576)(v:Int):Fn Try.prog tyT 64 [.agg (dFm f), .c (DI r), .c (.int .i64 v)] [.c (.int .i64 (yp f r v))]:=by
 have h1:=hf.names
 have h2:=hf.sets.1
 unfold LnI at h1
 have hrr: ∀v,(gl f.sets v).length≤1048576:=fun v=>qt hf.sets v
 have hO:=fun k=>zFg f.names (r.take k) h1 (by rw [List.length_take];omega)
 have hH:=fun t ht=>uE f h2 hrr t ht
 unfold dFm at hH
 unfold dFm
 refine yB (fn:=Try.f64) (ts:= [6]) Try.func64 (by kernel_rfl) rfl rfl (by rw [Try.ntmps64];exact Nat.le_of_ble_eq_true rfl) rfl (by simp only [szA,List.mem_cons,List.not_mem_nil,or_false,forall_eq_or_imp,forall_eq,VT.cells,szL];try decide) ?_
 rw [Try.ntmps64]
 simp only [push_cast,↓zK,↓zJ,↓reduceIte,zA,zB,zC,zD,zE,zF,zG,zH,zI,reduceCtorEq]
 refine zL fun K hK=> ?_
 refine zM zP zN [] rfl ?_
 simp only [push_cast,↓zK,↓zJ,↓reduceIte,zA,zB,zC,zD,zE,zF,zG,zH,zI,reduceCtorEq]
 repeat' apply And.intro
 all_goals try exact gB
 all_goals first|(refine hK _ ?_;clear hK K)|(simp only [push_cast];done)
 refine zL fun K1 hK1=> ?_
 refine zL fun K hK=> ?_
 refine zM zP zN [] rfl ?_
 simp only [push_cast,↓zK,↓zJ,↓reduceIte,zA,zB,zC,zD,zE,zF,zG,zH,zI,reduceCtorEq]
 repeat' apply And.intro
 all_goals try exact gB
 all_goals first|(refine hK _ ?_;clear hK K)|(simp only [push_cast];done)
 refine zV ?_
 refine zh [6,7,8,9,10,11,12,13,14,15,16,17,18,19,20,21,22,23,24,25,26,27,28,29,30,31,32,33,34] [] (fun(k:Nat)=> [(7, .int .i64 k)]) (fun k=> []) (fun k=> []) (fun k=>k≤r.length∧∀j,j<k→¬gi r j=v) (fun k=>r.length - k) 0 ?_ ⟨by omega,fun j hj=>by omega⟩ ?_
 ·
  refine zY rfl ?_ ?_ ?_<;>simp only [zf,ze,push_cast,↓zK,↓zJ,↓reduceIte,zA,zB,zC,zD,zE,zF,zG,zH,zI,reduceCtorEq]
 ·rintro k ⟨hk,hall⟩ KL0 hL0
  simp only [push_cast,↓zK,↓zJ,↓reduceIte,zA,zB,zC,zD,zE,zF,zG,zH,zI,reduceCtorEq]
  refine zL fun K2 hK2=> ?_
  refine zL fun K hK=> ?_
  refine zM zP zN [] rfl ?_
  simp only [push_cast,↓zK,↓zJ,↓reduceIte,zA,zB,zC,zD,zE,zF,zG,zH,zI,reduceCtorEq]
  repeat' apply And.intro
  all_goals try exact gB
  all_goals first|(refine hK _ ?_;clear hK K)|(simp only [push_cast];done)
  refine zT rfl (fun hc=> ?_) (fun hc=> ?_)<;>(try simp only [push_cast]at hc)
  ·
   refine zU ?_
   (try simp only [zR,zS,reduceIte,zF]);refine hK2 _ ?_
   refine zL fun K3 hK3=> ?_
   refine zV ?_
   refine zL fun K hK=> ?_
   refine zM zP zN [] rfl ?_
   simp only [push_cast,↓zK,↓zJ,↓reduceIte,zA,zB,zC,zD,zE,zF,zG,zH,zI,reduceCtorEq]
   repeat' apply And.intro
   all_goals try exact gB
   all_goals first|(refine hK _ ?_;clear hK K)|(simp only [push_cast];done)
   refine zT rfl (fun hc=> ?_) (fun hc=> ?_)<;>(try simp only [push_cast]at hc)
   ·
    refine zL fun K4 hK4=> ?_
    refine zL fun K hK=> ?_
    refine zw false zP zN yj ?_ rfl ?_
    ·kernel_rfl
    intro E hE
    all_goals refine yJ 8 (by decide) fun K9 hK9=> ?_
    all_goals simp only [push_cast,↓zK,↓zJ,↓reduceIte,zA,zB,zC,zD,zE,zF,zG,zH,zI,reduceCtorEq]
    all_goals repeat'(first|(apply zO<;>(intro hg;(try simp only [push_cast]at hg)))|(refine⟨_,hO (k+1),?_⟩;simp only [push_cast,↓zK,↓zJ,↓reduceIte,zA,zB,zC,zD,zE,zF,zG,zH,zI,reduceCtorEq])|apply And.intro|(intro hg;(try simp only [push_cast]at hg)))
    all_goals try exact gA
    all_goals first|(refine hK9 _ _ ?_;clear hK9 K9)|(simp only [push_cast];done)
    all_goals refine yJ 1 (by decide) fun K9 hK9=> ?_
    all_goals simp only [push_cast,↓zK,↓zJ,↓reduceIte,zA,zB,zC,zD,zE,zF,zG,zH,zI,reduceCtorEq]
    all_goals repeat'(first|(apply zO<;>(intro hg;(try simp only [push_cast]at hg)))|(refine⟨_,hH (yn f.names (r.take (k+1))) (Nat.le_trans (Yv _ _) h1),?_⟩;simp only [push_cast,↓zK,↓zJ,↓reduceIte,zA,zB,zC,zD,zE,zF,zG,zH,zI,reduceCtorEq])|apply And.intro|(intro hg;(try simp only [push_cast]at hg)))
    all_goals try exact gA
    all_goals first|(refine hK9 _ _ ?_;clear hK9 K9)|(simp only [push_cast];done)
    all_goals simp only [push_cast,↓zK,↓zJ,↓reduceIte,zA,zB,zC,zD,zE,zF,zG,zH,zI,reduceCtorEq]
    all_goals repeat'(first|(apply zO<;>(intro hg;(try simp only [push_cast]at hg)))|(refine⟨_,hO (k+1),?_⟩;simp only [push_cast,↓zK,↓zJ,↓reduceIte,zA,zB,zC,zD,zE,zF,zG,zH,zI,reduceCtorEq])|(refine⟨_,hH (yn f.names (r.take (k+1))) (Nat.le_trans (Yv _ _) h1),?_⟩;simp only [push_cast,↓zK,↓zJ,↓reduceIte,zA,zB,zC,zD,zE,zF,zG,zH,zI,reduceCtorEq])|apply And.intro|(intro hg;(try simp only [push_cast]at hg)))
    all_goals first|exact gA|(refine hE _ _ ?_ ?_;kernel_rfl)|skip
    all_goals clear hE E
    all_goals first|(refine hK _ ?_;clear hK K)|(simp only [push_cast];done)
    refine zT rfl (fun hc=> ?_) (fun hc=> ?_)<;>(try simp only [push_cast]at hc)
    ·
     refine zL fun K hK=> ?_
     refine zM zP zN [] rfl ?_
     simp only [push_cast,↓zK,↓zJ,↓reduceIte,zA,zB,zC,zD,zE,zF,zG,zH,zI,reduceCtorEq]
     repeat' apply And.intro
     all_goals try exact gB
     all_goals first|(refine hK _ ?_;clear hK K)|(simp only [push_cast];done)
     refine zX ?_
     (try simp only [zR,zS])
     refine⟨Or.inl rfl,?_⟩
     simp only [zb,push_cast,↓zK,↓zJ,↓reduceIte,zA,zB,zC,zD,zE,zF,zG,zH,zI,reduceCtorEq]
     rw [KE (k:=k) (by omega) hall (by omega),show xU f.sets (yn f.names (r.take (k+1)))=true from by with_reducible assumption]
     rfl
    ·
     refine zU ?_
     (try simp only [zR,zS,reduceIte,zF]);refine hK4 _ ?_
     refine zL fun K hK=> ?_
     refine zM zP zN [] rfl ?_
     simp only [push_cast,↓zK,↓zJ,↓reduceIte,zA,zB,zC,zD,zE,zF,zG,zH,zI,reduceCtorEq]
     repeat' apply And.intro
     all_goals try exact gB
     all_goals first|(refine hK _ ?_;clear hK K)|(simp only [push_cast];done)
     refine zX ?_
     (try simp only [zR,zS])
     refine⟨Or.inl rfl,?_⟩
     simp only [zb,push_cast,↓zK,↓zJ,↓reduceIte,zA,zB,zC,zD,zE,zF,zG,zH,zI,reduceCtorEq]
     rw [KE (k:=k) (by omega) hall (by omega),show xU f.sets (yn f.names (r.take (k+1)))=false from by with_reducible assumption]
     rfl
   ·
    refine zU ?_
    (try simp only [zR,zS,reduceIte,zF]);refine hK3 _ ?_
    refine zM zP zN [] rfl ?_
    simp only [push_cast,↓zK,↓zJ,↓reduceIte,zA,zB,zC,zD,zE,zF,zG,zH,zI,reduceCtorEq]
    repeat' apply And.intro
    all_goals try exact gB
    refine hL0 _ ⟨k+1,⟨by omega,fun j hj=>(by
      by_cases hjk:j=k
      ·subst hjk;omega
      ·exact hall j (by omega))⟩,by omega,?_⟩
    refine zY rfl ?_ ?_ ?_<;>simp only [zf,ze,push_cast,↓zK,↓zJ,↓reduceIte,zA,zB,zC,zD,zE,zF,zG,zH,zI,reduceCtorEq]
  ·
   refine zk ?_
   (try simp only [zR,zS,reduceIte,zF]);refine hK1 _ ?_
   refine zL fun K5 hK5=> ?_
   refine zL fun K hK=> ?_
   refine zM zP zN [] rfl ?_
   all_goals refine zx 3 fun K9 hK9=> ?_
   all_goals simp only [push_cast,↓zK,↓zJ,↓reduceIte,zA,zB,zC,zD,zE,zF,zG,zH,zI,reduceCtorEq]
   all_goals repeat'(first|(apply zO<;>(intro hg;(try simp only [push_cast]at hg)))|(refine⟨_,hH [] (by simp),?_⟩;simp only [push_cast,↓zK,↓zJ,↓reduceIte,zA,zB,zC,zD,zE,zF,zG,zH,zI,reduceCtorEq])|apply And.intro|(intro hg;(try simp only [push_cast]at hg)))
   all_goals try exact gA
   all_goals first|(refine hK9 _ ?_;clear hK9 K9)|(simp only [push_cast];done)
   all_goals simp only [push_cast,↓zK,↓zJ,↓reduceIte,zA,zB,zC,zD,zE,zF,zG,zH,zI,reduceCtorEq]
   all_goals repeat'(first|(apply zO<;>(intro hg;(try simp only [push_cast]at hg)))|(refine⟨_,hH [] (by simp),?_⟩;simp only [push_cast,↓zK,↓zJ,↓reduceIte,zA,zB,zC,zD,zE,zF,zG,zH,zI,reduceCtorEq])|apply And.intro|(intro hg;(try simp only [push_cast]at hg)))
   all_goals try exact gA
   all_goals first|(refine hK _ ?_;clear hK K)|(simp only [push_cast];done)
   refine zT rfl (fun hc=> ?_) (fun hc=> ?_)<;>(try simp only [push_cast]at hc)
   ·
    refine zL fun K hK=> ?_
    refine zM zP zN [] rfl ?_
    simp only [push_cast,↓zK,↓zJ,↓reduceIte,zA,zB,zC,zD,zE,zF,zG,zH,zI,reduceCtorEq]
    repeat' apply And.intro
    all_goals try exact gB
    all_goals first|(refine hK _ ?_;clear hK K)|(simp only [push_cast];done)
    refine zX ?_
    (try simp only [zR,zS])
    refine⟨Or.inl rfl,?_⟩
    simp only [zb,push_cast,↓zK,↓zJ,↓reduceIte,zA,zB,zC,zD,zE,zF,zG,zH,zI,reduceCtorEq]
    rw [jM (fun j hj=>hall j (by omega)),show xU f.sets []=true from by with_reducible assumption]
    rfl
   ·
    refine zU ?_
    (try simp only [zR,zS,reduceIte,zF]);refine hK5 _ ?_
    refine zL fun K hK=> ?_
    refine zM zP zN [] rfl ?_
    simp only [push_cast,↓zK,↓zJ,↓reduceIte,zA,zB,zC,zD,zE,zF,zG,zH,zI,reduceCtorEq]
    repeat' apply And.intro
    all_goals try exact gB
    all_goals first|(refine hK _ ?_;clear hK K)|(simp only [push_cast];done)
    refine zX ?_
    (try simp only [zR,zS])
    refine⟨Or.inl rfl,?_⟩
    simp only [zb,push_cast,↓zK,↓zJ,↓reduceIte,zA,zB,zC,zD,zE,zF,zG,zH,zI,reduceCtorEq]
    rw [jM (fun j hj=>hall j (by omega)),show xU f.sets []=false from by with_reducible assumption]
    rfl
def yq (u:Int)(r:List Int)(p:Plc):Bool:=decide (p.at_=u)&&decide (p.record=r)
theorem uS {u:Int}{r:List Int}{p:Plc}(h: ¬p.at_=u):yq u r p=false:=by unfold yq;rw [decide_eq_false h];rfl
theorem uT {u:Int}{r:List Int}{p:Plc}(h: ¬p.record=r):yq u r p=false:=by unfold yq;rw [decide_eq_false h,Bool.and_false]
theorem zEr {u:Int}{r:List Int}{p:Plc}(h:p.at_=u)(h2:p.record=r):yq u r p=true:=by unfold yq;rw [decide_eq_true h,decide_eq_true h2];rfl
def ixQ (p:Plc→Bool)(ps:List Plc):Int:=if ps.findIdx p<ps.length then ps.findIdx p else -1
theorem Ks {ps:List Plc}{k:Nat}(h:k<ps.length):ps[k]=gq ps k:=by
 have :=zGY h
 rw [List.getElem?_eq_getElem h]at this
 exact Option.some.inj this
theorem uB {p:Plc→Bool}{ps:List Plc}{k:Nat}(hk:k<ps.length)(h: ∀j,j<k→p (gq ps j)=false)(hp:p (gq ps k)=true):ixQ p ps=k:=by
 have e:ps.findIdx p=k:=by
  rw [List.findIdx_eq hk]
  refine⟨by rw [Ks hk];exact hp,fun j hj=> ?_⟩
  rw [Ks (by omega)]
  exact h j hj
 unfold ixQ
 rw [e,if_pos hk]
theorem Jx {p:Plc→Bool}{ps:List Plc}(h: ∀j,j<ps.length→p (gq ps j)=false):ixQ p ps= -1:=by
 have e: ¬ps.findIdx p<ps.length:=fun h9=>by
  have h1:=List.findIdx_getElem (w:=h9)
  rw [Ks h9,h _ h9]at h1
  cases h1
 unfold ixQ
 rw [if_neg e]
theorem zFe {ys:List Int}{x:Int}{k:Nat}(hk:k≤ys.length)(hs:ys.Pairwise (· ≤ ·))(h1: ∀j,k≤j→j<ys.length→gi ys j>x)(h2:k=0∨gi ys (k - 1)≤x):(ys.take k++ [x]++ys.drop k).Pairwise (· ≤ ·):=by
 have hg: ∀{j} (hj:j<ys.length),ys[j]=gi ys j:=fun{j} hj=>by
  have h3:=ZR (xs:=ys) (k:=j) hj
  rw [List.getElem?_eq_getElem hj]at h3
  exact Option.some.inj h3
 have hle: ∀y∈ys.take k,y≤x:=fun y hy=>by
  obtain⟨j,hj,rfl⟩:=List.mem_iff_getElem.1 hy
  rw [List.length_take]at hj
  rw [List.getElem_take]
  rcases h2 with h2|h2
  ·omega
  ·rw [←hg (j:=k - 1) (by omega)]at h2
   rcases Nat.lt_or_ge j (k - 1)with h|h
   ·have :=List.pairwise_iff_getElem.1 hs j (k - 1) (by omega) (by omega) h
    omega
   ·have :j=k - 1:=by omega
    subst this;exact h2
 have hgt: ∀y∈ys.drop k,x≤y:=fun y hy=>by
  obtain⟨j,hj,rfl⟩:=List.mem_iff_getElem.1 hy
  rw [List.length_drop]at hj
  rw [List.getElem_drop,hg (by omega)]
  have :=h1 (k+j) (by omega) (by omega)
  omega
 rw [List.append_assoc,List.pairwise_append]
 refine⟨hs.sublist (List.take_sublist _ _),?_,fun y hy z hz=> ?_⟩
 ·rw [List.singleton_append,List.pairwise_cons]
  exact⟨hgt,hs.sublist (List.drop_sublist _ _)⟩
 ·rw [List.singleton_append,List.mem_cons]at hz
  rcases hz with rfl|hz
  ·exact hle y hy
  ·have :=hle y hy;have :=hgt z hz;omega
theorem zIo {xs:List Int}{i k:Nat}(hi:i<xs.length)(hk:k≤i)(h1: ∀j,k≤j→j<i→gi (yF (xs.take i)) j>gi xs i)(h2:k=0∨gi (yF (xs.take i)) (k - 1)≤gi xs i):(yF (xs.take i)).take k++ [gi xs i]++(yF (xs.take i)).drop k=yF (xs.take (i+1)):=by
 have hl:(yF (xs.take i)).length=i:=by rw [xZ,List.length_take];omega
 refine wP ?_ (zFe (by omega) (qr _) (fun j h3 h4=>h1 j h3 (by omega)) h2) (qr _)
 refine List.Perm.trans ?_ (xj _).symm
 rw [Zn hi]
 refine List.Perm.trans (l₂:= [gi xs i]++((yF (xs.take i)).take k++(yF (xs.take i)).drop k)) ?_ ?_
 ·rw [←List.append_assoc]
  exact List.Perm.append_right _ List.perm_append_comm
 ·rw [List.take_append_drop]
  exact List.perm_append_comm.trans (List.Perm.append_right _ (xj _))
theorem zHK {xs:List Int}{i k:Nat}(hi:i<xs.length)(hk:k≤i)(h1: ∀j,k≤j→j<i→gi (yF (xs.take i)) j>gi xs i)(h2:k=0∨gi (yF (xs.take i)) (k - 1)≤gi xs i):List.take (k+1) (List.take k (List.take k (yF (xs.take i)))++ [gi xs i])++List.take (i - k) (List.drop k (yF (xs.take i)))=yF (xs.take (i+1)):=by
 have hl:(yF (xs.take i)).length=i:=by rw [xZ,List.length_take];omega
 rw [List.take_take,Nat.min_self,List.take_of_length_le (l:=(yF (xs.take i)).take k++ [gi xs i]) (by rw [List.length_append,List.length_take,List.length_singleton];omega),List.take_of_length_le (l:=(yF (xs.take i)).drop k) (by rw [List.length_drop];omega)]
 exact zIo hi hk h1 h2
set_option maxRecDepth 20000 in
set_option maxHeartbeats 4000000 in
theorem Kx (ps:List Plc)(ha:QLn 1048576 ps)(u:Int)(r:List Int)(hr:r.length≤1048576):Fn Try.prog tyT 36 [.c (.lst 72 (yz ps)), .c (.int .i64 u), .c (DI r)] [.c (.int .i64 (ixQ (yq u r) ps))]:=by
 have hl:=ha.1
 have hgl:=fun k=>Wn ha k
 refine yB (fn:=Try.f36) (ts:= [6]) Try.func36 (by kernel_rfl) rfl rfl (by rw [Try.ntmps36];exact Nat.le_of_ble_eq_true rfl) rfl (by simp only [szA,List.mem_cons,List.not_mem_nil,or_false,forall_eq_or_imp,forall_eq,VT.cells,szL];try decide) ?_
 rw [Try.ntmps36]
 simp only [push_cast,↓zK,↓zJ,↓reduceIte,zA,zB,zC,zD,zE,zF,zG,zH,zI,reduceCtorEq]
 refine zL fun K hK=> ?_
 refine zM zP zN [] rfl ?_
 all_goals simp only [push_cast,↓zK,↓zJ,↓reduceIte,zA,zB,zC,zD,zE,zF,zG,zH,zI,reduceCtorEq]
 all_goals repeat'(first|(apply zO<;>(intro hg;(try simp only [push_cast]at hg)))|apply And.intro|(intro hg;(try simp only [push_cast]at hg)))
 all_goals first|exact gA|(exact zW (by omega))|skip
 all_goals first|(refine hK _ ?_;clear hK K)|(simp only [push_cast];done)
 refine zL fun K1 hK1=> ?_
 refine zL fun K hK=> ?_
 refine zM zP zN [] rfl ?_
 all_goals simp only [push_cast,↓zK,↓zJ,↓reduceIte,zA,zB,zC,zD,zE,zF,zG,zH,zI,reduceCtorEq]
 all_goals repeat'(first|(apply zO<;>(intro hg;(try simp only [push_cast]at hg)))|apply And.intro|(intro hg;(try simp only [push_cast]at hg)))
 all_goals first|exact gA|(exact zW (by omega))|skip
 all_goals first|(refine hK _ ?_;clear hK K)|(simp only [push_cast];done)
 refine zV ?_
 refine zh [6,7,8,9,10,11,12,13,14,15,16,17,18,19,20,21,22,23,24,25,26,27,28,29,30] [] (fun(k:Nat)=> [(7, .int .i64 k)]) (fun k=> []) (fun k=> []) (fun k=>k≤ps.length∧∀j,j<k→yq u r (gq ps j)=false) (fun k=>ps.length - k) 0 ?_ ⟨by omega,fun j hj=>by omega⟩ ?_
 ·
  refine zY rfl ?_ ?_ ?_<;>simp only [zf,ze,push_cast,↓zK,↓zJ,↓reduceIte,zA,zB,zC,zD,zE,zF,zG,zH,zI,reduceCtorEq]
 ·rintro k ⟨hk,hall⟩ KL0 hL0
  simp only [push_cast,↓zK,↓zJ,↓reduceIte,zA,zB,zC,zD,zE,zF,zG,zH,zI,reduceCtorEq]
  refine zL fun K2 hK2=> ?_
  refine zL fun K hK=> ?_
  refine zM zP zN [] rfl ?_
  all_goals simp only [push_cast,↓zK,↓zJ,↓reduceIte,zA,zB,zC,zD,zE,zF,zG,zH,zI,reduceCtorEq]
  all_goals repeat'(first|(apply zO<;>(intro hg;(try simp only [push_cast]at hg)))|apply And.intro|(intro hg;(try simp only [push_cast]at hg)))
  all_goals first|exact gA|(exact zW (by omega))|skip
  all_goals first|(refine hK _ ?_;clear hK K)|(simp only [push_cast];done)
  refine zT rfl (fun hc=> ?_) (fun hc=> ?_)<;>(try simp only [push_cast]at hc)
  ·
   refine zU ?_
   (try simp only [zR,zS,reduceIte,zF]);refine hK2 _ ?_
   refine zL fun K3 hK3=> ?_
   refine zV ?_
   refine zL fun K hK=> ?_
   refine zd false zP zN ?_ rfl ?_
   ·kernel_rfl
   all_goals refine zj 15 fun K9 hK9=> ?_
   all_goals simp only [push_cast,↓zK,↓zJ,↓reduceIte,zA,zB,zC,zD,zE,zF,zG,zH,zI,reduceCtorEq]
   all_goals repeat'(first|(apply zO<;>(intro hg;(try simp only [push_cast]at hg)))|(refine⟨_,yk (gq ps k).record r (hgl k) hr,?_⟩;simp only [push_cast,↓zK,↓zJ,↓reduceIte,zA,zB,zC,zD,zE,zF,zG,zH,zI,reduceCtorEq])|apply And.intro|(intro hg;(try simp only [push_cast]at hg)))
   all_goals first|exact gA|(exact zW (by omega))|skip
   all_goals first|(refine hK9 _ ?_;clear hK9 K9)|(simp only [push_cast];done)
   all_goals simp only [push_cast,↓zK,↓zJ,↓reduceIte,zA,zB,zC,zD,zE,zF,zG,zH,zI,reduceCtorEq]
   all_goals repeat'(first|(apply zO<;>(intro hg;(try simp only [push_cast]at hg)))|(refine⟨_,yk (gq ps k).record r (hgl k) hr,?_⟩;simp only [push_cast,↓zK,↓zJ,↓reduceIte,zA,zB,zC,zD,zE,zF,zG,zH,zI,reduceCtorEq])|apply And.intro|(intro hg;(try simp only [push_cast]at hg)))
   all_goals first|exact gA|(exact zW (by omega))|skip
   all_goals first|(refine hK _ ?_;clear hK K)|(simp only [push_cast];done)
   all_goals refine zT rfl (fun hc=> ?_) (fun hc=> ?_)
   all_goals(first|(cases hc;done)|skip)
   all_goals(try simp only [push_cast]at hc)
   all_goals first
    |(
      refine zU ?_
      (try simp only [zR,zS,reduceIte,zF]);refine hK3 _ ?_
      refine zM zP zN [] rfl ?_
      all_goals simp only [push_cast,↓zK,↓zJ,↓reduceIte,zA,zB,zC,zD,zE,zF,zG,zH,zI,reduceCtorEq]
      all_goals repeat'(first|(apply zO<;>(intro hg;(try simp only [push_cast]at hg)))|apply And.intro|(intro hg;(try simp only [push_cast]at hg)))
      all_goals first|exact gA|(exact zW (by omega))|skip
      refine hL0 _ ⟨k+1,⟨by omega,fun j hj=>(by
        by_cases hjk:j=k
        ·subst hjk;first|exact uS (by omega)|exact uT (by simpa using hc)|exact uT (by with_reducible assumption)
        ·exact hall j (by omega))⟩,by omega,?_⟩
      refine zY rfl ?_ ?_ ?_<;>simp only [zf,ze,push_cast,↓zK,↓zJ,↓reduceIte,zA,zB,zC,zD,zE,zF,zG,zH,zI,reduceCtorEq]
      done)
    |(
      refine zL fun K hK=> ?_
      refine zM zP zN [] rfl ?_
      all_goals simp only [push_cast,↓zK,↓zJ,↓reduceIte,zA,zB,zC,zD,zE,zF,zG,zH,zI,reduceCtorEq]
      all_goals repeat'(first|(apply zO<;>(intro hg;(try simp only [push_cast]at hg)))|apply And.intro|(intro hg;(try simp only [push_cast]at hg)))
      all_goals first|exact gA|(exact zW (by omega))|skip
      all_goals first|(refine hK _ ?_;clear hK K)|(simp only [push_cast];done)
      refine zX ?_
      (try simp only [zR,zS])
      refine⟨Or.inl rfl,?_⟩
      simp only [zb,push_cast,↓zK,↓zJ,↓reduceIte,zA,zB,zC,zD,zE,zF,zG,zH,zI,reduceCtorEq]
      exact(uB (k:=k) (by omega) hall (zEr (by omega) (by with_reducible assumption))).symm
      done)
  ·
   refine zk ?_
   (try simp only [zR,zS,reduceIte,zF]);refine hK1 _ ?_
   refine zL fun K hK=> ?_
   refine zM zP zN [] rfl ?_
   all_goals simp only [push_cast,↓zK,↓zJ,↓reduceIte,zA,zB,zC,zD,zE,zF,zG,zH,zI,reduceCtorEq]
   all_goals repeat'(first|(apply zO<;>(intro hg;(try simp only [push_cast]at hg)))|apply And.intro|(intro hg;(try simp only [push_cast]at hg)))
   all_goals first|exact gA|(exact zW (by omega))|skip
   all_goals first|(refine hK _ ?_;clear hK K)|(simp only [push_cast];done)
   refine zX ?_
   (try simp only [zR,zS])
   refine⟨Or.inl rfl,?_⟩
   simp only [zb,push_cast,↓zK,↓zJ,↓reduceIte,zA,zB,zC,zD,zE,zF,zG,zH,zI,reduceCtorEq]
   all_goals first|(rw [Jx fun j hj=>hall j (by omega)];done)|(rw [Jx fun j hj=>hall j (by omega)];rfl)
set_option maxRecDepth 20000 in
set_option maxHeartbeats 4000000 in
theorem zAP (xs:List Int)(hx:xs.length≤1048576):Fn Try.prog tyT 37 [.c (DI xs)] [.c (DI (yF xs))]:=by
 refine yB (fn:=Try.f37) (ts:= [2]) Try.func37 (by kernel_rfl) rfl rfl (by rw [Try.ntmps37];exact Nat.le_of_ble_eq_true rfl) rfl (by simp only [szA,List.mem_cons,List.not_mem_nil,or_false,forall_eq_or_imp,forall_eq,VT.cells,szL];try decide) ?_
 rw [Try.ntmps37]
 simp only [push_cast,↓zK,↓zJ,↓reduceIte,zA,zB,zC,zD,zE,zF,zG,zH,zI,reduceCtorEq]
 refine zL fun K hK=> ?_
 refine zM zP zN [] rfl ?_
 simp only [push_cast,↓zK,↓zJ,↓reduceIte,zA,zB,zC,zD,zE,zF,zG,zH,zI,reduceCtorEq]
 repeat' apply And.intro
 all_goals try exact gB
 all_goals first|(refine hK _ ?_;clear hK K)|(simp only [push_cast];done)
 refine zL fun K hK=> ?_
 refine zM zP zN [] rfl ?_
 simp only [push_cast,↓zK,↓zJ,↓reduceIte,zA,zB,zC,zD,zE,zF,zG,zH,zI,reduceCtorEq]
 repeat' apply And.intro
 all_goals try exact gB
 all_goals first|(refine hK _ ?_;clear hK K)|(simp only [push_cast];done)
 refine zL fun K1 hK1=> ?_
 refine zL fun K hK=> ?_
 refine zM zP zN [] rfl ?_
 simp only [push_cast,↓zK,↓zJ,↓reduceIte,zA,zB,zC,zD,zE,zF,zG,zH,zI,reduceCtorEq]
 repeat' apply And.intro
 all_goals try exact gB
 all_goals first|(refine hK _ ?_;clear hK K)|(simp only [push_cast];done)
 refine zV ?_
 refine zh [3,4,5,6,8,9,10,11,12,13,14,15,16,17,18,19,20,21,22,23,24,25,26,27,28,29,30,31,32,33,34,35,36,37,38,39,40,41,42,43,44,45,46,47,48] [48] (fun(i:Nat)=> [(4, .int .i64 i),(3, .sl 48 [] 0 i 2)]) (fun i=> []) (fun i=> [(48,⟨.ex,2,dI (yF (xs.take i)),none⟩)]) (fun i=>i≤xs.length) (fun i=>xs.length - i) 0 ?_ (by omega) ?_
 ·
  rw [List.take_zero,Xc,show dI ([]:List Int)= []from rfl]
  refine zY rfl ?_ ?_ ?_<;>simp only [zf,ze,push_cast,↓zK,↓zJ,↓reduceIte,zA,zB,zC,zD,zE,zF,zG,zH,zI,reduceCtorEq]
 ·rintro i hi KL0 hL0
  have hol:(yF (xs.take i)).length=i:=by rw [xZ,List.length_take];omega
  simp only [push_cast,↓zK,↓zJ,↓reduceIte,zA,zB,zC,zD,zE,zF,zG,zH,zI,reduceCtorEq]
  refine zL fun K2 hK2=> ?_
  refine zL fun K hK=> ?_
  refine zM zP zN [] rfl ?_
  simp only [push_cast,↓zK,↓zJ,↓reduceIte,zA,zB,zC,zD,zE,zF,zG,zH,zI,reduceCtorEq]
  repeat' apply And.intro
  all_goals try exact gB
  all_goals first|(refine hK _ ?_;clear hK K)|(simp only [push_cast];done)
  refine zT rfl (fun hc=> ?_) (fun hc=> ?_)<;>(try simp only [push_cast]at hc)
  ·
   refine zU ?_
   (try simp only [zR,zS,reduceIte,zF]);refine hK2 _ ?_
   refine zL fun K3 hK3=> ?_
   refine zV ?_
   refine zL fun K hK=> ?_
   refine zM zP zN [] rfl ?_
   simp only [push_cast,↓zK,↓zJ,↓reduceIte,zA,zB,zC,zD,zE,zF,zG,zH,zI,reduceCtorEq]
   repeat' apply And.intro
   all_goals try exact gB
   all_goals first|(refine hK _ ?_;clear hK K)|(simp only [push_cast];done)
   refine zL fun K4 hK4=> ?_
   refine zV ?_
   refine zh [5,16,17,18,19,20,21,22,23,24,25,26,27,28,29,30,31] [] (fun(k:Nat)=> [(5, .int .i64 k)]) (fun k=> []) (fun k=> []) (fun k=>k≤i∧∀j,k≤j→j<i→gi (yF (xs.take i)) j>gi xs i) (fun k=>k) i ?_ ⟨by omega,fun j h8 h9=>by omega⟩ ?_
   ·
    refine zY rfl ?_ ?_ ?_<;>simp only [zf,ze,push_cast,↓zK,↓zJ,↓reduceIte,zA,zB,zC,zD,zE,zF,zG,zH,zI,reduceCtorEq]
   ·rintro k ⟨hk,hall⟩ KL1 hL1
    simp only [push_cast,↓zK,↓zJ,↓reduceIte,zA,zB,zC,zD,zE,zF,zG,zH,zI,reduceCtorEq]
    refine zL fun K5 hK5=> ?_
    refine zL fun K hK=> ?_
    refine zw false zP zN yj ?_ rfl ?_
    ·kernel_rfl
    intro E hE
    all_goals simp only [push_cast,↓zK,↓zJ,↓reduceIte,zA,zB,zC,zD,zE,zF,zG,zH,zI,reduceCtorEq]
    all_goals repeat'(first|(apply zO<;>(intro hg;(try simp only [push_cast]at hg)))|apply And.intro|(intro hg;(try simp only [push_cast]at hg)))
    all_goals first|exact gA|(refine hE _ _ ?_ ?_;kernel_rfl)|skip
    all_goals clear hE E
    all_goals first|(refine hK _ ?_;clear hK K)|(simp only [push_cast];done)
    all_goals refine zT rfl (fun hc=> ?_) (fun hc=> ?_)
    all_goals(first|(cases hc;done)|skip)
    all_goals(try simp only [push_cast]at hc)
    all_goals try(
      refine zk ?_
      (try simp only [zR,zS,reduceIte,zF]);refine hK4 _ ?_
      refine zL fun K hK=> ?_
      refine zM zP zN [] rfl ?_
      simp only [push_cast,↓zK,↓zJ,↓reduceIte,zA,zB,zC,zD,zE,zF,zG,zH,zI,reduceCtorEq]
      repeat' apply And.intro
      all_goals try exact gB
      all_goals first|(refine hK _ ?_;clear hK K)|(simp only [push_cast];done)
      refine zL fun K hK=> ?_
      refine zM zP zN [] rfl ?_
      simp only [push_cast,↓zK,↓zJ,↓reduceIte,zA,zB,zC,zD,zE,zF,zG,zH,zI,reduceCtorEq]
      repeat' apply And.intro
      all_goals try exact gB
      all_goals first|(refine hK _ ?_;clear hK K)|(simp only [push_cast];done)
      refine zM zP zN [] rfl ?_
      simp only [push_cast,↓zK,↓zJ,↓reduceIte,zA,zB,zC,zD,zE,zF,zG,zH,zI,reduceCtorEq]
      repeat' apply And.intro
      all_goals try exact gB
      (try simp only [zR,zS,reduceIte,zF]);refine hK3 _ ?_
      refine zM zP zN [] rfl ?_
      simp only [push_cast,↓zK,↓zJ,↓reduceIte,zA,zB,zC,zD,zE,zF,zG,zH,zI,reduceCtorEq]
      repeat' apply And.intro
      all_goals try exact gB
      refine hL0 _ ⟨i+1,by omega,by omega,?_⟩
      refine zY rfl ?_ ?_ ?_<;>simp only [zf,ze,push_cast,↓zK,↓zJ,↓reduceIte,zA,zB,zC,zD,zE,zF,zG,zH,zI,reduceCtorEq]
      all_goals first|(rw [show k+1+(i - k)=i+1 from by omega];done)|(rw [zHK (by omega) (by omega) (fun j h8 h9=>hall j h8 h9) (by first|exact .inl (by omega)|exact .inr (by omega))];done)|skip
      done)
    refine zU ?_
    (try simp only [zR,zS,reduceIte,zF]);refine hK5 _ ?_
    refine zV ?_
    refine zM zP zN [] rfl ?_
    simp only [push_cast,↓zK,↓zJ,↓reduceIte,zA,zB,zC,zD,zE,zF,zG,zH,zI,reduceCtorEq]
    repeat' apply And.intro
    all_goals try exact gB
    refine hL1 _ ⟨k - 1,⟨by omega,fun j h8 h9=>(by
      by_cases hjk:j=k - 1
      ·subst hjk;omega
      ·exact hall j (by omega) h9)⟩,by omega,?_⟩
    refine zY rfl ?_ ?_ ?_<;>simp only [zf,ze,push_cast,↓zK,↓zJ,↓reduceIte,zA,zB,zC,zD,zE,zF,zG,zH,zI,reduceCtorEq]
    all_goals(try(refine congrArg (AV.int .i64) ?_;omega))
  ·
   refine zk ?_
   have hii:i=xs.length:=by omega
   subst hii
   rw [List.take_length]
   (try simp only [zR,zS,reduceIte,zF]);refine hK1 _ ?_
   refine zL fun K hK=> ?_
   refine zM zP zN [] rfl ?_
   simp only [push_cast,↓zK,↓zJ,↓reduceIte,zA,zB,zC,zD,zE,zF,zG,zH,zI,reduceCtorEq]
   repeat' apply And.intro
   all_goals try exact gB
   all_goals first|(refine hK _ ?_;clear hK K)|(simp only [push_cast];done)
   refine zX ?_
   (try simp only [zR,zS])
   refine⟨Or.inl rfl,?_⟩
   simp only [zb,push_cast,↓zK,↓zJ,↓reduceIte,zA,zB,zC,zD,zE,zF,zG,zH,zI,reduceCtorEq]
   all_goals first|rfl|exact⟨rfl,rfl⟩|exact⟨rfl,(xZ xs).symm⟩|(simp [xZ];done)
def UB (r:List Int)(s:List Plc×List Int)(u:Int):List Plc×List Int:=if ixQ (yq u r) s.1<0 then(s.1++ [⟨u,r⟩],s.2++ [(s.1.length:Int)])else(s.1,s.2++ [ixQ (yq u r) s.1])
def zr (r us:List Int)(ps:List Plc)(k:Nat):List Plc×List Int:=(us.take k).foldl (UB r) (ps,[])
theorem zAh (r us:List Int)(ps:List Plc):zr r us ps 0=(ps,[]):=rfl
theorem zEp {r us:List Int}{ps:List Plc}{k:Nat}(h:k<us.length):zr r us ps (k+1)=UB r (zr r us ps k) (gi us k):=by
 unfold zr
 rw [Zn h,List.foldl_append]
 rfl
theorem vX {r us:List Int}{ps:List Plc}{k:Nat}(h:k<us.length)(h2:ixQ (yq (gi us k) r) (zr r us ps k).1<0):zr r us ps (k+1)=((zr r us ps k).1++ [⟨gi us k,r⟩],(zr r us ps k).2++ [((zr r us ps k).1.length:Int)]):=by
 rw [zEp h];unfold UB;rw [if_pos h2]
theorem wC {r us:List Int}{ps:List Plc}{k:Nat}(h:k<us.length)(h2: ¬ixQ (yq (gi us k) r) (zr r us ps k).1<0):zr r us ps (k+1)=((zr r us ps k).1,(zr r us ps k).2++ [ixQ (yq (gi us k) r) (zr r us ps k).1]):=by
 rw [zEp h];unfold UB;rw [if_neg h2]
theorem qL {r us:List Int}{ps:List Plc}: ∀{k:Nat},k≤us.length→(zr r us ps k).2.length=k∧ps.length≤(zr r us ps k).1.length∧(zr r us ps k).1.length≤ps.length+k
 |0,_=>by rw [zAh];exact⟨rfl,Nat.le_refl _,Nat.le_refl _⟩
 |k+1,h=>by
  have h1:=qL (r:=r) (us:=us) (ps:=ps) (k:=k) (by omega)
  by_cases h2:ixQ (yq (gi us k) r) (zr r us ps k).1<0
  ·rw [vX (by omega) h2];simp only [List.length_append,List.length_cons,List.length_nil];omega
  ·rw [wC (by omega) h2];simp only [List.length_append,List.length_cons,List.length_nil];omega
theorem zEo {r us:List Int}{ps:List Plc}{k j:Nat}(hkj:k≤j)(hj:j≤us.length):(zr r us ps k).1.length≤(zr r us ps j).1.length:=by
 induction j with
 |zero=>
      have :k=0:=by omega
      subst this;exact Nat.le_refl _
 |succ j ih=>
  rcases Nat.lt_or_ge j k with h|h
  ·have :k=j+1:=by omega
   subst this;exact Nat.le_refl _
  ·have h1:=ih h (by omega)
   by_cases h2:ixQ (yq (gi us j) r) (zr r us ps j).1<0
   ·rw [vX (by omega) h2];simp only [List.length_append,List.length_cons,List.length_nil];omega
   ·rw [wC (by omega) h2];exact h1
theorem zEQ (p:Plc→Bool)(ps:List Plc): -1≤ixQ p ps∧ixQ p ps<ps.length:=by unfold ixQ;split<;>omega
theorem VG {r us:List Int}{ps:List Plc}{O:Plc→Prop}(h0: ∀p∈ps,O p)(h1: ∀u∈us,O ⟨u,r⟩): ∀{k:Nat},k≤us.length→∀p∈(zr r us ps k).1,O p
 |0,_,p,hp=>h0 p hp
 |k+1,h,p,hp=>by
  by_cases h2:ixQ (yq (gi us k) r) (zr r us ps k).1<0
  ·rw [vX (by omega) h2,List.mem_append]at hp
   rcases hp with hp|hp
   ·exact VG h0 h1 (by omega) p hp
   ·rw [List.mem_singleton]at hp;subst hp;exact h1 _ (Vy (by omega))
  ·rw [wC (by omega) h2]at hp
   exact VG h0 h1 (by omega) p hp
section
variable (us rc:Plc→List Int) (p0:Plc)
def stQ :Nat→List Plc
 |0=> [p0]
 |i+1=>if i<(stQ i).length then(zr (rc (gq (stQ i) i)) (us (gq (stQ i) i)) (stQ i) (us (gq (stQ i) i)).length).1 else stQ i
def KG (i k:Nat):List Plc×List Int:=zr (rc (gq (stQ us rc p0 i) i)) (us (gq (stQ us rc p0 i) i)) (stQ us rc p0 i) k
def nxQ (i:Nat):List Int:=yF (KG us rc p0 i (us (gq (stQ us rc p0 i) i)).length).2
def plQ (i:Nat):Plc:=gq (stQ us rc p0 i) i
def okQ :Bool:=decide ((stQ us rc p0 257).length≤256)
end
variable {us rc:Plc→List Int} {p0:Plc}
theorem Ya {i:Nat}(h:i<(stQ us rc p0 i).length):stQ us rc p0 (i+1)=(KG us rc p0 i (us (plQ us rc p0 i)).length).1:=by
 show(if i<(stQ us rc p0 i).length then _ else _)=_
 rw [if_pos h];rfl
theorem VM {i:Nat}(h: ¬i<(stQ us rc p0 i).length):stQ us rc p0 (i+1)=stQ us rc p0 i:=by
 show(if i<(stQ us rc p0 i).length then _ else _)=_
 rw [if_neg h]
theorem Zm {i j:Nat}(h:i≤j):(stQ us rc p0 i).length≤(stQ us rc p0 j).length:=by
 induction j with
 |zero=>
      have :i=0:=by omega
      subst this;exact Nat.le_refl _
 |succ j ih=>
  rcases Nat.lt_or_ge j i with h1|h1
  ·have :i=j+1:=by omega
   subst this;exact Nat.le_refl _
  ·have h2:=ih h1
   by_cases h3:j<(stQ us rc p0 j).length
   ·rw [Ya h3]
    have :=(qL (r:=rc (gq (stQ us rc p0 j) j)) (us:=us (gq (stQ us rc p0 j) j)) (ps:=stQ us rc p0 j) (Nat.le_refl _)).2.1
    exact Nat.le_trans h2 this
   ·rw [VM h3];exact h2
theorem VN {i:Nat}(h: ¬i<(stQ us rc p0 i).length){j:Nat}(hj:i≤j):stQ us rc p0 j=stQ us rc p0 i:=by
 induction j with
 |zero=>
      have :i=0:=by omega
      subst this;rfl
 |succ j ih=>
  rcases Nat.lt_or_ge j i with h1|h1
  ·have :i=j+1:=by omega
   subst this;rfl
  ·have h2:=ih h1
   rw [VM (by rw [h2];omega),h2]
theorem zHX {i:Nat}(hi:i≤256)(h: ¬i<(stQ us rc p0 i).length):okQ us rc p0=true∧stQ us rc p0 257=stQ us rc p0 i:=by
 have h1:=VN h (j:=257) (by omega)
 unfold okQ
 rw [h1]
 exact⟨decide_eq_true (by omega),rfl⟩
theorem zEd {i:Nat}(hi:i≤256)(h:256<(stQ us rc p0 (i+1)).length):okQ us rc p0=false:=by
 have h1:=Zm (us:=us) (rc:=rc) (p0:=p0) (i:=i+1) (j:=257) (by omega)
 unfold okQ
 exact decide_eq_false (by omega)
theorem zHY {i k:Nat}(hi:i≤256)(hl:i<(stQ us rc p0 i).length)(hk:k<(us (plQ us rc p0 i)).length)(h2:ixQ (yq (gi (us (plQ us rc p0 i)) k) (rc (plQ us rc p0 i))) (KG us rc p0 i k).1<0)(h:256≤(KG us rc p0 i k).1.length):okQ us rc p0=false:=by
 refine zEd hi ?_
 rw [Ya hl]
 have h1:=zEo (r:=rc (plQ us rc p0 i)) (us:=us (plQ us rc p0 i)) (ps:=stQ us rc p0 i) (k:=k+1) (j:=(us (plQ us rc p0 i)).length) (by omega) (Nat.le_refl _)
 have h3:=vX (r:=rc (plQ us rc p0 i)) (us:=us (plQ us rc p0 i)) (ps:=stQ us rc p0 i) hk h2
 rw [h3]at h1
 simp only [List.length_append,List.length_cons,List.length_nil]at h1
 have h4:(zr (rc (plQ us rc p0 i)) (us (plQ us rc p0 i)) (stQ us rc p0 i) k).1.length=(KG us rc p0 i k).1.length:=rfl
 have h5:(zr (rc (plQ us rc p0 i)) (us (plQ us rc p0 i)) (stQ us rc p0 i) (us (plQ us rc p0 i)).length).1.length=(KG us rc p0 i (us (plQ us rc p0 i)).length).1.length:=rfl
 omega
theorem Wz {O:Plc→Prop}(h0:O p0)(h1: ∀p,O p→∀u∈us p,O ⟨u,rc p⟩): ∀i,∀p∈stQ us rc p0 i,O p
 |0,p,hp=>by rw [show stQ us rc p0 0= [p0]from rfl,List.mem_singleton]at hp;subst hp;exact h0
 |i+1,p,hp=>by
  by_cases h:i<(stQ us rc p0 i).length
  ·rw [Ya h]at hp
   refine VG (O:=O) (Wz h0 h1 i) (fun u hu=>h1 _ (Wz h0 h1 i _ (vx h)) u hu) (Nat.le_refl _) p hp
  ·rw [VM h]at hp
   exact Wz h0 h1 i p hp
end Go.Proofs.Ytipplkjdmdlhpaa
