/- The contract of slices.Sort at the kind int64, laid over this program. -/
import Derived.Shelf.SortG.Plain
import Derived.Shelf.SortG.SortNone
import Derived.Test.YthepmdkpbjfdcaaProg
import Derived.Sort.OwnSortedInts
import Derived.Test.YthepmdkpbjfdcaaGDzpw
import Derived.Test.YthepmdkpbjfdcaaB14zpw
import Derived.Test.YthepmdkpbjfdcaaB12zpw
import Derived.Test.YthepmdkpbjfdcaaB7zpw
import Derived.Test.YthepmdkpbjfdcaaB10zpw
namespace Go.Proofs.Ythepmdkpbjfdcaa
open Go.Shelf
def UX :Go.Shelf.Ren:=⟨fun|53=>131|64=>164|63=>163|78=>192|79=>193|70=>183|71=>184|72=>185|73=>186|74=>187|75=>188|59=>189|76=>190|77=>191|88=>208|89=>209|90=>210|91=>211|92=>212|68=>202|96=>219|n=>n,fun|22=>22|23=>2|3=>3|51=>117|0=>0|67=>208|69=>58|4=>4|61=>200|60=>199|44=>205|5=>5|9=>9|75=>220|79=>224|83=>231|84=>232|n=>n,fun|n=>n⟩
theorem UW :Go.Proofs.SlLaysN.n53 Try.prog UX:={
 mixed:=by kernel_rfl
 f53:=⟨Try.f131.name,by decide,Try.func131.trans (congrArg some (by kernel_rfl))⟩
 f59:=⟨Try.f189.name,by decide,Try.func189.trans (congrArg some (by kernel_rfl))⟩
 f63:=⟨Try.f163.name,by decide,Try.func163.trans (congrArg some (by kernel_rfl))⟩
 f64:=Try.func164.trans (congrArg some (by kernel_rfl))
 f68:=⟨Try.f202.name,by decide,Try.func202.trans (congrArg some (by kernel_rfl))⟩
 f70:=⟨Try.f183.name,by decide,Try.func183.trans (congrArg some (by kernel_rfl))⟩
 f71:=⟨Try.f184.name,by decide,Try.func184.trans (congrArg some (by kernel_rfl))⟩
 f72:=⟨Try.f185.name,by decide,Try.func185.trans (congrArg some (by kernel_rfl))⟩
 f73:=⟨Try.f186.name,by decide,Try.func186.trans (congrArg some (by kernel_rfl))⟩
 f74:=⟨Try.f187.name,by decide,Try.func187.trans (congrArg some (by kernel_rfl))⟩
 f75:=⟨Try.f188.name,by decide,Try.func188.trans (congrArg some (by kernel_rfl))⟩
 f76:=⟨Try.f190.name,by decide,Try.func190.trans (congrArg some (by kernel_rfl))⟩
 f77:=⟨Try.f191.name,by decide,Try.func191.trans (congrArg some (by kernel_rfl))⟩
 f78:=Try.func192.trans (congrArg some (by kernel_rfl))
 f79:=Try.func193.trans (congrArg some (by kernel_rfl))
 f88:=⟨Try.f208.name,by decide,Try.func208.trans (congrArg some (by kernel_rfl))⟩
 f89:=Try.func209.trans (congrArg some (by kernel_rfl))
 f90:=Try.func210.trans (congrArg some (by kernel_rfl))
 f91:=⟨Try.f211.name,by decide,Try.func211.trans (congrArg some (by kernel_rfl))⟩
 f92:=⟨Try.f212.name,by decide,Try.func212.trans (congrArg some (by kernel_rfl))⟩
 f96:=⟨Try.f219.name,by decide,Try.func219.trans (congrArg some (by kernel_rfl))⟩
 t0:=Try.underlying0
 a0:=Try.isAgg0
 z0:=Try.sizeOf0
 v0:=Try.zeroValue0
 t3:=Try.underlying3
 a3:=Try.isAgg3
 z3:=Try.sizeOf3
 v3:=Try.zeroValue3
 t4:=Try.underlying4
 a4:=Try.isAgg4
 z4:=Try.sizeOf4
 v4:=Try.zeroValue4
 t5:=Try.underlying5
 a5:=Try.isAgg5
 z5:=Try.sizeOf5
 v5:=Try.zeroValue5
 t9:=Try.underlying9
 a9:=Try.isAgg9
 z9:=Try.sizeOf9
 v9:=Try.zeroValue9
 t22:=Try.underlying22
 a22:=Try.isAgg22
 z22:=Try.sizeOf22
 v22:=Try.zeroValue22
 t23:=Try.underlying2
 a23:=Try.isAgg2
 z23:=Try.sizeOf2
 v23:=Try.zeroValue2
 t44:=Try.underlying205
 a44:=Try.isAgg205
 z44:=Try.sizeOf205
 v44:=Try.zeroValue205
 t51:=Try.underlying117
 a51:=Try.isAgg117
 z51:=Try.sizeOf117
 v51:=Try.zeroValue117
 t60:=Try.underlying199
 a60:=Try.isAgg199
 z60:=Try.sizeOf199
 v60:=Try.zeroValue199
 t61:=Try.underlying200
 a61:=Try.isAgg200
 z61:=Try.sizeOf200
 v61:=Try.zeroValue200
 t67:=Try.underlying208
 a67:=Try.isAgg208
 z67:=Try.sizeOf208
 v67:=Try.zeroValue208
 t69:=Try.underlying58
 a69:=Try.isAgg58
 z69:=Try.sizeOf58
 v69:=Try.zeroValue58
 t75:=Try.underlying220
 a75:=Try.isAgg220
 z75:=Try.sizeOf220
 v75:=Try.zeroValue220
 t79:=Try.underlying224
 a79:=Try.isAgg224
 z79:=Try.sizeOf224
 v79:=Try.zeroValue224
 t83:=Try.underlying231
 a83:=Try.isAgg231
 z83:=Try.sizeOf231
 v83:=Try.zeroValue231
 t84:=Try.underlying232
 a84:=Try.isAgg232
 z84:=Try.sizeOf232
 v84:=Try.zeroValue232}
open Go Go.RowKit Go.Sort
set_option linter.unusedVariables false
set_option linter.unusedSimpArgs false
def yJ (xs:List Int):List Int:=xs.mergeSort fun x y=>decide (x≤y)
theorem xh (xs:List Int):(yJ xs).length=xs.length:=List.length_mergeSort ..
theorem wW (xs:List Int):(yJ xs).Perm xs:=List.mergeSort_perm ..
theorem XJ (xs:List Int):(yJ xs).Pairwise (· ≤ ·):=by
 have :=List.pairwise_mergeSort (le:=fun x y:Int=>decide (x≤y)) (fun a b c h1 h2=>by simp at h1 h2⊢;omega) (fun a b=>by simp;omega) xs
 refine this.imp fun h=>by simpa using h
theorem uZ :yJ []= []:=by simp [yJ]
theorem uh :qy Try.prog 131:=⟨_,Try.func131,by decide+kernel,rfl⟩
theorem zB8 {S:TypeId→Nat}{lo:Nat}{w:World}{ow:Nat→Option Pl}: ∀{xs:List Int} {m:Md} {k:Nat} {vs:List Value},RpL S lo w ow m k (dI xs) vs→vs=xs.map (Value.int .i64)
 | [],m,k,vs,h=>by simpa only [dI,List.map_nil,RpL]using h
 |x::xs,m,k,vs,h=>by
  simp only [dI,List.map_cons,RpL,Rp]at h
  obtain⟨v,vs',rfl,rfl,h2⟩:=h
  rw [zB8 (xs:=xs) h2]
  rfl
set_option maxHeartbeats 1000000 in
theorem zG6 (xs:List Int)(hl:xs.length≤1048576):FnG Try.prog tyT 131 [.c (DI xs)] [0] [(0,2,dI (yJ xs))] []:=by
 refine⟨uh,fun lo w ow cargs hlo how hargs=> ?_⟩
 obtain⟨h1,h2⟩:=hargs
 obtain⟨v,rfl⟩: ∃v,cargs= [v]:=by
  cases cargs with
  |nil=>simp at h1
  |cons v vs=>cases vs with
   |nil=>exact⟨v,rfl⟩
   |cons _ _=>simp at h1
 obtain⟨cs,k1,k2,k3⟩:=h2 0 _ v rfl rfl
 have hv:Rp (sz tyT) lo w ow (.ex 0 []) (DI xs) v:=by
  rcases k3 with⟨d,c,e1,rfl,rfl⟩|⟨ds,e1,-⟩|⟨f,ds,e1,-⟩
  ·exact k2 0 _ _ rfl rfl
  ·cases e1
  ·cases e1
 simp only [DI,Rp]at hv
 obtain⟨vs,⟨q1,n,q2,q3,q4⟩,q5⟩:=hv
 have hs1:sz tyT 2=1:=rfl
 have hvs:=zB8 q5
 rw [QX,hs1,Nat.mul_one]at q2
 subst q2
 rw [hs1]at q3
 have hh:yB [v] 0=v∨True:= .inr trivial
 rcases q3.2 with⟨rfl,h0⟩|⟨g,cap,cur,rfl,hg,hb,hc1,hc2,hc3,htake⟩
 ·have hx:xs= []:=List.eq_nil_of_length_eq_zero h0
  subst hx
  refine(AnyG.slices_Sort_int_none UW none 0 w).mono fun e w' ⟨he,hw⟩=> ?_
  subst hw;subst he
  refine⟨[],fun b=>none,rfl,yy.start _,fun b _ _=>rfl,fun b p h=>(by cases h),by simp [vn],fun x hx=> ?_⟩
  simp only [List.mem_singleton]at hx
  subst hx
  simp only [uZ,show dI ([]:List Int)= []from rfl]
  exact vo _ _ _
 ·rw [hvs]at htake q3
  have hlt:g<w.heap.size:=(Array.getElem?_eq_some_iff.1 hb).1
  rw [Nat.mul_one]at htake
  have hH:=holds_of_blockI hb htake
  have hsl:=xh xs
  refine(AnyG.slices_Sort_int UW g 0 cap xs w hH hlt (by omega)).mono fun e w' ⟨he,n,os,hw⟩=> ?_
  subst he
  have hgr:w.grownBy w' (some g):=by rw [hw];exact grownBy_sortedI _
  have hown:=ownsRow_sortedI (base:=lo) (n:=n) (os:=os) (ts:=yJ xs) hsl hg hb hc1 hc2 hc3
  rw [show(grow (putRow (Value.int .i64) (Sort.ahead w n) g 0 (yJ xs).toArray) os)=w' from hw.symm]at hown
  have hog:=q4 g rfl
  refine⟨[],fun b=>match ow b with|some (.root d q)=>if d=0 then some (.root (Xc 0) q)else none|_=>none,rfl,⟨hgr.os,hgr.tape,hgr.output,hgr.size,fun b hb' hk=>hgr.block b hb' (fun e=> ?_)⟩,fun b _ h=>by simp only [h],fun b p h=> ?_,by simp [vn],fun x hx=> ?_⟩
  ·simp only [Option.some.injEq]at e
   subst e
   simp only at hk
   rw [hog]at hk;cases hk
  ·simp only at h
   split at h
   ·rename_i d q ho
    split at h
    ·cases h
     have :=how b _ ho
     exact⟨Nat.lt_of_lt_of_le this.1 hgr.size,this.2.1,_,_,rfl⟩
    ·cases h
   ·cases h
  ·simp only [List.mem_singleton]at hx
   subst hx
   simp only
   refine(zt _ _).2 ⟨(yJ xs).map (Value.int .i64),⟨by simp [QX],xs.length,by rw [QX,hs1,hsl,Nat.mul_one],?_⟩,fun i x u hx hu=> ?_⟩
   ·simp only
    rw [hs1]
    exact⟨hown,fun b hb'=>by
     have :b=g:=by simp [yB,Value.ownBlock]at hb';exact hb'.symm
     subst this
     simp only [hog,if_true]⟩
   ·simp only [dI,List.getElem?_map]at hx hu
    cases hk:(yJ xs)[i]? with
    |none=>rw [hk]at hx;cases hx
    |some y=>rw [hk]at hx hu;cases hx;cases hu;simp only [Rp]
open Go.RowKit
theorem Qf : ∀{xs ys:List Int},xs.Perm ys→xs.Pairwise (· ≤ ·)→ys.Pairwise (· ≤ ·)→xs=ys
 | [],ys,h,_,_=>(List.Perm.nil_eq h)
 |x::xs,[],h,_,_=>by have :=h.length_eq;simp at this
 |x::xs,y::ys,h,h1,h2=>by
  rw [List.pairwise_cons]at h1 h2
  have hx:x∈y::ys:=h.subset (by simp)
  have hy:y∈x::xs:=h.symm.subset (by simp)
  have e:x=y:=by
   rw [List.mem_cons]at hx hy
   rcases hx with hx|hx
   ·exact hx
   ·rcases hy with hy|hy
    ·exact hy.symm
    ·have :=h1.1 y hy;have :=h2.1 x hx;omega
  subst e
  rw [Qf ((List.perm_cons x).1 h) h1.2 h2.2]
theorem zGE {xs:List Int}(h:xs.Pairwise (· < ·)):xs.Nodup:=h.imp fun h=>by omega
def visB (f:Fm)(r:List Int):Bool:=famI f 256&&decide (yJ r=f.names)
theorem Wj {f:Fm}{r:List Int}(h:visB f r=true):famI f 256=true∧yJ r=f.names∧r.length≤4∧r.Nodup∧∀x,x∈r↔x∈f.names:=by
 unfold visB at h
 rw [Bool.and_eq_true,decide_eq_true_eq]at h
 obtain⟨h1,h2⟩:=h
 have hn:=zC4 h1
 refine⟨h1,h2,by have :=xh r;rw [h2]at this;omega,?_,fun x=> ?_⟩
 ·rw [←(wW r).nodup_iff,h2];exact zGE (zEq hn.1)
 ·rw [←(wW r).mem_iff,h2]
def JJ (r:List Int)(v:Int):List Int:=if yD r v then v::r.filter (fun x=> !decide (x=v))else r
theorem zFv {r:List Int}{v:Int}(h:yD r v=false):JJ r v=r:=by unfold JJ;rw [h];rfl
theorem zES {r:List Int}{v:Int}(h:yD r v=true):JJ r v=v::r.filter (fun x=> !decide (x=v)):=by unfold JJ;rw [h];rfl
def Yg (f:Fm)(r:List Int)(v:Int):Int:=if yD r v then 2*qJ r v+(if QA f.sets (Zb f.names (r.take (qJ r v+1)))then 2 else 1)else(if QA f.sets []then 0 else 1)
theorem zEF {r:List Int}{v:Int}:yD r v=decide (qJ r v<r.length):=rfl
theorem zGA {f:Fm}{r:List Int}{v:Int}{k:Nat}(hk:k<r.length)(h: ∀j,j<k→¬gi r j=v)(he:gi r k=v):Yg f r v=2*k+(if QA f.sets (Zb f.names (r.take (k+1)))then 2 else 1):=by
 have hf:qJ r v=k:=jt hk h he
 unfold Yg
 rw [zEF,hf,decide_eq_true hk]
 rfl
open Nat renaming reduceMod → zA, reduceMul → zB, reduceDiv → zC, reduceAdd → zD, reduceSub → zE, reduceEqDiff → zF, reduceBEq → zG, reduceLT → zH, reduceLeDiff → zI
def yg (u:Int)(r:List Int)(p:Plc):Bool:=decide (p.at_=u)&&decide (p.record=r)
theorem uW {u:Int}{r:List Int}{p:Plc}(h: ¬p.at_=u):yg u r p=false:=by unfold yg;rw [decide_eq_false h];rfl
theorem uX {u:Int}{r:List Int}{p:Plc}(h: ¬p.record=r):yg u r p=false:=by unfold yg;rw [decide_eq_false h,Bool.and_false]
theorem zEl {u:Int}{r:List Int}{p:Plc}(h:p.at_=u)(h2:p.record=r):yg u r p=true:=by unfold yg;rw [decide_eq_true h,decide_eq_true h2];rfl
def ixQ (p:Plc→Bool)(ps:List Plc):Int:=if ps.findIdx p<ps.length then ps.findIdx p else -1
theorem jB {ps:List Plc}{k:Nat}(h:k<ps.length):ps[k]=gq ps k:=by
 have :=zGj h
 rw [List.getElem?_eq_getElem h]at this
 exact Option.some.inj this
theorem uF {p:Plc→Bool}{ps:List Plc}{k:Nat}(hk:k<ps.length)(h: ∀j,j<k→p (gq ps j)=false)(hp:p (gq ps k)=true):ixQ p ps=k:=by
 have e:ps.findIdx p=k:=by
  rw [List.findIdx_eq hk]
  refine⟨by rw [jB hk];exact hp,fun j hj=> ?_⟩
  rw [jB (by omega)]
  exact h j hj
 unfold ixQ
 rw [e,if_pos hk]
theorem KH {p:Plc→Bool}{ps:List Plc}(h: ∀j,j<ps.length→p (gq ps j)=false):ixQ p ps= -1:=by
 have e: ¬ps.findIdx p<ps.length:=fun h9=>by
  have h1:=List.findIdx_getElem (w:=h9)
  rw [jB h9,h _ h9]at h1
  cases h1
 unfold ixQ
 rw [if_neg e]
theorem zFd {ys:List Int}{x:Int}{k:Nat}(hk:k≤ys.length)(hs:ys.Pairwise (· ≤ ·))(h1: ∀j,k≤j→j<ys.length→gi ys j>x)(h2:k=0∨gi ys (k - 1)≤x):(ys.take k++ [x]++ys.drop k).Pairwise (· ≤ ·):=by
 have hg: ∀{j} (hj:j<ys.length),ys[j]=gi ys j:=fun{j} hj=>by
  have h3:=vW (xs:=ys) (k:=j) hj
  rw [List.getElem?_eq_getElem hj]at h3
  exact Option.some.inj h3
 have hle: ∀y∈ys.take k,y≤x:=fun y hy=>by
  obtain⟨j,hj,rfl⟩:=List.mem_iff_getElem.1 hy
  rw [List.length_take]at hj
  rw [List.getElem_take]
  rcases h2 with h2|h2
  ·omega
  ·rw [←hg (j:=k - 1) (by omega)]at h2
   rcases Nat.lt_or_ge j (k - 1)with h|h
   ·have :=List.pairwise_iff_getElem.1 hs j (k - 1) (by omega) (by omega) h
    omega
   ·have :j=k - 1:=by omega
    subst this;exact h2
 have hgt: ∀y∈ys.drop k,x≤y:=fun y hy=>by
  obtain⟨j,hj,rfl⟩:=List.mem_iff_getElem.1 hy
  rw [List.length_drop]at hj
  rw [List.getElem_drop,hg (by omega)]
  have :=h1 (k+j) (by omega) (by omega)
  omega
 rw [List.append_assoc,List.pairwise_append]
 refine⟨hs.sublist (List.take_sublist _ _),?_,fun y hy z hz=> ?_⟩
 ·rw [List.singleton_append,List.pairwise_cons]
  exact⟨hgt,hs.sublist (List.drop_sublist _ _)⟩
 ·rw [List.singleton_append,List.mem_cons]at hz
  rcases hz with rfl|hz
  ·exact hle y hy
  ·have :=hle y hy;have :=hgt z hz;omega
theorem zJM {xs:List Int}{i k:Nat}(hi:i<xs.length)(hk:k≤i)(h1: ∀j,k≤j→j<i→gi (yJ (xs.take i)) j>gi xs i)(h2:k=0∨gi (yJ (xs.take i)) (k - 1)≤gi xs i):(yJ (xs.take i)).take k++ [gi xs i]++(yJ (xs.take i)).drop k=yJ (xs.take (i+1)):=by
 have hl:(yJ (xs.take i)).length=i:=by rw [xh,List.length_take];omega
 refine Qf ?_ (zFd (by omega) (XJ _) (fun j h3 h4=>h1 j h3 (by omega)) h2) (XJ _)
 refine List.Perm.trans ?_ (wW _).symm
 rw [zA4 hi]
 refine List.Perm.trans (l₂:= [gi xs i]++((yJ (xs.take i)).take k++(yJ (xs.take i)).drop k)) ?_ ?_
 ·rw [←List.append_assoc]
  exact List.Perm.append_right _ List.perm_append_comm
 ·rw [List.take_append_drop]
  exact List.perm_append_comm.trans (List.Perm.append_right _ (wW _))
theorem zHj {xs:List Int}{i k:Nat}(hi:i<xs.length)(hk:k≤i)(h1: ∀j,k≤j→j<i→gi (yJ (xs.take i)) j>gi xs i)(h2:k=0∨gi (yJ (xs.take i)) (k - 1)≤gi xs i):List.take (k+1) (List.take k (List.take k (yJ (xs.take i)))++ [gi xs i])++List.take (i - k) (List.drop k (yJ (xs.take i)))=yJ (xs.take (i+1)):=by
 have hl:(yJ (xs.take i)).length=i:=by rw [xh,List.length_take];omega
 rw [List.take_take,Nat.min_self,List.take_of_length_le (l:=(yJ (xs.take i)).take k++ [gi xs i]) (by rw [List.length_append,List.length_take,List.length_singleton];omega),List.take_of_length_le (l:=(yJ (xs.take i)).drop k) (by rw [List.length_drop];omega)]
 exact zJM hi hk h1 h2
set_option maxRecDepth 20000 in
set_option maxHeartbeats 4000000 in
theorem jG (ps:List Plc)(ha:QLn 1048576 ps)(u:Int)(r:List Int)(hr:r.length≤1048576):Fn Try.prog tyT 99 [.c (.lst 102 (yp ps)), .c (.int .i64 u), .c (DI r)] [.c (.int .i64 (ixQ (yg u r) ps))]:=by
 have hl:=ha.1
 have hgl:=fun k=>JD ha k
 refine zw (fn:=Try.f99) (ts:= [6]) Try.func99 (by kernel_rfl) rfl rfl (by rw [Try.ntmps99];exact Nat.le_of_ble_eq_true rfl) rfl (by simp only [szA,List.mem_cons,List.not_mem_nil,or_false,forall_eq_or_imp,forall_eq,VT.cells,szL];try decide) ?_
 rw [Try.ntmps99]
 simp only [push_cast,↓zK,↓zJ,↓reduceIte,zA,zB,zC,zD,zE,zF,zG,zH,zI,reduceCtorEq]
 refine zL fun K hK=> ?_
 refine zM zO zN [] rfl ?_
 all_goals simp only [push_cast,↓zK,↓zJ,↓reduceIte,zA,zB,zC,zD,zE,zF,zG,zH,zI,reduceCtorEq]
 all_goals repeat'(first|(apply zP<;>(intro hg;(try simp only [push_cast]at hg)))|apply And.intro|(intro hg;(try simp only [push_cast]at hg)))
 all_goals first|exact gA|(exact zb (by omega))|skip
 all_goals first|(refine hK _ ?_;clear hK K)|(simp only [push_cast];done)
 refine zL fun K1 hK1=> ?_
 refine zL fun K hK=> ?_
 refine zM zO zN [] rfl ?_
 all_goals simp only [push_cast,↓zK,↓zJ,↓reduceIte,zA,zB,zC,zD,zE,zF,zG,zH,zI,reduceCtorEq]
 all_goals repeat'(first|(apply zP<;>(intro hg;(try simp only [push_cast]at hg)))|apply And.intro|(intro hg;(try simp only [push_cast]at hg)))
 all_goals first|exact gA|(exact zb (by omega))|skip
 all_goals first|(refine hK _ ?_;clear hK K)|(simp only [push_cast];done)
 refine zW ?_
 refine zi [6,7,8,9,10,11,12,13,14,15,16,17,18,19,20,21,22,23,24,25,26,27,28,29,30] [] (fun(k:Nat)=> [(7, .int .i64 k)]) (fun k=> []) (fun k=> []) (fun k=>k≤ps.length∧∀j,j<k→yg u r (gq ps j)=false) (fun k=>ps.length - k) 0 ?_ ⟨by omega,fun j hj=>by omega⟩ ?_
 ·
  refine zY rfl ?_ ?_ ?_<;>simp only [zf,ze,push_cast,↓zK,↓zJ,↓reduceIte,zA,zB,zC,zD,zE,zF,zG,zH,zI,reduceCtorEq]
 ·rintro k ⟨hk,hall⟩ KL0 hL0
  simp only [push_cast,↓zK,↓zJ,↓reduceIte,zA,zB,zC,zD,zE,zF,zG,zH,zI,reduceCtorEq]
  refine zL fun K2 hK2=> ?_
  refine zL fun K hK=> ?_
  refine zM zO zN [] rfl ?_
  all_goals simp only [push_cast,↓zK,↓zJ,↓reduceIte,zA,zB,zC,zD,zE,zF,zG,zH,zI,reduceCtorEq]
  all_goals repeat'(first|(apply zP<;>(intro hg;(try simp only [push_cast]at hg)))|apply And.intro|(intro hg;(try simp only [push_cast]at hg)))
  all_goals first|exact gA|(exact zb (by omega))|skip
  all_goals first|(refine hK _ ?_;clear hK K)|(simp only [push_cast];done)
  refine zU rfl (fun hc=> ?_) (fun hc=> ?_)<;>(try simp only [push_cast]at hc)
  ·
   refine zV ?_
   (try simp only [zR,zS,reduceIte,zF]);refine hK2 _ ?_
   refine zL fun K3 hK3=> ?_
   refine zW ?_
   refine zL fun K hK=> ?_
   refine zj false zO zN ?_ rfl ?_
   ·kernel_rfl
   all_goals refine yC 15 fun K9 hK9=> ?_
   all_goals simp only [push_cast,↓zK,↓zJ,↓reduceIte,zA,zB,zC,zD,zE,zF,zG,zH,zI,reduceCtorEq]
   all_goals repeat'(first|(apply zP<;>(intro hg;(try simp only [push_cast]at hg)))|(refine⟨_,QW (gq ps k).record r (hgl k) hr,?_⟩;simp only [push_cast,↓zK,↓zJ,↓reduceIte,zA,zB,zC,zD,zE,zF,zG,zH,zI,reduceCtorEq])|apply And.intro|(intro hg;(try simp only [push_cast]at hg)))
   all_goals first|exact gA|(exact zb (by omega))|skip
   all_goals first|(refine hK9 _ ?_;clear hK9 K9)|(simp only [push_cast];done)
   all_goals simp only [push_cast,↓zK,↓zJ,↓reduceIte,zA,zB,zC,zD,zE,zF,zG,zH,zI,reduceCtorEq]
   all_goals repeat'(first|(apply zP<;>(intro hg;(try simp only [push_cast]at hg)))|(refine⟨_,QW (gq ps k).record r (hgl k) hr,?_⟩;simp only [push_cast,↓zK,↓zJ,↓reduceIte,zA,zB,zC,zD,zE,zF,zG,zH,zI,reduceCtorEq])|apply And.intro|(intro hg;(try simp only [push_cast]at hg)))
   all_goals first|exact gA|(exact zb (by omega))|skip
   all_goals first|(refine hK _ ?_;clear hK K)|(simp only [push_cast];done)
   all_goals refine zU rfl (fun hc=> ?_) (fun hc=> ?_)
   all_goals(first|(cases hc;done)|skip)
   all_goals(try simp only [push_cast]at hc)
   all_goals first
    |(
      refine zV ?_
      (try simp only [zR,zS,reduceIte,zF]);refine hK3 _ ?_
      refine zM zO zN [] rfl ?_
      all_goals simp only [push_cast,↓zK,↓zJ,↓reduceIte,zA,zB,zC,zD,zE,zF,zG,zH,zI,reduceCtorEq]
      all_goals repeat'(first|(apply zP<;>(intro hg;(try simp only [push_cast]at hg)))|apply And.intro|(intro hg;(try simp only [push_cast]at hg)))
      all_goals first|exact gA|(exact zb (by omega))|skip
      refine hL0 _ ⟨k+1,⟨by omega,fun j hj=>(by
        by_cases hjk:j=k
        ·subst hjk;first|exact uW (by omega)|exact uX (by simpa using hc)|exact uX (by with_reducible assumption)
        ·exact hall j (by omega))⟩,by omega,?_⟩
      refine zY rfl ?_ ?_ ?_<;>simp only [zf,ze,push_cast,↓zK,↓zJ,↓reduceIte,zA,zB,zC,zD,zE,zF,zG,zH,zI,reduceCtorEq]
      done)
    |(
      refine zL fun K hK=> ?_
      refine zM zO zN [] rfl ?_
      all_goals simp only [push_cast,↓zK,↓zJ,↓reduceIte,zA,zB,zC,zD,zE,zF,zG,zH,zI,reduceCtorEq]
      all_goals repeat'(first|(apply zP<;>(intro hg;(try simp only [push_cast]at hg)))|apply And.intro|(intro hg;(try simp only [push_cast]at hg)))
      all_goals first|exact gA|(exact zb (by omega))|skip
      all_goals first|(refine hK _ ?_;clear hK K)|(simp only [push_cast];done)
      refine zX ?_
      (try simp only [zR,zS])
      refine⟨Or.inl rfl,?_⟩
      simp only [zd,push_cast,↓zK,↓zJ,↓reduceIte,zA,zB,zC,zD,zE,zF,zG,zH,zI,reduceCtorEq]
      exact(uF (k:=k) (by omega) hall (zEl (by omega) (by with_reducible assumption))).symm
      done)
  ·
   refine zk ?_
   (try simp only [zR,zS,reduceIte,zF]);refine hK1 _ ?_
   refine zL fun K hK=> ?_
   refine zM zO zN [] rfl ?_
   all_goals simp only [push_cast,↓zK,↓zJ,↓reduceIte,zA,zB,zC,zD,zE,zF,zG,zH,zI,reduceCtorEq]
   all_goals repeat'(first|(apply zP<;>(intro hg;(try simp only [push_cast]at hg)))|apply And.intro|(intro hg;(try simp only [push_cast]at hg)))
   all_goals first|exact gA|(exact zb (by omega))|skip
   all_goals first|(refine hK _ ?_;clear hK K)|(simp only [push_cast];done)
   refine zX ?_
   (try simp only [zR,zS])
   refine⟨Or.inl rfl,?_⟩
   simp only [zd,push_cast,↓zK,↓zJ,↓reduceIte,zA,zB,zC,zD,zE,zF,zG,zH,zI,reduceCtorEq]
   all_goals first|(rw [KH fun j hj=>hall j (by omega)];done)|(rw [KH fun j hj=>hall j (by omega)];rfl)
set_option maxRecDepth 20000 in
set_option maxHeartbeats 4000000 in
theorem zAS (xs:List Int)(hx:xs.length≤1048576):Fn Try.prog tyT 100 [.c (DI xs)] [.c (DI (yJ xs))]:=by
 refine zw (fn:=Try.f100) (ts:= [2]) Try.func100 (by kernel_rfl) rfl rfl (by rw [Try.ntmps100];exact Nat.le_of_ble_eq_true rfl) rfl (by simp only [szA,List.mem_cons,List.not_mem_nil,or_false,forall_eq_or_imp,forall_eq,VT.cells,szL];try decide) ?_
 rw [Try.ntmps100]
 simp only [push_cast,↓zK,↓zJ,↓reduceIte,zA,zB,zC,zD,zE,zF,zG,zH,zI,reduceCtorEq]
 refine zL fun K hK=> ?_
 refine zM zO zN [] rfl ?_
 simp only [push_cast,↓zK,↓zJ,↓reduceIte,zA,zB,zC,zD,zE,zF,zG,zH,zI,reduceCtorEq]
 repeat' apply And.intro
 all_goals try exact gB
 all_goals first|(refine hK _ ?_;clear hK K)|(simp only [push_cast];done)
 refine zL fun K hK=> ?_
 refine zM zO zN [] rfl ?_
 simp only [push_cast,↓zK,↓zJ,↓reduceIte,zA,zB,zC,zD,zE,zF,zG,zH,zI,reduceCtorEq]
 repeat' apply And.intro
 all_goals try exact gB
 all_goals first|(refine hK _ ?_;clear hK K)|(simp only [push_cast];done)
 refine zL fun K1 hK1=> ?_
 refine zL fun K hK=> ?_
 refine zM zO zN [] rfl ?_
 simp only [push_cast,↓zK,↓zJ,↓reduceIte,zA,zB,zC,zD,zE,zF,zG,zH,zI,reduceCtorEq]
 repeat' apply And.intro
 all_goals try exact gB
 all_goals first|(refine hK _ ?_;clear hK K)|(simp only [push_cast];done)
 refine zW ?_
 refine zi [3,4,5,6,8,9,10,11,12,13,14,15,16,17,18,19,20,21,22,23,24,25,26,27,28,29,30,31,32,33,34,35,36,37,38,39,40,41,42,43,44,45,46,47,48] [48] (fun(i:Nat)=> [(4, .int .i64 i),(3, .sl 48 [] 0 i 2)]) (fun i=> []) (fun i=> [(48,⟨.ex,2,dI (yJ (xs.take i)),none⟩)]) (fun i=>i≤xs.length) (fun i=>xs.length - i) 0 ?_ (by omega) ?_
 ·
  rw [List.take_zero,uZ,show dI ([]:List Int)= []from rfl]
  refine zY rfl ?_ ?_ ?_<;>simp only [zf,ze,push_cast,↓zK,↓zJ,↓reduceIte,zA,zB,zC,zD,zE,zF,zG,zH,zI,reduceCtorEq]
 ·rintro i hi KL0 hL0
  have hol:(yJ (xs.take i)).length=i:=by rw [xh,List.length_take];omega
  simp only [push_cast,↓zK,↓zJ,↓reduceIte,zA,zB,zC,zD,zE,zF,zG,zH,zI,reduceCtorEq]
  refine zL fun K2 hK2=> ?_
  refine zL fun K hK=> ?_
  refine zM zO zN [] rfl ?_
  simp only [push_cast,↓zK,↓zJ,↓reduceIte,zA,zB,zC,zD,zE,zF,zG,zH,zI,reduceCtorEq]
  repeat' apply And.intro
  all_goals try exact gB
  all_goals first|(refine hK _ ?_;clear hK K)|(simp only [push_cast];done)
  refine zU rfl (fun hc=> ?_) (fun hc=> ?_)<;>(try simp only [push_cast]at hc)
  ·
   refine zV ?_
   (try simp only [zR,zS,reduceIte,zF]);refine hK2 _ ?_
   refine zL fun K3 hK3=> ?_
   refine zW ?_
   refine zL fun K hK=> ?_
   refine zM zO zN [] rfl ?_
   simp only [push_cast,↓zK,↓zJ,↓reduceIte,zA,zB,zC,zD,zE,zF,zG,zH,zI,reduceCtorEq]
   repeat' apply And.intro
   all_goals try exact gB
   all_goals first|(refine hK _ ?_;clear hK K)|(simp only [push_cast];done)
   refine zL fun K4 hK4=> ?_
   refine zW ?_
   refine zi [5,16,17,18,19,20,21,22,23,24,25,26,27,28,29,30,31] [] (fun(k:Nat)=> [(5, .int .i64 k)]) (fun k=> []) (fun k=> []) (fun k=>k≤i∧∀j,k≤j→j<i→gi (yJ (xs.take i)) j>gi xs i) (fun k=>k) i ?_ ⟨by omega,fun j h8 h9=>by omega⟩ ?_
   ·
    refine zY rfl ?_ ?_ ?_<;>simp only [zf,ze,push_cast,↓zK,↓zJ,↓reduceIte,zA,zB,zC,zD,zE,zF,zG,zH,zI,reduceCtorEq]
   ·rintro k ⟨hk,hall⟩ KL1 hL1
    simp only [push_cast,↓zK,↓zJ,↓reduceIte,zA,zB,zC,zD,zE,zF,zG,zH,zI,reduceCtorEq]
    refine zL fun K5 hK5=> ?_
    refine zL fun K hK=> ?_
    refine xN false zO zN qb ?_ rfl ?_
    ·kernel_rfl
    intro E hE
    all_goals simp only [push_cast,↓zK,↓zJ,↓reduceIte,zA,zB,zC,zD,zE,zF,zG,zH,zI,reduceCtorEq]
    all_goals repeat'(first|(apply zP<;>(intro hg;(try simp only [push_cast]at hg)))|apply And.intro|(intro hg;(try simp only [push_cast]at hg)))
    all_goals first|exact gA|(refine hE _ _ ?_ ?_;kernel_rfl)|skip
    all_goals clear hE E
    all_goals first|(refine hK _ ?_;clear hK K)|(simp only [push_cast];done)
    all_goals refine zU rfl (fun hc=> ?_) (fun hc=> ?_)
    all_goals(first|(cases hc;done)|skip)
    all_goals(try simp only [push_cast]at hc)
    all_goals try(
      refine zk ?_
      (try simp only [zR,zS,reduceIte,zF]);refine hK4 _ ?_
      refine zL fun K hK=> ?_
      refine zM zO zN [] rfl ?_
      simp only [push_cast,↓zK,↓zJ,↓reduceIte,zA,zB,zC,zD,zE,zF,zG,zH,zI,reduceCtorEq]
      repeat' apply And.intro
      all_goals try exact gB
      all_goals first|(refine hK _ ?_;clear hK K)|(simp only [push_cast];done)
      refine zL fun K hK=> ?_
      refine zM zO zN [] rfl ?_
      simp only [push_cast,↓zK,↓zJ,↓reduceIte,zA,zB,zC,zD,zE,zF,zG,zH,zI,reduceCtorEq]
      repeat' apply And.intro
      all_goals try exact gB
      all_goals first|(refine hK _ ?_;clear hK K)|(simp only [push_cast];done)
      refine zM zO zN [] rfl ?_
      simp only [push_cast,↓zK,↓zJ,↓reduceIte,zA,zB,zC,zD,zE,zF,zG,zH,zI,reduceCtorEq]
      repeat' apply And.intro
      all_goals try exact gB
      (try simp only [zR,zS,reduceIte,zF]);refine hK3 _ ?_
      refine zM zO zN [] rfl ?_
      simp only [push_cast,↓zK,↓zJ,↓reduceIte,zA,zB,zC,zD,zE,zF,zG,zH,zI,reduceCtorEq]
      repeat' apply And.intro
      all_goals try exact gB
      refine hL0 _ ⟨i+1,by omega,by omega,?_⟩
      refine zY rfl ?_ ?_ ?_<;>simp only [zf,ze,push_cast,↓zK,↓zJ,↓reduceIte,zA,zB,zC,zD,zE,zF,zG,zH,zI,reduceCtorEq]
      all_goals first|(rw [show k+1+(i - k)=i+1 from by omega];done)|(rw [zHj (by omega) (by omega) (fun j h8 h9=>hall j h8 h9) (by first|exact .inl (by omega)|exact .inr (by omega))];done)|skip
      done)
    refine zV ?_
    (try simp only [zR,zS,reduceIte,zF]);refine hK5 _ ?_
    refine zW ?_
    refine zM zO zN [] rfl ?_
    simp only [push_cast,↓zK,↓zJ,↓reduceIte,zA,zB,zC,zD,zE,zF,zG,zH,zI,reduceCtorEq]
    repeat' apply And.intro
    all_goals try exact gB
    refine hL1 _ ⟨k - 1,⟨by omega,fun j h8 h9=>(by
      by_cases hjk:j=k - 1
      ·subst hjk;omega
      ·exact hall j (by omega) h9)⟩,by omega,?_⟩
    refine zY rfl ?_ ?_ ?_<;>simp only [zf,ze,push_cast,↓zK,↓zJ,↓reduceIte,zA,zB,zC,zD,zE,zF,zG,zH,zI,reduceCtorEq]
    all_goals(try(refine congrArg (AV.int .i64) ?_;omega))
  ·
   refine zk ?_
   have hii:i=xs.length:=by omega
   subst hii
   rw [List.take_length]
   (try simp only [zR,zS,reduceIte,zF]);refine hK1 _ ?_
   refine zL fun K hK=> ?_
   refine zM zO zN [] rfl ?_
   simp only [push_cast,↓zK,↓zJ,↓reduceIte,zA,zB,zC,zD,zE,zF,zG,zH,zI,reduceCtorEq]
   repeat' apply And.intro
   all_goals try exact gB
   all_goals first|(refine hK _ ?_;clear hK K)|(simp only [push_cast];done)
   refine zX ?_
   (try simp only [zR,zS])
   refine⟨Or.inl rfl,?_⟩
   simp only [zd,push_cast,↓zK,↓zJ,↓reduceIte,zA,zB,zC,zD,zE,zF,zG,zH,zI,reduceCtorEq]
   all_goals first|rfl|exact⟨rfl,rfl⟩|exact⟨rfl,(xh xs).symm⟩|(simp [xh];done)
def UG (r:List Int)(s:List Plc×List Int)(u:Int):List Plc×List Int:=if ixQ (yg u r) s.1<0 then(s.1++ [⟨u,r⟩],s.2++ [(s.1.length:Int)])else(s.1,s.2++ [ixQ (yg u r) s.1])
def zp (r us:List Int)(ps:List Plc)(k:Nat):List Plc×List Int:=(us.take k).foldl (UG r) (ps,[])
theorem zAs (r us:List Int)(ps:List Plc):zp r us ps 0=(ps,[]):=rfl
theorem zEj {r us:List Int}{ps:List Plc}{k:Nat}(h:k<us.length):zp r us ps (k+1)=UG r (zp r us ps k) (gi us k):=by
 unfold zp
 rw [zA4 h,List.foldl_append]
 rfl
theorem vc {r us:List Int}{ps:List Plc}{k:Nat}(h:k<us.length)(h2:ixQ (yg (gi us k) r) (zp r us ps k).1<0):zp r us ps (k+1)=((zp r us ps k).1++ [⟨gi us k,r⟩],(zp r us ps k).2++ [((zp r us ps k).1.length:Int)]):=by
 rw [zEj h];unfold UG;rw [if_pos h2]
theorem wF {r us:List Int}{ps:List Plc}{k:Nat}(h:k<us.length)(h2: ¬ixQ (yg (gi us k) r) (zp r us ps k).1<0):zp r us ps (k+1)=((zp r us ps k).1,(zp r us ps k).2++ [ixQ (yg (gi us k) r) (zp r us ps k).1]):=by
 rw [zEj h];unfold UG;rw [if_neg h2]
theorem qF {r us:List Int}{ps:List Plc}: ∀{k:Nat},k≤us.length→(zp r us ps k).2.length=k∧ps.length≤(zp r us ps k).1.length∧(zp r us ps k).1.length≤ps.length+k
 |0,_=>by rw [zAs];exact⟨rfl,Nat.le_refl _,Nat.le_refl _⟩
 |k+1,h=>by
  have h1:=qF (r:=r) (us:=us) (ps:=ps) (k:=k) (by omega)
  by_cases h2:ixQ (yg (gi us k) r) (zp r us ps k).1<0
  ·rw [vc (by omega) h2];simp only [List.length_append,List.length_cons,List.length_nil];omega
  ·rw [wF (by omega) h2];simp only [List.length_append,List.length_cons,List.length_nil];omega
theorem zEi {r us:List Int}{ps:List Plc}{k j:Nat}(hkj:k≤j)(hj:j≤us.length):(zp r us ps k).1.length≤(zp r us ps j).1.length:=by
 induction j with
 |zero=>
      have :k=0:=by omega
      subst this;exact Nat.le_refl _
 |succ j ih=>
  rcases Nat.lt_or_ge j k with h|h
  ·have :k=j+1:=by omega
   subst this;exact Nat.le_refl _
  ·have h1:=ih h (by omega)
   by_cases h2:ixQ (yg (gi us j) r) (zp r us ps j).1<0
   ·rw [vc (by omega) h2];simp only [List.length_append,List.length_cons,List.length_nil];omega
   ·rw [wF (by omega) h2];exact h1
theorem zEJ (p:Plc→Bool)(ps:List Plc): -1≤ixQ p ps∧ixQ p ps<ps.length:=by unfold ixQ;split<;>omega
theorem Va {r us:List Int}{ps:List Plc}{O:Plc→Prop}(h0: ∀p∈ps,O p)(h1: ∀u∈us,O ⟨u,r⟩): ∀{k:Nat},k≤us.length→∀p∈(zp r us ps k).1,O p
 |0,_,p,hp=>h0 p hp
 |k+1,h,p,hp=>by
  by_cases h2:ixQ (yg (gi us k) r) (zp r us ps k).1<0
  ·rw [vc (by omega) h2,List.mem_append]at hp
   rcases hp with hp|hp
   ·exact Va h0 h1 (by omega) p hp
   ·rw [List.mem_singleton]at hp;subst hp;exact h1 _ (zAL (by omega))
  ·rw [wF (by omega) h2]at hp
   exact Va h0 h1 (by omega) p hp
section
variable (us rc:Plc→List Int) (p0:Plc)
def stQ :Nat→List Plc
 |0=> [p0]
 |i+1=>if i<(stQ i).length then(zp (rc (gq (stQ i) i)) (us (gq (stQ i) i)) (stQ i) (us (gq (stQ i) i)).length).1 else stQ i
def kO (i k:Nat):List Plc×List Int:=zp (rc (gq (stQ us rc p0 i) i)) (us (gq (stQ us rc p0 i) i)) (stQ us rc p0 i) k
def nxQ (i:Nat):List Int:=yJ (kO us rc p0 i (us (gq (stQ us rc p0 i) i)).length).2
def plQ (i:Nat):Plc:=gq (stQ us rc p0 i) i
def okQ :Bool:=decide ((stQ us rc p0 257).length≤256)
end
variable {us rc:Plc→List Int} {p0:Plc}
theorem Vg {i:Nat}(h:i<(stQ us rc p0 i).length):stQ us rc p0 (i+1)=(kO us rc p0 i (us (plQ us rc p0 i)).length).1:=by
 show(if i<(stQ us rc p0 i).length then _ else _)=_
 rw [if_pos h];rfl
theorem KW {i:Nat}(h: ¬i<(stQ us rc p0 i).length):stQ us rc p0 (i+1)=stQ us rc p0 i:=by
 show(if i<(stQ us rc p0 i).length then _ else _)=_
 rw [if_neg h]
theorem Vf {i j:Nat}(h:i≤j):(stQ us rc p0 i).length≤(stQ us rc p0 j).length:=by
 induction j with
 |zero=>
      have :i=0:=by omega
      subst this;exact Nat.le_refl _
 |succ j ih=>
  rcases Nat.lt_or_ge j i with h1|h1
  ·have :i=j+1:=by omega
   subst this;exact Nat.le_refl _
  ·have h2:=ih h1
   by_cases h3:j<(stQ us rc p0 j).length
   ·rw [Vg h3]
    have :=(qF (r:=rc (gq (stQ us rc p0 j) j)) (us:=us (gq (stQ us rc p0 j) j)) (ps:=stQ us rc p0 j) (Nat.le_refl _)).2.1
    exact Nat.le_trans h2 this
   ·rw [KW h3];exact h2
theorem Vh {i:Nat}(h: ¬i<(stQ us rc p0 i).length){j:Nat}(hj:i≤j):stQ us rc p0 j=stQ us rc p0 i:=by
 induction j with
 |zero=>
      have :i=0:=by omega
      subst this;rfl
 |succ j ih=>
  rcases Nat.lt_or_ge j i with h1|h1
  ·have :i=j+1:=by omega
   subst this;rfl
  ·have h2:=ih h1
   rw [KW (by rw [h2];omega),h2]
theorem zHx {i:Nat}(hi:i≤256)(h: ¬i<(stQ us rc p0 i).length):okQ us rc p0=true∧stQ us rc p0 257=stQ us rc p0 i:=by
 have h1:=Vh h (j:=257) (by omega)
 unfold okQ
 rw [h1]
 exact⟨decide_eq_true (by omega),rfl⟩
theorem zEU {i:Nat}(hi:i≤256)(h:256<(stQ us rc p0 (i+1)).length):okQ us rc p0=false:=by
 have h1:=Vf (us:=us) (rc:=rc) (p0:=p0) (i:=i+1) (j:=257) (by omega)
 unfold okQ
 exact decide_eq_false (by omega)
theorem zHy {i k:Nat}(hi:i≤256)(hl:i<(stQ us rc p0 i).length)(hk:k<(us (plQ us rc p0 i)).length)(h2:ixQ (yg (gi (us (plQ us rc p0 i)) k) (rc (plQ us rc p0 i))) (kO us rc p0 i k).1<0)(h:256≤(kO us rc p0 i k).1.length):okQ us rc p0=false:=by
 refine zEU hi ?_
 rw [Vg hl]
 have h1:=zEi (r:=rc (plQ us rc p0 i)) (us:=us (plQ us rc p0 i)) (ps:=stQ us rc p0 i) (k:=k+1) (j:=(us (plQ us rc p0 i)).length) (by omega) (Nat.le_refl _)
 have h3:=vc (r:=rc (plQ us rc p0 i)) (us:=us (plQ us rc p0 i)) (ps:=stQ us rc p0 i) hk h2
 rw [h3]at h1
 simp only [List.length_append,List.length_cons,List.length_nil]at h1
 have h4:(zp (rc (plQ us rc p0 i)) (us (plQ us rc p0 i)) (stQ us rc p0 i) k).1.length=(kO us rc p0 i k).1.length:=rfl
 have h5:(zp (rc (plQ us rc p0 i)) (us (plQ us rc p0 i)) (stQ us rc p0 i) (us (plQ us rc p0 i)).length).1.length=(kO us rc p0 i (us (plQ us rc p0 i)).length).1.length:=rfl
 omega
theorem JR {O:Plc→Prop}(h0:O p0)(h1: ∀p,O p→∀u∈us p,O ⟨u,rc p⟩): ∀i,∀p∈stQ us rc p0 i,O p
 |0,p,hp=>by rw [show stQ us rc p0 0= [p0]from rfl,List.mem_singleton]at hp;subst hp;exact h0
 |i+1,p,hp=>by
  by_cases h:i<(stQ us rc p0 i).length
  ·rw [Vg h]at hp
   refine Va (O:=O) (JR h0 h1 i) (fun u hu=>h1 _ (JR h0 h1 i _ (YH h)) u hu) (Nat.le_refl _) p hp
  ·rw [KW h]at hp
   exact JR h0 h1 i p hp
def usA (a:Ar)(p:Plc):List Int:=gl a.next p.at_.toNat
section
variable (a:Ar) (rc:Plc→List Int) (pr:Plc→Int) (p0:Plc)
def xn (n:Nat):List Int:=(List.range n).map fun j=>gi a.owner (plQ (usA a) rc p0 j).at_.toNat
def nxG (n:Nat):List (List Int):=(List.range n).map fun j=>nxQ (usA a) rc p0 j
def prG (n:Nat):List Int:=(List.range n).map fun j=>pr (plQ (usA a) rc p0 j)
def gmA (n:Nat):Pa:=⟨⟨xn a rc p0 n,nxG a rc p0 n⟩,prG a rc pr p0 n⟩
def gmR (c:Bool):Pa:=if c&&okQ (usA a) rc p0 then gmA a rc pr p0 (stQ (usA a) rc p0 257).length else⟨⟨[],[]⟩,[]⟩
def plR (c:Bool):List Plc:=if c&&okQ (usA a) rc p0 then stQ (usA a) rc p0 257 else []
end
variable {a:Ar} {rc:Plc→List Int} {pr:Plc→Int} {p0:Plc}
theorem vD (n:Nat):(xn a rc p0 n).length=n:=by simp [xn]
theorem Qe (n:Nat):(nxG a rc p0 n).length=n:=by simp [nxG]
theorem Yq (n:Nat):(prG a rc pr p0 n).length=n:=by simp [prG]
theorem zEX (n:Nat):xn a rc p0 (n+1)=xn a rc p0 n++ [gi a.owner (plQ (usA a) rc p0 n).at_.toNat]:=by simp [xn,List.range_succ]
theorem zGo (n:Nat):nxG a rc p0 (n+1)=nxG a rc p0 n++ [nxQ (usA a) rc p0 n]:=by simp [nxG,List.range_succ]
theorem zGr (n:Nat):prG a rc pr p0 (n+1)=prG a rc pr p0 n++ [pr (plQ (usA a) rc p0 n)]:=by simp [prG,List.range_succ]
theorem zEW :xn a rc p0 0= []:=rfl
theorem zGn :nxG a rc p0 0= []:=rfl
theorem zGq :prG a rc pr p0 0= []:=rfl
theorem zAM {c:Bool}(h:(c&&okQ (usA a) rc p0)=false):gmR a rc pr p0 c=⟨⟨[],[]⟩,[]⟩:=by unfold gmR;rw [h];rfl
theorem zAk {c:Bool}(h:(c&&okQ (usA a) rc p0)=false):plR a rc p0 c= []:=by unfold plR;rw [h];rfl
theorem zCC {c:Bool}{i:Nat}(hc:c=true)(hi:i≤256)(h: ¬i<(stQ (usA a) rc p0 i).length)(h2:i≤(stQ (usA a) rc p0 i).length):(c&&okQ (usA a) rc p0)=true∧gmR a rc pr p0 c=gmA a rc pr p0 i∧plR a rc p0 c=stQ (usA a) rc p0 i:=by
 obtain⟨h3,h4⟩:=zHx hi h
 have h5:(c&&okQ (usA a) rc p0)=true:=by rw [hc,h3];rfl
 have h6:(stQ (usA a) rc p0 i).length=i:=by omega
 refine⟨h5,?_,?_⟩
 ·unfold gmR;rw [h5,if_pos rfl,h4,h6]
 ·unfold plR;rw [h5,if_pos rfl,h4]
theorem JU (ha:yc a=true){p:Plc}(h:0≤p.at_∧p.at_<a.owner.length):1≤(usA a p).length∧(usA a p).length≤16∧∀u∈usA a p,0≤u∧u<a.owner.length:=by
 have hv:p.at_.toNat<a.owner.length:=by omega
 obtain⟨h1,h2,h3,h4,h5⟩:=xR ha hv
 refine⟨h3,h4,fun u hu=> ?_⟩
 have hu:u∈gl a.next p.at_.toNat:=hu
 obtain⟨j,hj,rfl⟩:=List.mem_iff_getElem.1 hu
 have :=vI h5 hj
 unfold qH at this
 have :=of_decide_eq_true this
 have e:gi (gl a.next p.at_.toNat) j=(gl a.next p.at_.toNat)[j]:=by
  unfold gi
  rw [List.getD_eq_getElem?_getD,List.getElem?_eq_getElem hj]
  rfl
 rw [e]at this
 exact⟨this.1,this.2.1⟩
theorem zEE {ps qs:List Plc}{i:Nat}(h:i<ps.length):gq (ps++qs) i=gq ps i:=by
 unfold gq
 rw [List.getD_eq_getElem?_getD,List.getElem?_append_left h,List.getD_eq_getElem?_getD]
theorem kP {r us:List Int}{ps:List Plc}{i:Nat}(hi:i<ps.length): ∀{k:Nat},k≤us.length→gq (zp r us ps k).1 i=gq ps i
 |0,_=>rfl
 |k+1,h=>by
  have h1:=kP (r:=r) (us:=us) hi (k:=k) (by omega)
  have h3:=(qF (r:=r) (us:=us) (ps:=ps) (k:=k) (by omega)).2.1
  by_cases h2:ixQ (yg (gi us k) r) (zp r us ps k).1<0
  ·rw [vc (by omega) h2]
   show gq ((zp r us ps k).1++ [_]) i=_
   rw [zEE (by omega)];exact h1
  ·rw [wF (by omega) h2];exact h1
structure Qp (a:Ar)(rc:Plc→List Int)(p0:Plc)(V:List Int→Prop)(B:Nat):Prop where
 first:0≤p0.at_∧p0.at_<(a.owner.length:Int)∧V p0.record
 next: ∀p:Plc,0≤p.at_→p.at_<(a.owner.length:Int)→V p.record→V (rc p)
 small: ∀r,V r→r.length≤B
theorem YL {V:List Int→Prop}{B:Nat}(ha:yc a=true)(h:Qp a rc p0 V B)(i:Nat): ∀p∈stQ (usA a) rc p0 i,0≤p.at_∧p.at_<a.owner.length∧V p.record:=
 JR (O:=fun p=>0≤p.at_∧p.at_<a.owner.length∧V p.record) h.first (fun p hp u hu=>by
  have :=(JU ha ⟨hp.1,hp.2.1⟩).2.2 u hu
  exact⟨this.1,this.2,h.next p hp.1 hp.2.1 hp.2.2⟩) i
theorem zEZ {V:List Int→Prop}{B:Nat}(ha:yc a=true)(h:Qp a rc p0 V B){i k:Nat}(hi:i<(stQ (usA a) rc p0 i).length)(hk:k≤(usA a (gq (stQ (usA a) rc p0 i) i)).length): ∀p∈(zp (rc (gq (stQ (usA a) rc p0 i) i)) (usA a (gq (stQ (usA a) rc p0 i) i)) (stQ (usA a) rc p0 i) k).1,0≤p.at_∧p.at_<a.owner.length∧V p.record:=by
 have hp:=YL ha h i _ (YH hi)
 exact Va (O:=fun p=>0≤p.at_∧p.at_<a.owner.length∧V p.record) (YL ha h i) (fun u hu=>by
  have :=(JU ha ⟨hp.1,hp.2.1⟩).2.2 u hu
  exact⟨this.1,this.2,h.next _ hp.1 hp.2.1 hp.2.2⟩) hk
theorem zJb {V:List Int→Prop}{B:Nat}(ha:yc a=true)(h:Qp a rc p0 V B){n:Nat}(hn:n≤1048576)(hall: ∀j,j<n→j<(stQ (usA a) rc p0 j).length):vm 1048576 (nxG a rc p0 n):=by
 refine⟨by rw [Qe];exact hn,fun r hr=> ?_⟩
 unfold nxG at hr
 obtain⟨j,hj,rfl⟩:=List.mem_map.1 hr
 have hj:=hall j (List.mem_range.1 hj)
 have hp:=YL ha h j _ (YH hj)
 have h2:=(JU ha ⟨hp.1,hp.2.1⟩).2.1
 unfold nxQ
 rw [xh]
 have h3:=(qF (r:=rc (gq (stQ (usA a) rc p0 j) j)) (us:=usA a (gq (stQ (usA a) rc p0 j) j)) (ps:=stQ (usA a) rc p0 j) (Nat.le_refl _)).1
 show(zp _ _ _ _).2.length≤_
 rw [h3]
 omega
theorem zCY {n:Nat}(h:n≤(stQ (usA a) rc p0 257).length)(hn:n≤257): ∀j,j<n→j<(stQ (usA a) rc p0 j).length:=fun j hj=>by
 rcases Nat.lt_or_ge j (stQ (usA a) rc p0 j).length with h1|h1
 ·exact h1
 ·have :=Vh (us:=usA a) (rc:=rc) (p0:=p0) (i:=j) (by omega) (j:=257) (by omega)
  rw [this]at h
  omega
theorem zJI {V:List Int→Prop}{B:Nat}{c:Bool}(ha:c=true→yc a=true∧Qp a rc p0 V B):(gmR a rc pr p0 c).Ln 1048576:=by
 cases hc:(c&&okQ (usA a) rc p0)with
 |false=>
  rw [zAM hc]
  exact⟨⟨by unfold LnI;simp,⟨by simp,by simp⟩⟩,by unfold LnI;simp⟩
 |true=>
  have h1:=hc
  rw [Bool.and_eq_true]at h1
  obtain⟨h2,h3⟩:=ha h1.1
  have h4:(stQ (usA a) rc p0 257).length≤256:=by have :=h1.2;unfold okQ at this;exact of_decide_eq_true this
  unfold gmR
  rw [hc,if_pos rfl]
  have h5:=zCY (a:=a) (rc:=rc) (p0:=p0) (n:=(stQ (usA a) rc p0 257).length) (Nat.le_refl _) (by omega)
  obtain⟨n9,hn9⟩: ∃n9,n9=(stQ (usA a) rc p0 257).length:=⟨_,rfl⟩
  rw [←hn9]at h4 h5⊢
  refine⟨⟨?_,zJb h2 h3 (by omega) h5⟩,?_⟩
  ·show(xn a rc p0 _).length≤_;rw [vD];omega
  ·show(prG a rc pr p0 _).length≤_;rw [Yq];omega
theorem zJd {V:List Int→Prop}{B:Nat}{c:Bool}(hB:B≤1048576)(ha:c=true→yc a=true∧Qp a rc p0 V B):QLn 1048576 (plR a rc p0 c):=by
 cases hc:(c&&okQ (usA a) rc p0)with
 |false=>
  rw [zAk hc]
  exact⟨by simp,by simp⟩
 |true=>
  have h1:=hc
  rw [Bool.and_eq_true]at h1
  obtain⟨h2,h3⟩:=ha h1.1
  have h4:(stQ (usA a) rc p0 257).length≤256:=by have :=h1.2;unfold okQ at this;exact of_decide_eq_true this
  unfold plR
  rw [hc,if_pos rfl]
  exact⟨by omega,fun p hp=>Nat.le_trans (h3.small _ (YL h2 h3 257 p hp).2.2) hB⟩
set_option maxRecDepth 20000 in
set_option maxHeartbeats 4000000 in
theorem Jk (p:Plc)(hp:p.record.length≤1048576)(u:Int)(r:List Int)(hr:r.length≤1048576):FnX Try.prog tyT 172 [.v (.agg [.int .i64 p.at_,DI p.record]), .ref (.lst 2 [.int .i64 u]), .ref (.lst 2 [DI r])] [.c (.bool (yg u r p))]:=by
 have hE:=zE4 p.record r hp hr
 refine Ka (fn:=Try.f172) (rs:= [.tmp 4]) zO zN Try.func172 (by kernel_rfl) rfl rfl (by rw [Try.ntmps172];exact Nat.le_of_ble_eq_true rfl) rfl (by simp only [szX,List.mem_cons,List.not_mem_nil,or_false,forall_eq_or_imp,forall_eq,XT.cells,VT.cells,szL];try decide) ?_
 rw [Try.ntmps172]
 simp only [push_cast,↓zK,↓zJ,↓reduceIte,zA,zB,zC,zD,zE,zF,zG,zH,zI,reduceCtorEq]
 refine zL fun K hK=> ?_
 refine zM zO zN [] rfl ?_
 simp only [push_cast,↓zK,↓zJ,↓reduceIte,zA,zB,zC,zD,zE,zF,zG,zH,zI,reduceCtorEq]
 repeat' apply And.intro
 all_goals try exact gB
 all_goals first|(refine hK _ ?_;clear hK K)|(simp only [push_cast];done)
 refine zL fun K hK=> ?_
 refine zj false zO zN ?_ rfl ?_
 ·kernel_rfl
 all_goals refine yC 9 fun K9 hK9=> ?_
 all_goals simp only [push_cast,↓zK,↓zJ,↓reduceIte,zA,zB,zC,zD,zE,zF,zG,zH,zI,reduceCtorEq]
 all_goals repeat'(first|(apply zP<;>(intro hg;(try simp only [push_cast]at hg)))|(refine⟨_,hE,?_⟩;simp only [push_cast,↓zK,↓zJ,↓reduceIte,zA,zB,zC,zD,zE,zF,zG,zH,zI,reduceCtorEq])|apply And.intro|(intro hg;(try simp only [push_cast]at hg)))
 all_goals try exact gA
 all_goals first|(refine hK9 _ ?_;clear hK9 K9)|(simp only [push_cast];done)
 all_goals simp only [push_cast,↓zK,↓zJ,↓reduceIte,zA,zB,zC,zD,zE,zF,zG,zH,zI,reduceCtorEq]
 all_goals repeat'(first|(apply zP<;>(intro hg;(try simp only [push_cast]at hg)))|(refine⟨_,hE,?_⟩;simp only [push_cast,↓zK,↓zJ,↓reduceIte,zA,zB,zC,zD,zE,zF,zG,zH,zI,reduceCtorEq])|apply And.intro|(intro hg;(try simp only [push_cast]at hg)))
 all_goals try exact gA
 all_goals first|(refine hK _ ?_;clear hK K)|(simp only [push_cast];done)
 all_goals(
   refine zX ?_
   (try simp only [zR,zS])
   refine⟨Or.inl rfl,?_⟩
   simp only [zd,yE,yj,push_cast,↓zK,↓zJ,↓reduceIte,zA,zB,zC,zD,zE,zF,zG,zH,zI,reduceCtorEq]
   all_goals first|exact(uW (by omega)).symm|(unfold yg;rw [decide_eq_true (by with_reducible assumption)];rfl)|(unfold yg;simp_all;done))
set_option maxRecDepth 20000 in
set_option maxHeartbeats 4000000 in
theorem Vj (ps:List Plc)(ha:QLn 1048576 ps)(g:FuncId)(d1 d2:D)(c1 c2:List D)(q:Plc→Bool)(hp: ∀k,k<ps.length→FnX Try.prog tyT g [.v (.agg [.int .i64 (gq ps k).at_,DI (gq ps k).record]), .ref (.lst 2 (d1::c1)), .ref (.lst 2 (d2::c2))] [.c (.bool (q (gq ps k)))]):FnX Try.prog tyT 171 [.v (.c (.lst 102 (yp ps))), .clo g [.lst 2 (d1::c1), .lst 2 (d2::c2)]] [.c (.int .i64 (ixQ q ps))]:=by
 have hl:=ha.1
 have hgl:=fun k=>JD ha k
 refine Ka (fn:=Try.f171) (rs:= [.tmp 4]) zO zN Try.func171 (by kernel_rfl) rfl rfl (by rw [Try.ntmps171];exact Nat.le_of_ble_eq_true rfl) rfl (by simp only [szX,List.mem_cons,List.not_mem_nil,or_false,forall_eq_or_imp,forall_eq,XT.cells,VT.cells,szL];try decide) ?_
 rw [Try.ntmps171]
 simp only [push_cast,↓zK,↓zJ,↓reduceIte,zA,zB,zC,zD,zE,zF,zG,zH,zI,reduceCtorEq]
 refine zL fun K hK=> ?_
 refine zM zO zN [] rfl ?_
 all_goals simp only [push_cast,↓zK,↓zJ,↓reduceIte,zA,zB,zC,zD,zE,zF,zG,zH,zI,reduceCtorEq]
 all_goals repeat'(first|(apply zP<;>(intro hg;(try simp only [push_cast]at hg)))|apply And.intro|(intro hg;(try simp only [push_cast]at hg)))
 all_goals first|exact gA|(exact zb (by omega))|skip
 all_goals first|(refine hK _ ?_;clear hK K)|(simp only [push_cast];done)
 refine zL fun K1 hK1=> ?_
 refine zL fun K hK=> ?_
 refine zM zO zN [] rfl ?_
 all_goals simp only [push_cast,↓zK,↓zJ,↓reduceIte,zA,zB,zC,zD,zE,zF,zG,zH,zI,reduceCtorEq]
 all_goals repeat'(first|(apply zP<;>(intro hg;(try simp only [push_cast]at hg)))|apply And.intro|(intro hg;(try simp only [push_cast]at hg)))
 all_goals first|exact gA|(exact zb (by omega))|skip
 all_goals first|(refine hK _ ?_;clear hK K)|(simp only [push_cast];done)
 refine zW ?_
 refine zi [4,5,8,9,10,11,12,13,14,15,16,17,18] [] (fun(k:Nat)=> [(8, .int .i64 k)]) (fun k=> []) (fun k=> []) (fun k=>k≤ps.length∧∀j,j<k→q (gq ps j)=false) (fun k=>ps.length - k) 0 ?_ ⟨by omega,fun j hj=>by omega⟩ ?_
 ·
  refine zY rfl ?_ ?_ ?_<;>simp only [zf,ze,push_cast,↓zK,↓zJ,↓reduceIte,zA,zB,zC,zD,zE,zF,zG,zH,zI,reduceCtorEq]
 ·rintro k ⟨hk,hall⟩ KL0 hL0
  simp only [push_cast,↓zK,↓zJ,↓reduceIte,zA,zB,zC,zD,zE,zF,zG,zH,zI,reduceCtorEq]
  refine zL fun K hK=> ?_
  refine zM zO zN [] rfl ?_
  all_goals simp only [push_cast,↓zK,↓zJ,↓reduceIte,zA,zB,zC,zD,zE,zF,zG,zH,zI,reduceCtorEq]
  all_goals repeat'(first|(apply zP<;>(intro hg;(try simp only [push_cast]at hg)))|apply And.intro|(intro hg;(try simp only [push_cast]at hg)))
  all_goals first|exact gA|(exact zb (by omega))|skip
  all_goals first|(refine hK _ ?_;clear hK K)|(simp only [push_cast];done)
  refine zL fun K2 hK2=> ?_
  refine zU rfl (fun hc=> ?_) (fun hc=> ?_)<;>(try simp only [push_cast]at hc)
  ·
   refine zV ?_
   (try simp only [zR,zS,reduceIte,zF]);refine hK2 _ ?_
   refine zL fun K3 hK3=> ?_
   refine zW ?_
   refine zL fun K hK=> ?_
   refine zM zO zN [] rfl ?_
   all_goals simp only [push_cast,↓zK,↓zJ,↓reduceIte,zA,zB,zC,zD,zE,zF,zG,zH,zI,reduceCtorEq]
   all_goals repeat'(first|(apply zP<;>(intro hg;(try simp only [push_cast]at hg)))|apply And.intro|(intro hg;(try simp only [push_cast]at hg)))
   all_goals first|exact gA|(exact zb (by omega))|skip
   all_goals first|(refine hK _ ?_;clear hK K)|(simp only [push_cast];done)
   refine zL fun K hK=> ?_
   refine Xp 16 2 rfl zO zN [] rfl ?_
   simp only [push_cast,↓zK,↓zJ,↓reduceIte,zA,zB,zC,zD,zE,zF,zG,zH,zI,reduceCtorEq]
   repeat' apply And.intro
   all_goals(try simp only [push_cast,↓zK,↓zJ,↓reduceIte,zA,zB,zC,zD,zE,zF,zG,zH,zI,reduceCtorEq])
   all_goals repeat'(first|(apply zP<;>(intro hg;(try simp only [push_cast]at hg)))|(refine⟨_,hp k (by omega),?_⟩;simp only [push_cast,↓zK,↓zJ,↓reduceIte,zA,zB,zC,zD,zE,zF,zG,zH,zI,reduceCtorEq])|apply And.intro|(intro hg;(try simp only [push_cast]at hg)))
   all_goals first|exact gA|(exact zb (by omega))|skip
   all_goals first|(refine hK _ ?_;clear hK K)|(simp only [push_cast];done)
   refine zU rfl (fun hc=> ?_) (fun hc=> ?_)<;>(try simp only [push_cast]at hc)
   ·
    refine zL fun K hK=> ?_
    refine zM zO zN [] rfl ?_
    all_goals simp only [push_cast,↓zK,↓zJ,↓reduceIte,zA,zB,zC,zD,zE,zF,zG,zH,zI,reduceCtorEq]
    all_goals repeat'(first|(apply zP<;>(intro hg;(try simp only [push_cast]at hg)))|apply And.intro|(intro hg;(try simp only [push_cast]at hg)))
    all_goals first|exact gA|(exact zb (by omega))|skip
    all_goals first|(refine hK _ ?_;clear hK K)|(simp only [push_cast];done)
    refine zX ?_
    (try simp only [zR,zS])
    refine⟨Or.inl rfl,?_⟩
    simp only [zd,yE,yj,push_cast,↓zK,↓zJ,↓reduceIte,zA,zB,zC,zD,zE,zF,zG,zH,zI,reduceCtorEq]
    rw [uF (k:=k) (by omega) (fun j hj=>hall j hj) hc]
   ·
    refine zV ?_
    (try simp only [zR,zS,reduceIte,zF]);refine hK3 _ ?_
    refine zM zO zN [] rfl ?_
    all_goals simp only [push_cast,↓zK,↓zJ,↓reduceIte,zA,zB,zC,zD,zE,zF,zG,zH,zI,reduceCtorEq]
    all_goals repeat'(first|(apply zP<;>(intro hg;(try simp only [push_cast]at hg)))|apply And.intro|(intro hg;(try simp only [push_cast]at hg)))
    all_goals first|exact gA|(exact zb (by omega))|skip
    refine hL0 _ ⟨k+1,⟨by omega,fun j hj=>(by
      by_cases hjk:j=k
      ·subst hjk;exact hc
      ·exact hall j (by omega))⟩,by omega,?_⟩
    refine zY rfl ?_ ?_ ?_<;>simp only [zf,ze,push_cast,↓zK,↓zJ,↓reduceIte,zA,zB,zC,zD,zE,zF,zG,zH,zI,reduceCtorEq]
  ·
   refine zk ?_
   (try simp only [zR,zS,reduceIte,zF]);refine hK1 _ ?_
   refine zL fun K hK=> ?_
   refine zM zO zN [] rfl ?_
   all_goals simp only [push_cast,↓zK,↓zJ,↓reduceIte,zA,zB,zC,zD,zE,zF,zG,zH,zI,reduceCtorEq]
   all_goals repeat'(first|(apply zP<;>(intro hg;(try simp only [push_cast]at hg)))|apply And.intro|(intro hg;(try simp only [push_cast]at hg)))
   all_goals first|exact gA|(exact zb (by omega))|skip
   all_goals first|(refine hK _ ?_;clear hK K)|(simp only [push_cast];done)
   refine zX ?_
   (try simp only [zR,zS])
   refine⟨Or.inl rfl,?_⟩
   simp only [zd,yE,yj,push_cast,↓zK,↓zJ,↓reduceIte,zA,zB,zC,zD,zE,zF,zG,zH,zI,reduceCtorEq]
   rw [KH fun j hj=>hall j (by omega)]
set_option maxRecDepth 20000 in
set_option maxHeartbeats 4000000 in
theorem jW (ps:List Plc)(ha:QLn 1048576 ps)(u:Int)(r:List Int)(hr:r.length≤1048576):Fn Try.prog tyT 145 [.c (.lst 102 (yp ps)), .c (.int .i64 u), .c (DI r)] [.c (.int .i64 (ixQ (yg u r) ps))]:=by
 refine zw (fn:=Try.f145) (ts:= [6]) Try.func145 (by kernel_rfl) rfl rfl (by rw [Try.ntmps145];exact Nat.le_of_ble_eq_true rfl) rfl (by simp only [szA,List.mem_cons,List.not_mem_nil,or_false,forall_eq_or_imp,forall_eq,VT.cells,szL];try decide) ?_
 rw [Try.ntmps145]
 simp only [push_cast,↓zK,↓zJ,↓reduceIte,zA,zB,zC,zD,zE,zF,zG,zH,zI,reduceCtorEq]
 refine zL fun K hK=> ?_
 refine zM zO zN [] rfl ?_
 all_goals simp only [push_cast,↓zK,↓zJ,↓reduceIte,zA,zB,zC,zD,zE,zF,zG,zH,zI,reduceCtorEq]
 all_goals repeat'(first|(apply zP<;>(intro hg;(try simp only [push_cast]at hg)))|(refine⟨_,Vj ps ha _ (.int .i64 u) (DI r) [] [] (yg u r) (fun k hk=>Jk (gq ps k) (JD ha k) u r hr),?_⟩;simp only [push_cast,↓zK,↓zJ,↓reduceIte,zA,zB,zC,zD,zE,zF,zG,zH,zI,reduceCtorEq])|apply And.intro|(intro hg;(try simp only [push_cast]at hg)))
 all_goals first|exact gA|decide|skip
 all_goals first|(refine hK _ ?_;clear hK K)|(simp only [push_cast];done)
 refine zL fun K hK=> ?_
 refine Xp 9 2 rfl zO zN [] rfl ?_
 simp only [push_cast,↓zK,↓zJ,↓reduceIte,zA,zB,zC,zD,zE,zF,zG,zH,zI,reduceCtorEq]
 repeat' apply And.intro
 all_goals(try simp only [push_cast,↓zK,↓zJ,↓reduceIte,zA,zB,zC,zD,zE,zF,zG,zH,zI,reduceCtorEq])
 all_goals repeat'(first|(apply zP<;>(intro hg;(try simp only [push_cast]at hg)))|(refine⟨_,Vj ps ha _ (.int .i64 u) (DI r) [] [] (yg u r) (fun k hk=>Jk (gq ps k) (JD ha k) u r hr),?_⟩;simp only [push_cast,↓zK,↓zJ,↓reduceIte,zA,zB,zC,zD,zE,zF,zG,zH,zI,reduceCtorEq])|apply And.intro|(intro hg;(try simp only [push_cast]at hg)))
 all_goals first|exact gA|decide|skip
 all_goals first|(refine hK _ ?_;clear hK K)|(simp only [push_cast];done)
 refine zX ?_
 (try simp only [zR,zS])
 refine⟨Or.inl rfl,?_⟩
 simp only [zd,push_cast,↓zK,↓zJ,↓reduceIte,zA,zB,zC,zD,zE,zF,zG,zH,zI,reduceCtorEq]
section
variable {P:Program} {τ:Ty} {st:St}
def YN :List (Nat×zn)→List (Nat×zn)
 | []=> []
 |(d,R)::l=>(d,{R with pin:=none})::YN l
def St.unpin (st:St):St:=⟨st.n,st.s,st.b,YN st.r⟩
theorem YK : ∀(l:List (Nat×zn)) (d:Nat) (R':zn),lk (YN l) d=some R'→∃R,lk l d=some R∧R'={R with pin:=none}
 | [],d,R',h=>by simp [YN,lk]at h
 |(k,R)::l,d,R',h=>by
  simp only [YN,lk]at h⊢
  split at h
  ·rename_i e
   rw [if_pos e]
   cases h
   exact⟨R,rfl,rfl⟩
  ·rename_i e
   rw [if_neg e]
   exact YK l d R' h
mutual
theorem ke {w:World}{rr:List (Nat×zn)}{bb:List (Nat×List AV)}{hd:Nat→Value}{bk:Nat→Nat}: ∀(v:AV) (z:Value),AvR τ w rr bb hd bk v z→AvR τ w (YN rr) bb hd bk v z
 | .int k n,z,h=>by simp only [AvR]at h⊢;exact h
 | .bool b,z,h=>by simp only [AvR]at h⊢;exact h
 | .sl d p off len e,z,h=>by
  simp only [AvR]at h⊢
  refine⟨h.1,fun R' hR' hp=> ?_⟩
  obtain⟨R,hR,rfl⟩:=YK _ _ _ hR'
  exact h.2 R hR hp
 | .nil,z,h=>by simp only [AvR]at h⊢;exact h
 | .ep d p i,z,h=>by
  simp only [AvR]at h⊢
  refine⟨h.1,fun R' hR' hp=> ?_⟩
  obtain⟨R,hR,rfl⟩:=YK _ _ _ hR'
  exact h.2 R hR hp
 | .bp t i,z,h=>by simp only [AvR]at h⊢;exact h
 | .agg vs,z,h=>by
  simp only [AvR]at h⊢
  obtain⟨cs,h1,h2⟩:=h
  exact⟨cs,h1,ZP vs cs h2⟩
 | .tup vs,z,h=>by
  simp only [AvR]at h⊢
  obtain⟨cs,h1,h2⟩:=h
  exact⟨cs,h1,ZP vs cs h2⟩
 | .fn f vs,z,h=>by
  simp only [AvR]at h⊢
  obtain⟨cs,h1,h2⟩:=h
  exact⟨cs,h1,ZP vs cs h2⟩
 | .dead,z,h=>by simp only [AvR]
 | .raw u,z,h=>by simpa only [AvR]using h
theorem ZP {w:World}{rr:List (Nat×zn)}{bb:List (Nat×List AV)}{hd:Nat→Value}{bk:Nat→Nat}: ∀(vs:List AV) (zs:List Value),za τ w rr bb hd bk vs zs→za τ w (YN rr) bb hd bk vs zs
 | [],zs,h=>by simp only [za]at h⊢;exact h
 |x::xs,zs,h=>by
  simp only [za]at h⊢
  obtain⟨v,vs',h1,h2,h3⟩:=h
  exact⟨v,vs',h1,ke x v h2,ZP xs vs' h3⟩
end
theorem zDs {c:Code}{Q:Exit→St→Prop}(hK:awp P τ c Q st.unpin):awp P τ c Q st:=fun lo w0 a w hr=>by
 obtain⟨ow,hd,bk,h⟩:=hr
 refine hK lo w0 a w ⟨ow,hd,bk,h.big,h.defers,h.size,h.low,h.below,h.ge,h.new,fun k v hv=>ke v _ (h.slot k v hv),fun d R' hR'=> ?_,fun t vs hv=> ?_,fun d R' i hR' hp=> ?_⟩
 ·obtain⟨R,hR,rfl⟩:=YK _ _ _ hR'
  exact h.root d R hR
 ·obtain⟨cs,ty,h1,h2,h3⟩:=h.box t vs hv
  exact⟨cs,ty,h1,h2,ZP vs cs h3⟩
 ·obtain⟨R,hR,rfl⟩:=YK _ _ _ hR'
  cases hp
end
attribute [push_cast] St.unpin YN
set_option maxRecDepth 20000 in
set_option maxHeartbeats 4000000 in
theorem ui (g:Pa)(hg:g.Ln 1000000)(o p:Int)(nx:List Int)(hx:nx.length≤1000000):FnG Try.prog tyT 146 [.agg (dPa g), .c (.int .i64 o), .c (.int .i64 p), .c (DI nx)] [0,1,2,48] [] [.agg (dPa ⟨⟨g.a.owner++ [o],g.a.next++ [nx]⟩,g.prio++ [p]⟩)]:=by
 have h1:=hg.a.owner
 have h2:=hg.a.next.1
 have h3:=hg.prio
 unfold LnI at h1 h3
 unfold dPa
 refine zIa (fn:=Try.f146) (rs:= [.cell 8 84]) (own:= [0,1,2,48]) (outs:= []) zO zN Try.func146 (by kernel_rfl) rfl rfl (by rw [Try.ntmps146];exact Nat.le_of_ble_eq_true rfl) rfl (by simp only [szA,List.mem_cons,List.not_mem_nil,or_false,forall_eq_or_imp,forall_eq,VT.cells,szL];try decide) ?_
 rw [Try.ntmps146]
 simp only [push_cast,↓zK,↓zJ,↓reduceIte,zA,zB,zC,zD,zE,zF,zG,zH,zI,reduceCtorEq]
 refine zL fun K hK=> ?_
 refine zM zO zN [] rfl ?_
 simp only [push_cast,↓zK,↓zJ,↓reduceIte,zA,zB,zC,zD,zE,zF,zG,zH,zI,reduceCtorEq]
 repeat' apply And.intro
 all_goals try exact gB
 all_goals first|(refine hK _ ?_;clear hK K)|(simp only [push_cast];done)
 refine zDs ?_
 simp only [push_cast,↓zK,↓zJ,↓reduceIte,zA,zB,zC,zD,zE,zF,zG,zH,zI,reduceCtorEq]
 refine zL fun K hK=> ?_
 refine zM zO zN [] rfl ?_
 simp only [push_cast,↓zK,↓zJ,↓reduceIte,zA,zB,zC,zD,zE,zF,zG,zH,zI,reduceCtorEq]
 repeat' apply And.intro
 all_goals try exact gB
 all_goals first|(refine hK _ ?_;clear hK K)|(simp only [push_cast];done)
 refine zL fun K hK=> ?_
 refine zj false zO zN ?_ rfl ?_
 ·kernel_rfl
 simp only [push_cast,↓zK,↓zJ,↓reduceIte,zA,zB,zC,zD,zE,zF,zG,zH,zI,reduceCtorEq]
 all_goals repeat'(first|(apply zP<;>(intro hg;(try simp only [push_cast]at hg)))|apply And.intro|(intro hg;(try simp only [push_cast]at hg)))
 all_goals try exact gA
 all_goals first|(refine hK _ ?_;clear hK K)|(simp only [push_cast];done)
 refine zL fun K hK=> ?_
 refine zM zO zN [] rfl ?_
 simp only [push_cast,↓zK,↓zJ,↓reduceIte,zA,zB,zC,zD,zE,zF,zG,zH,zI,reduceCtorEq]
 repeat' apply And.intro
 all_goals try exact gB
 all_goals first|(refine hK _ ?_;clear hK K)|(simp only [push_cast];done)
 refine zL fun K hK=> ?_
 refine zM zO zN [] rfl ?_
 simp only [push_cast,↓zK,↓zJ,↓reduceIte,zA,zB,zC,zD,zE,zF,zG,zH,zI,reduceCtorEq]
 repeat' apply And.intro
 all_goals try exact gB
 all_goals first|(refine hK _ ?_;clear hK K)|(simp only [push_cast];done)
 refine zX ?_
 (try simp only [zR,zS])
 refine⟨Or.inl rfl,?_⟩
 simp only [zd,yE,yj,push_cast,↓zK,↓zJ,↓reduceIte,zA,zB,zC,zD,zE,zF,zG,zH,zI,reduceCtorEq]
 exact⟨by decide,by simp,by simp,by simp⟩
theorem zGN {us rc:Plc→List Int}{p0:Plc}{n:Nat}(h:n≤(stQ us rc p0 n).length): ∀j,j<n→j<(stQ us rc p0 j).length:=fun j hj=>by
 rcases Nat.lt_or_ge j (stQ us rc p0 j).length with h1|h1
 ·exact h1
 ·have :=Vh (us:=us) (rc:=rc) (p0:=p0) (i:=j) (by omega) (j:=n) (by omega)
  rw [this]at h
  omega
theorem zHw {a:Ar}{rc:Plc→List Int}{p0:Plc}{V:List Int→Prop}{B:Nat}(ha:yc a=true)(h:Qp a rc p0 V B){n:Nat}(hall: ∀j,j<n→j<(stQ (usA a) rc p0 j).length): ∀r∈nxG a rc p0 n,r.length≤16:=fun r hr=>by
 unfold nxG at hr
 obtain⟨j,hj,rfl⟩:=List.mem_map.1 hr
 have hj:=hall j (List.mem_range.1 hj)
 have hp:=YL ha h j _ (YH hj)
 have h2:=(JU ha ⟨hp.1,hp.2.1⟩).2.1
 unfold nxQ
 rw [xh]
 have h3:=(qF (r:=rc (gq (stQ (usA a) rc p0 j) j)) (us:=usA a (gq (stQ (usA a) rc p0 j) j)) (ps:=stQ (usA a) rc p0 j) (Nat.le_refl _)).1
 show(zp _ _ _ _).2.length≤_
 rw [h3]
 omega
attribute [-push_cast] rm
def gvB (ps:List Pr)(r:List Int)(v:Int)(i:Nat):Bool:=yD (gp ps (gi r i).toNat).give v
def nrF (ps:List Pr)(r:List Int)(v:Int):Nat→List Int
 |0=> []
 |i+1=>if gvB ps r v i=true then nrF ps r v i++ [gi r i]else nrF ps r v i
def nrR (ps:List Pr)(r:List Int)(v:Int):Nat→List Int
 |0=> []
 |i+1=>if gvB ps r v i=true then nrR ps r v i else nrR ps r v i++ [gi r i]
theorem JL {ps:List Pr}{r:List Int}{v:Int}{i:Nat}(h:gvB ps r v i=true):nrF ps r v (i+1)=nrF ps r v i++ [gi r i]:=if_pos h
theorem jM {ps:List Pr}{r:List Int}{v:Int}{i:Nat}(h:gvB ps r v i=false):nrF ps r v (i+1)=nrF ps r v i:=if_neg (by rw [h];decide)
theorem JM {ps:List Pr}{r:List Int}{v:Int}{i:Nat}(h:gvB ps r v i=true):nrR ps r v (i+1)=nrR ps r v i:=if_pos h
theorem jN {ps:List Pr}{r:List Int}{v:Int}{i:Nat}(h:gvB ps r v i=false):nrR ps r v (i+1)=nrR ps r v i++ [gi r i]:=if_neg (by rw [h];decide)
theorem zAg (ps:List Pr)(r:List Int)(v:Int): ∀i,(nrF ps r v i).length+(nrR ps r v i).length=i
 |0=>rfl
 |i+1=>by
  have h:=zAg ps r v i
  cases hb:gvB ps r v i with
  |true=>rw [JL hb,JM hb,List.length_append,List.length_singleton];omega
  |false=>rw [jM hb,jN hb,List.length_append,List.length_singleton];omega
set_option maxRecDepth 20000 in
set_option maxHeartbeats 4000000 in
theorem zBb (ps:List Pr)(ha:PLn 1048576 ps)(r:List Int)(hr:r.length≤1048576)(hrr: ∀i,i<r.length→0≤gi r i∧gi r i<(ps.length:Int))(v:Int):Fn Try.prog tyT 109 [.c (.lst 90 (dII (ilv ps))), .c (DI r), .c (.int .i64 v)] [.c (DI (nrF ps r v r.length++nrR ps r v r.length))]:=by
 have hl:=ha.1
 have hg:=fun k=>Yb ha k
 have hgg: ∀k,(gp ps k).give.length≤1048576:=fun k=>(hg k).give
 have hli:=xx ps
 have hnl:=zAg ps r v
 refine zw (fn:=Try.f109) (ts:= [6]) Try.func109 (by kernel_rfl) rfl rfl (by rw [Try.ntmps109];exact Nat.le_of_ble_eq_true rfl) rfl (by simp only [szA,List.mem_cons,List.not_mem_nil,or_false,forall_eq_or_imp,forall_eq,VT.cells,szL];try decide) ?_
 rw [Try.ntmps109]
 simp only [push_cast,↓zK,↓zJ,↓reduceIte,zA,zB,zC,zD,zE,zF,zG,zH,zI,reduceCtorEq]
 refine zL fun K hK=> ?_
 refine zM zO zN [] rfl ?_
 all_goals simp only [push_cast,↓zK,↓zJ,↓reduceIte,zA,zB,zC,zD,zE,zF,zG,zH,zI,reduceCtorEq]
 all_goals repeat'(first|(apply zP<;>(intro hg;(try simp only [push_cast]at hg)))|apply And.intro|(intro hg;(try simp only [push_cast]at hg)))
 all_goals first|exact gA|(exact zQ (by simp only [push_cast];omega))|(exact zQ (by omega))|skip
 all_goals first|(refine hK _ ?_;clear hK K)|(simp only [push_cast];done)
 refine zL fun K hK=> ?_
 refine zM zO zN [] rfl ?_
 all_goals simp only [push_cast,↓zK,↓zJ,↓reduceIte,zA,zB,zC,zD,zE,zF,zG,zH,zI,reduceCtorEq]
 all_goals repeat'(first|(apply zP<;>(intro hg;(try simp only [push_cast]at hg)))|apply And.intro|(intro hg;(try simp only [push_cast]at hg)))
 all_goals first|exact gA|(exact zQ (by simp only [push_cast];omega))|(exact zQ (by omega))|skip
 all_goals first|(refine hK _ ?_;clear hK K)|(simp only [push_cast];done)
 refine zL fun K1 hK1=> ?_
 refine zL fun K hK=> ?_
 refine zM zO zN [] rfl ?_
 all_goals simp only [push_cast,↓zK,↓zJ,↓reduceIte,zA,zB,zC,zD,zE,zF,zG,zH,zI,reduceCtorEq]
 all_goals repeat'(first|(apply zP<;>(intro hg;(try simp only [push_cast]at hg)))|apply And.intro|(intro hg;(try simp only [push_cast]at hg)))
 all_goals first|exact gA|(exact zQ (by simp only [push_cast];omega))|(exact zQ (by omega))|skip
 all_goals first|(refine hK _ ?_;clear hK K)|(simp only [push_cast];done)
 refine zW ?_
 refine zi [7,8,10,15,16,17,18,19,20,21,22,23,24,25,26,27,28,29,30,31,32,33,34] [112,128] (fun(k:Nat)=> [(15, .int .i64 k),(7, .sl 112 [] 0 (nrF ps r v k).length 2),(8, .sl 128 [] 0 (nrR ps r v k).length 2)]) (fun k=> []) (fun k=> [(112,⟨.ex,2,dI (nrF ps r v k),none⟩),(128,⟨.ex,2,dI (nrR ps r v k),none⟩)]) (fun k=>k≤r.length) (fun k=>r.length - k) 0 ?_ (by omega) ?_
 ·
  rw [show nrF ps r v 0= []from rfl,show nrR ps r v 0= []from rfl,show dI ([]:List Int)= []from rfl]
  refine zY rfl ?_ ?_ ?_<;>simp only [zf,ze,push_cast,↓zK,↓zJ,↓reduceIte,zA,zB,zC,zD,zE,zF,zG,zH,zI,reduceCtorEq]
 ·rintro k hk KL0 hL0
  simp only [push_cast,↓zK,↓zJ,↓reduceIte,zA,zB,zC,zD,zE,zF,zG,zH,zI,reduceCtorEq]
  refine zL fun K hK=> ?_
  refine zM zO zN [] rfl ?_
  all_goals simp only [push_cast,↓zK,↓zJ,↓reduceIte,zA,zB,zC,zD,zE,zF,zG,zH,zI,reduceCtorEq]
  all_goals repeat'(first|(apply zP<;>(intro hg;(try simp only [push_cast]at hg)))|apply And.intro|(intro hg;(try simp only [push_cast]at hg)))
  all_goals first|exact gA|(exact zQ (by simp only [push_cast];omega))|(exact zQ (by omega))|skip
  all_goals first|(refine hK _ ?_;clear hK K)|(simp only [push_cast];done)
  refine zL fun K2 hK2=> ?_
  refine zU rfl (fun hc=> ?_) (fun hc=> ?_)<;>(try simp only [push_cast]at hc)
  ·
   refine zV ?_
   (try simp only [zR,zS,reduceIte,zF]);refine hK2 _ ?_
   refine zL fun K3 hK3=> ?_
   refine zW ?_
   have hrk:=hrr k (by omega)
   have hnk:=hnl k
   refine zL fun K hK=> ?_
   refine zM zO zN [] rfl ?_
   all_goals simp only [push_cast,↓zK,↓zJ,↓reduceIte,zA,zB,zC,zD,zE,zF,zG,zH,zI,reduceCtorEq]
   all_goals repeat'(first|(apply zP<;>(intro hg;(try simp only [push_cast]at hg)))|apply And.intro|(intro hg;(try simp only [push_cast]at hg)))
   all_goals first|exact gA|(exact zQ (by simp only [push_cast];omega))|(exact zQ (by omega))|skip
   all_goals first|(refine hK _ ?_;clear hK K)|(simp only [push_cast];done)
   refine zL fun K hK=> ?_
   refine zM zO zN [] rfl ?_
   all_goals refine zo 7 fun K9 hK9=> ?_
   all_goals simp only [push_cast,↓zK,↓zJ,↓reduceIte,zA,zB,zC,zD,zE,zF,zG,zH,zI,reduceCtorEq]
   all_goals repeat'(first|(apply zP<;>(intro hg;(try simp only [push_cast]at hg)))|(refine⟨_,qN (gp ps (gi r k).toNat).give v (hgg _),?_⟩;simp only [push_cast,↓zK,↓zJ,↓reduceIte,zA,zB,zC,zD,zE,zF,zG,zH,zI,reduceCtorEq])|apply And.intro|(intro hg;(try simp only [push_cast]at hg)))
   all_goals first|exact gA|(exact zQ (by simp only [push_cast];omega))|(exact zQ (by omega))|skip
   all_goals first|(refine hK9 _ ?_;clear hK9 K9)|(simp only [push_cast];done)
   all_goals simp only [push_cast,↓zK,↓zJ,↓reduceIte,zA,zB,zC,zD,zE,zF,zG,zH,zI,reduceCtorEq]
   all_goals repeat'(first|(apply zP<;>(intro hg;(try simp only [push_cast]at hg)))|(refine⟨_,qN (gp ps (gi r k).toNat).give v (hgg _),?_⟩;simp only [push_cast,↓zK,↓zJ,↓reduceIte,zA,zB,zC,zD,zE,zF,zG,zH,zI,reduceCtorEq])|apply And.intro|(intro hg;(try simp only [push_cast]at hg)))
   all_goals first|exact gA|(exact zQ (by simp only [push_cast];omega))|(exact zQ (by omega))|skip
   all_goals first|(refine hK _ ?_;clear hK K)|(simp only [push_cast];done)
   refine zU rfl (fun hc=> ?_) (fun hc=> ?_)<;>(try simp only [push_cast]at hc)
   ·
    refine zM zO zN [] rfl ?_
    all_goals simp only [push_cast,↓zK,↓zJ,↓reduceIte,zA,zB,zC,zD,zE,zF,zG,zH,zI,reduceCtorEq]
    all_goals repeat'(first|(apply zP<;>(intro hg;(try simp only [push_cast]at hg)))|apply And.intro|(intro hg;(try simp only [push_cast]at hg)))
    all_goals first|exact gA|(exact zQ (by simp only [push_cast];omega))|(exact zQ (by omega))|skip
    (try simp only [zR,zS,reduceIte,zF]);refine hK3 _ ?_
    refine zM zO zN [] rfl ?_
    all_goals simp only [push_cast,↓zK,↓zJ,↓reduceIte,zA,zB,zC,zD,zE,zF,zG,zH,zI,reduceCtorEq]
    all_goals repeat'(first|(apply zP<;>(intro hg;(try simp only [push_cast]at hg)))|apply And.intro|(intro hg;(try simp only [push_cast]at hg)))
    all_goals first|exact gA|(exact zQ (by simp only [push_cast];omega))|(exact zQ (by omega))|skip
    refine hL0 _ ⟨k+1,by omega,by omega,?_⟩
    rw [JL (by unfold gvB;with_reducible assumption),JM (by unfold gvB;with_reducible assumption)]
    refine zY rfl ?_ ?_ ?_<;>simp only [zf,ze,push_cast,↓zK,↓zJ,↓reduceIte,zA,zB,zC,zD,zE,zF,zG,zH,zI,reduceCtorEq]
    all_goals(try(rw [List.length_append];rfl))
   ·
    refine zM zO zN [] rfl ?_
    all_goals simp only [push_cast,↓zK,↓zJ,↓reduceIte,zA,zB,zC,zD,zE,zF,zG,zH,zI,reduceCtorEq]
    all_goals repeat'(first|(apply zP<;>(intro hg;(try simp only [push_cast]at hg)))|apply And.intro|(intro hg;(try simp only [push_cast]at hg)))
    all_goals first|exact gA|(exact zQ (by simp only [push_cast];omega))|(exact zQ (by omega))|skip
    (try simp only [zR,zS,reduceIte,zF]);refine hK3 _ ?_
    refine zM zO zN [] rfl ?_
    all_goals simp only [push_cast,↓zK,↓zJ,↓reduceIte,zA,zB,zC,zD,zE,zF,zG,zH,zI,reduceCtorEq]
    all_goals repeat'(first|(apply zP<;>(intro hg;(try simp only [push_cast]at hg)))|apply And.intro|(intro hg;(try simp only [push_cast]at hg)))
    all_goals first|exact gA|(exact zQ (by simp only [push_cast];omega))|(exact zQ (by omega))|skip
    refine hL0 _ ⟨k+1,by omega,by omega,?_⟩
    rw [jM (by unfold gvB;with_reducible assumption),jN (by unfold gvB;with_reducible assumption)]
    refine zY rfl ?_ ?_ ?_<;>simp only [zf,ze,push_cast,↓zK,↓zJ,↓reduceIte,zA,zB,zC,zD,zE,zF,zG,zH,zI,reduceCtorEq]
    all_goals(try(rw [List.length_append];rfl))
  ·
   refine zk ?_
   have hkk:k=r.length:=by omega
   subst hkk
   have hnk9:=hnl r.length
   (try simp only [zR,zS,reduceIte,zF]);refine hK1 _ ?_
   refine zL fun K hK=> ?_
   refine zM zO zN [] rfl ?_
   all_goals simp only [push_cast,↓zK,↓zJ,↓reduceIte,zA,zB,zC,zD,zE,zF,zG,zH,zI,reduceCtorEq]
   all_goals repeat'(first|(apply zP<;>(intro hg;(try simp only [push_cast]at hg)))|apply And.intro|(intro hg;(try simp only [push_cast]at hg)))
   all_goals first|exact gA|(exact zQ (by simp only [push_cast];omega))|(exact zQ (by omega))|skip
   all_goals first|(refine hK _ ?_;clear hK K)|(simp only [push_cast];done)
   refine zX ?_
   (try simp only [zR,zS])
   refine⟨Or.inl rfl,?_⟩
   simp only [zd,push_cast,↓zK,↓zJ,↓reduceIte,zA,zB,zC,zD,zE,zF,zG,zH,zI,reduceCtorEq]
   first|exact List.length_append.symm|exact⟨rfl,List.length_append.symm⟩|skip
end Go.Proofs.Ythepmdkpbjfdcaa
