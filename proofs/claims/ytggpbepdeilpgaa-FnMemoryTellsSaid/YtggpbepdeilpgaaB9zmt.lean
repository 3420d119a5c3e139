/- families of sets: both sides' tests -/
import Derived.Test.YtggpbepdeilpgaaB8zmt
import Derived.Test.YtggpbepdeilpgaaB4zmt
import Derived.Shelf.SortG.Plain
import Derived.Shelf.SortG.SortNone
import Derived.Test.YtggpbepdeilpgaaProg
import Derived.Sort.OwnSortedInts
import Derived.Test.YtggpbepdeilpgaaB7zmt
import Derived.Test.YtggpbepdeilpgaaGEzmt
import Derived.Lib.SliceRun
namespace Go.Proofs.Ytggpbepdeilpgaa
open Nat renaming reduceMod → zA, reduceMul → zB, reduceDiv → zC, reduceAdd → zD, reduceSub → zE, reduceEqDiff → zF, reduceBEq → zG, reduceLT → zH, reduceLeDiff → zI
open Go.RowKit
set_option linter.unusedVariables false
set_option linter.unusedSimpArgs false
def lessI (a b:List Int):List Int:=a.filter fun x=> !zn b x
def famAt (f:Fm)(n:Int)(i:Nat):Bool:=yX (gl f.sets i) n&&(decide ((lessI (gl f.sets i) f.names).length=0)&& !QO (f.sets.take i) (gl f.sets i))
def famI (f:Fm)(n:Int):Bool:=yX f.names n&&(decide (f.names.length≤4∧f.sets.length≤16)&&wd f.sets.length (famAt f n))
theorem zLA {b:List Int}{n:Int}(hs:yX b n=true):b.Pairwise (· < ·):=by
 rw [List.pairwise_iff_getElem]
 intro i j hi hj hij
 have :=zHb hs i j hij hj
 have e: ∀k (hk:k<b.length),b[k]=gi b k:=fun k hk=>by have :=Za hk;rw [List.getElem?_eq_getElem hk]at this;exact Option.some.inj this
 rw [e i hi,e j hj]
 exact this
def Zd (a b:List Int):List Int:=a.filter fun x=>zn b x
theorem zDv {f:Fm}{n:Int}(h:famI f n=true):yX f.names n=true∧f.names.length≤4∧f.sets.length≤16:=by
 unfold famI at h
 rw [Bool.and_eq_true,Bool.and_eq_true,decide_eq_true_eq]at h
 exact⟨h.1,h.2.1⟩
open Go.Shelf
def Uu :Go.Shelf.Ren:=⟨fun|53=>73|64=>85|63=>84|78=>99|79=>100|70=>90|71=>91|72=>92|73=>93|74=>94|75=>95|59=>96|76=>97|77=>98|88=>111|89=>112|90=>113|91=>114|92=>115|68=>109|96=>119|n=>n,fun|22=>22|23=>2|3=>3|51=>92|0=>0|67=>129|69=>47|4=>4|61=>121|60=>120|44=>126|5=>5|9=>9|75=>137|79=>141|83=>145|84=>146|n=>n,fun|n=>n⟩
theorem Ut :Go.Proofs.SlLaysN.n53 Try.prog Uu:={
 mixed:=by kernel_rfl
 f53:=⟨Try.f73.name,by decide,Try.func73.trans (congrArg some (by kernel_rfl))⟩
 f59:=⟨Try.f96.name,by decide,Try.func96.trans (congrArg some (by kernel_rfl))⟩
 f63:=⟨Try.f84.name,by decide,Try.func84.trans (congrArg some (by kernel_rfl))⟩
 f64:=Try.func85.trans (congrArg some (by kernel_rfl))
 f68:=⟨Try.f109.name,by decide,Try.func109.trans (congrArg some (by kernel_rfl))⟩
 f70:=⟨Try.f90.name,by decide,Try.func90.trans (congrArg some (by kernel_rfl))⟩
 f71:=⟨Try.f91.name,by decide,Try.func91.trans (congrArg some (by kernel_rfl))⟩
 f72:=⟨Try.f92.name,by decide,Try.func92.trans (congrArg some (by kernel_rfl))⟩
 f73:=⟨Try.f93.name,by decide,Try.func93.trans (congrArg some (by kernel_rfl))⟩
 f74:=⟨Try.f94.name,by decide,Try.func94.trans (congrArg some (by kernel_rfl))⟩
 f75:=⟨Try.f95.name,by decide,Try.func95.trans (congrArg some (by kernel_rfl))⟩
 f76:=⟨Try.f97.name,by decide,Try.func97.trans (congrArg some (by kernel_rfl))⟩
 f77:=⟨Try.f98.name,by decide,Try.func98.trans (congrArg some (by kernel_rfl))⟩
 f78:=Try.func99.trans (congrArg some (by kernel_rfl))
 f79:=Try.func100.trans (congrArg some (by kernel_rfl))
 f88:=⟨Try.f111.name,by decide,Try.func111.trans (congrArg some (by kernel_rfl))⟩
 f89:=Try.func112.trans (congrArg some (by kernel_rfl))
 f90:=Try.func113.trans (congrArg some (by kernel_rfl))
 f91:=⟨Try.f114.name,by decide,Try.func114.trans (congrArg some (by kernel_rfl))⟩
 f92:=⟨Try.f115.name,by decide,Try.func115.trans (congrArg some (by kernel_rfl))⟩
 f96:=⟨Try.f119.name,by decide,Try.func119.trans (congrArg some (by kernel_rfl))⟩
 t0:=Try.underlying0
 a0:=Try.isAgg0
 z0:=Try.sizeOf0
 v0:=Try.zeroValue0
 t3:=Try.underlying3
 a3:=Try.isAgg3
 z3:=Try.sizeOf3
 v3:=Try.zeroValue3
 t4:=Try.underlying4
 a4:=Try.isAgg4
 z4:=Try.sizeOf4
 v4:=Try.zeroValue4
 t5:=Try.underlying5
 a5:=Try.isAgg5
 z5:=Try.sizeOf5
 v5:=Try.zeroValue5
 t9:=Try.underlying9
 a9:=Try.isAgg9
 z9:=Try.sizeOf9
 v9:=Try.zeroValue9
 t22:=Try.underlying22
 a22:=Try.isAgg22
 z22:=Try.sizeOf22
 v22:=Try.zeroValue22
 t23:=Try.underlying2
 a23:=Try.isAgg2
 z23:=Try.sizeOf2
 v23:=Try.zeroValue2
 t44:=Try.underlying126
 a44:=Try.isAgg126
 z44:=Try.sizeOf126
 v44:=Try.zeroValue126
 t51:=Try.underlying92
 a51:=Try.isAgg92
 z51:=Try.sizeOf92
 v51:=Try.zeroValue92
 t60:=Try.underlying120
 a60:=Try.isAgg120
 z60:=Try.sizeOf120
 v60:=Try.zeroValue120
 t61:=Try.underlying121
 a61:=Try.isAgg121
 z61:=Try.sizeOf121
 v61:=Try.zeroValue121
 t67:=Try.underlying129
 a67:=Try.isAgg129
 z67:=Try.sizeOf129
 v67:=Try.zeroValue129
 t69:=Try.underlying47
 a69:=Try.isAgg47
 z69:=Try.sizeOf47
 v69:=Try.zeroValue47
 t75:=Try.underlying137
 a75:=Try.isAgg137
 z75:=Try.sizeOf137
 v75:=Try.zeroValue137
 t79:=Try.underlying141
 a79:=Try.isAgg141
 z79:=Try.sizeOf141
 v79:=Try.zeroValue141
 t83:=Try.underlying145
 a83:=Try.isAgg145
 z83:=Try.sizeOf145
 v83:=Try.zeroValue145
 t84:=Try.underlying146
 a84:=Try.isAgg146
 z84:=Try.sizeOf146
 v84:=Try.zeroValue146}
open Go Go.RowKit Go.Sort
def qw (xs:List Int):List Int:=xs.mergeSort fun x y=>decide (x≤y)
theorem Xq (xs:List Int):(qw xs).length=xs.length:=List.length_mergeSort ..
theorem Zh (xs:List Int):(qw xs).Perm xs:=List.mergeSort_perm ..
theorem zGA :qw []= []:=by simp [qw]
theorem UM :qz Try.prog 73:=⟨_,Try.func73,by decide+kernel,rfl⟩
theorem kJ {S:TypeId→Nat}{lo:Nat}{w:World}{ow:Nat→Option Pl}: ∀{xs:List Int} {m:Md} {k:Nat} {vs:List Value},RpL S lo w ow m k (dI xs) vs→vs=xs.map (Value.int .i64)
 | [],m,k,vs,h=>by simpa only [dI,List.map_nil,RpL]using h
 |x::xs,m,k,vs,h=>by
  simp only [dI,List.map_cons,RpL,Rp]at h
  obtain⟨v,vs',rfl,rfl,h2⟩:=h
  rw [kJ (xs:=xs) h2]
  rfl
set_option maxHeartbeats 1000000 in
theorem zIZ (xs:List Int)(hl:xs.length≤1048576):FnG Try.prog tyT 73 [.c (DI xs)] [0] [(0,2,dI (qw xs))] []:=by
 refine⟨UM,fun lo w ow cargs hlo how hargs=> ?_⟩
 obtain⟨h1,h2⟩:=hargs
 obtain⟨v,rfl⟩: ∃v,cargs= [v]:=by
  cases cargs with
  |nil=>simp at h1
  |cons v vs=>cases vs with
   |nil=>exact⟨v,rfl⟩
   |cons _ _=>simp at h1
 obtain⟨cs,k1,k2,k3⟩:=h2 0 _ v rfl rfl
 have hv:Rp (sz tyT) lo w ow (.ex 0 []) (DI xs) v:=by
  rcases k3 with⟨d,c,e1,rfl,rfl⟩|⟨ds,e1,-⟩|⟨f,ds,e1,-⟩
  ·exact k2 0 _ _ rfl rfl
  ·cases e1
  ·cases e1
 simp only [DI,Rp]at hv
 obtain⟨vs,⟨q1,n,q2,q3,q4⟩,q5⟩:=hv
 have hs1:sz tyT 2=1:=rfl
 have hvs:=kJ q5
 rw [Qg,hs1,Nat.mul_one]at q2
 subst q2
 rw [hs1]at q3
 have hh:yQ [v] 0=v∨True:= .inr trivial
 rcases q3.2 with⟨rfl,h0⟩|⟨g,cap,cur,rfl,hg,hb,hc1,hc2,hc3,htake⟩
 ·have hx:xs= []:=List.eq_nil_of_length_eq_zero h0
  subst hx
  refine(AnyG.slices_Sort_int_none Ut none 0 w).mono fun e w' ⟨he,hw⟩=> ?_
  subst hw;subst he
  refine⟨[],fun b=>none,rfl,yu.start _,fun b _ _=>rfl,fun b p h=>(by cases h),by simp [vH],fun x hx=> ?_⟩
  simp only [List.mem_singleton]at hx
  subst hx
  simp only [zGA,show dI ([]:List Int)= []from rfl]
  exact vV _ _ _
 ·rw [hvs]at htake q3
  have hlt:g<w.heap.size:=(Array.getElem?_eq_some_iff.1 hb).1
  rw [Nat.mul_one]at htake
  have hH:=holds_of_blockI hb htake
  have hsl:=Xq xs
  refine(AnyG.slices_Sort_int Ut g 0 cap xs w hH hlt (by omega)).mono fun e w' ⟨he,n,os,hw⟩=> ?_
  subst he
  have hgr:w.grownBy w' (some g):=by rw [hw];exact grownBy_sortedI _
  have hown:=ownsRow_sortedI (base:=lo) (n:=n) (os:=os) (ts:=qw xs) hsl hg hb hc1 hc2 hc3
  rw [show(grow (putRow (Value.int .i64) (Sort.ahead w n) g 0 (qw xs).toArray) os)=w' from hw.symm]at hown
  have hog:=q4 g rfl
  refine⟨[],fun b=>match ow b with|some (.root d q)=>if d=0 then some (.root (YH 0) q)else none|_=>none,rfl,⟨hgr.os,hgr.tape,hgr.output,hgr.size,fun b hb' hk=>hgr.block b hb' (fun e=> ?_)⟩,fun b _ h=>by simp only [h],fun b p h=> ?_,by simp [vH],fun x hx=> ?_⟩
  ·simp only [Option.some.injEq]at e
   subst e
   simp only at hk
   rw [hog]at hk;cases hk
  ·simp only at h
   split at h
   ·rename_i d q ho
    split at h
    ·cases h
     have :=how b _ ho
     exact⟨Nat.lt_of_lt_of_le this.1 hgr.size,this.2.1,_,_,rfl⟩
    ·cases h
   ·cases h
  ·simp only [List.mem_singleton]at hx
   subst hx
   simp only
   refine(zw _ _).2 ⟨(qw xs).map (Value.int .i64),⟨by simp [Qg],xs.length,by rw [Qg,hs1,hsl,Nat.mul_one],?_⟩,fun i x u hx hu=> ?_⟩
   ·simp only
    rw [hs1]
    exact⟨hown,fun b hb'=>by
     have :b=g:=by simp [yQ,Value.ownBlock]at hb';exact hb'.symm
     subst this
     simp only [hog,if_true]⟩
   ·simp only [dI,List.getElem?_map]at hx hu
    cases hk:(qw xs)[i]? with
    |none=>rw [hk]at hx;cases hx
    |some y=>rw [hk]at hx hu;cases hx;cases hu;simp only [Rp]
theorem zHT {xs:List Int}(h:xs.Pairwise (· < ·)):xs.Nodup:=h.imp fun h=>by omega
def visB (f:Fm)(r:List Int):Bool:=famI f 256&&decide (qw r=f.names)
theorem Wo {f:Fm}{r:List Int}(h:visB f r=true):famI f 256=true∧qw r=f.names∧r.length≤4∧r.Nodup∧∀x,x∈r↔x∈f.names:=by
 unfold visB at h
 rw [Bool.and_eq_true,decide_eq_true_eq]at h
 obtain⟨h1,h2⟩:=h
 have hn:=zDv h1
 refine⟨h1,h2,by have :=Xq r;rw [h2]at this;omega,?_,fun x=> ?_⟩
 ·rw [←(Zh r).nodup_iff,h2];exact zHT (zLA hn.1)
 ·rw [←(Zh r).mem_iff,h2]
def JQ (r:List Int)(v:Int):List Int:=if zn r v then v::r.filter (fun x=> !decide (x=v))else r
theorem zHG {r:List Int}{v:Int}(h:zn r v=false):JQ r v=r:=by unfold JQ;rw [h];rfl
theorem zFl {r:List Int}{v:Int}(h:zn r v=true):JQ r v=v::r.filter (fun x=> !decide (x=v)):=by unfold JQ;rw [h];rfl
def Yj (f:Fm)(r:List Int)(v:Int):Int:=if zn r v then 2*qM r v+(if QO f.sets (Zd f.names (r.take (qM r v+1)))then 2 else 1)else(if QO f.sets []then 0 else 1)
theorem zFR {r:List Int}{v:Int}:zn r v=decide (qM r v<r.length):=rfl
theorem zHQ {f:Fm}{r:List Int}{v:Int}{k:Nat}(hk:k<r.length)(h: ∀j,j<k→¬gi r j=v)(he:gi r k=v):Yj f r v=2*k+(if QO f.sets (Zd f.names (r.take (k+1)))then 2 else 1):=by
 have hf:qM r v=k:=Qb hk h he
 unfold Yj
 rw [zFR,hf,decide_eq_true hk]
 rfl
def yc (u:Int)(r:List Int)(p:Plc):Bool:=decide (p.at_=u)&&decide (p.record=r)
theorem zF3 {u:Int}{r:List Int}{p:Plc}(h: ¬p.at_=u):yc u r p=false:=by unfold yc;rw [decide_eq_false h];rfl
theorem zF4 {u:Int}{r:List Int}{p:Plc}(h: ¬p.record=r):yc u r p=false:=by unfold yc;rw [decide_eq_false h,Bool.and_false]
theorem uw {u:Int}{r:List Int}{p:Plc}(h:p.at_=u)(h2:p.record=r):yc u r p=true:=by unfold yc;rw [decide_eq_true h,decide_eq_true h2];rfl
def ixQ (p:Plc→Bool)(ps:List Plc):Int:=if ps.findIdx p<ps.length then ps.findIdx p else -1
theorem zAj {ps:List Plc}{k:Nat}(h:k<ps.length):ps[k]=gq ps k:=by
 have :=zH9 h
 rw [List.getElem?_eq_getElem h]at this
 exact Option.some.inj this
def Uc (r:List Int)(s:List Plc×List Int)(u:Int):List Plc×List Int:=if ixQ (yc u r) s.1<0 then(s.1++ [⟨u,r⟩],s.2++ [(s.1.length:Int)])else(s.1,s.2++ [ixQ (yc u r) s.1])
def zt (r us:List Int)(ps:List Plc)(k:Nat):List Plc×List Int:=(us.take k).foldl (Uc r) (ps,[])
theorem jd (r us:List Int)(ps:List Plc):zt r us ps 0=(ps,[]):=rfl
theorem zF1 {r us:List Int}{ps:List Plc}{k:Nat}(h:k<us.length):zt r us ps (k+1)=Uc r (zt r us ps k) (gi us k):=by
 unfold zt
 rw [zHr h,List.foldl_append]
 rfl
theorem vD {r us:List Int}{ps:List Plc}{k:Nat}(h:k<us.length)(h2:ixQ (yc (gi us k) r) (zt r us ps k).1<0):zt r us ps (k+1)=((zt r us ps k).1++ [⟨gi us k,r⟩],(zt r us ps k).2++ [((zt r us ps k).1.length:Int)]):=by
 rw [zF1 h];unfold Uc;rw [if_pos h2]
theorem vE {r us:List Int}{ps:List Plc}{k:Nat}(h:k<us.length)(h2: ¬ixQ (yc (gi us k) r) (zt r us ps k).1<0):zt r us ps (k+1)=((zt r us ps k).1,(zt r us ps k).2++ [ixQ (yc (gi us k) r) (zt r us ps k).1]):=by
 rw [zF1 h];unfold Uc;rw [if_neg h2]
theorem wH {r us:List Int}{ps:List Plc}: ∀{k:Nat},k≤us.length→(zt r us ps k).2.length=k∧ps.length≤(zt r us ps k).1.length∧(zt r us ps k).1.length≤ps.length+k
 |0,_=>by rw [jd];exact⟨rfl,Nat.le_refl _,Nat.le_refl _⟩
 |k+1,h=>by
  have h1:=wH (r:=r) (us:=us) (ps:=ps) (k:=k) (by omega)
  by_cases h2:ixQ (yc (gi us k) r) (zt r us ps k).1<0
  ·rw [vD (by omega) h2];simp only [List.length_append,List.length_cons,List.length_nil];omega
  ·rw [vE (by omega) h2];simp only [List.length_append,List.length_cons,List.length_nil];omega
theorem zKb (p:Plc→Bool)(ps:List Plc): -1≤ixQ p ps∧ixQ p ps<ps.length:=by unfold ixQ;split<;>omega
theorem Vi {r us:List Int}{ps:List Plc}{O:Plc→Prop}(h0: ∀p∈ps,O p)(h1: ∀u∈us,O ⟨u,r⟩): ∀{k:Nat},k≤us.length→∀p∈(zt r us ps k).1,O p
 |0,_,p,hp=>h0 p hp
 |k+1,h,p,hp=>by
  by_cases h2:ixQ (yc (gi us k) r) (zt r us ps k).1<0
  ·rw [vD (by omega) h2,List.mem_append]at hp
   rcases hp with hp|hp
   ·exact Vi h0 h1 (by omega) p hp
   ·rw [List.mem_singleton]at hp;subst hp;exact h1 _ (zAh (by omega))
  ·rw [vE (by omega) h2]at hp
   exact Vi h0 h1 (by omega) p hp
section
variable (us rc:Plc→List Int) (p0:Plc)
def stQ :Nat→List Plc
 |0=> [p0]
 |i+1=>if i<(stQ i).length then(zt (rc (gq (stQ i) i)) (us (gq (stQ i) i)) (stQ i) (us (gq (stQ i) i)).length).1 else stQ i
def rowQ (i k:Nat):List Plc×List Int:=zt (rc (gq (stQ us rc p0 i) i)) (us (gq (stQ us rc p0 i) i)) (stQ us rc p0 i) k
def plQ (i:Nat):Plc:=gq (stQ us rc p0 i) i
end
variable {us rc:Plc→List Int} {p0:Plc}
theorem JX {i:Nat}(h:i<(stQ us rc p0 i).length):stQ us rc p0 (i+1)=(rowQ us rc p0 i (us (plQ us rc p0 i)).length).1:=by
 show(if i<(stQ us rc p0 i).length then _ else _)=_
 rw [if_pos h];rfl
theorem YA {i:Nat}(h: ¬i<(stQ us rc p0 i).length):stQ us rc p0 (i+1)=stQ us rc p0 i:=by
 show(if i<(stQ us rc p0 i).length then _ else _)=_
 rw [if_neg h]
theorem zBY {i j:Nat}(h:i≤j):(stQ us rc p0 i).length≤(stQ us rc p0 j).length:=by
 induction j with
 |zero=>
      have :i=0:=by omega
      subst this;exact Nat.le_refl _
 |succ j ih=>
  rcases Nat.lt_or_ge j i with h1|h1
  ·have :i=j+1:=by omega
   subst this;exact Nat.le_refl _
  ·have h2:=ih h1
   by_cases h3:j<(stQ us rc p0 j).length
   ·rw [JX h3]
    have :=(wH (r:=rc (gq (stQ us rc p0 j) j)) (us:=us (gq (stQ us rc p0 j) j)) (ps:=stQ us rc p0 j) (Nat.le_refl _)).2.1
    exact Nat.le_trans h2 this
   ·rw [YA h3];exact h2
theorem zHh {i:Nat}(h: ¬i<(stQ us rc p0 i).length){j:Nat}(hj:i≤j):stQ us rc p0 j=stQ us rc p0 i:=by
 induction j with
 |zero=>
      have :i=0:=by omega
      subst this;rfl
 |succ j ih=>
  rcases Nat.lt_or_ge j i with h1|h1
  ·have :i=j+1:=by omega
   subst this;rfl
  ·have h2:=ih h1
   rw [YA (by rw [h2];omega),h2]
theorem Qo {O:Plc→Prop}(h0:O p0)(h1: ∀p,O p→∀u∈us p,O ⟨u,rc p⟩): ∀i,∀p∈stQ us rc p0 i,O p
 |0,p,hp=>by rw [show stQ us rc p0 0= [p0]from rfl,List.mem_singleton]at hp;subst hp;exact h0
 |i+1,p,hp=>by
  by_cases h:i<(stQ us rc p0 i).length
  ·rw [JX h]at hp
   refine Vi (O:=O) (Qo h0 h1 i) (fun u hu=>h1 _ (Qo h0 h1 i _ (xz h)) u hu) (Nat.le_refl _) p hp
  ·rw [YA h]at hp
   exact Qo h0 h1 i p hp
section
variable (a:Ar) (rc:Plc→List Int) (pr:Plc→Int) (p0:Plc)
end
variable {a:Ar} {rc:Plc→List Int} {pr:Plc→Int} {p0:Plc}
theorem zKW {ps qs:List Plc}{i:Nat}(h:i<ps.length):gq (ps++qs) i=gq ps i:=by
 unfold gq
 rw [List.getD_eq_getElem?_getD,List.getElem?_append_left h,List.getD_eq_getElem?_getD]
structure PlOk (a:Ar)(rc:Plc→List Int)(p0:Plc)(V:List Int→Prop)(B:Nat):Prop where
 first:0≤p0.at_∧p0.at_<(a.owner.length:Int)∧V p0.record
 next: ∀p:Plc,0≤p.at_→p.at_<(a.owner.length:Int)→V p.record→V (rc p)
 small: ∀r,V r→r.length≤B
theorem zFL {xs:List Int}{x:Int}{j:Nat}(h:j<xs.length):gi (xs++ [x]) j=gi xs j:=by
 unfold gi
 rw [List.getD_eq_getElem?_getD,List.getD_eq_getElem?_getD,List.getElem?_append_left h]
theorem zFM (xs:List Int)(x:Int):gi (xs++ [x]) xs.length=x:=by
 unfold gi
 rw [List.getD_eq_getElem?_getD,List.getElem?_append_right (Nat.le_refl _)]
 simp
theorem zKX (ps:List Plc)(p:Plc):gq (ps++ [p]) ps.length=p:=by
 unfold gq
 rw [List.getD_eq_getElem?_getD,List.getElem?_append_right (Nat.le_refl _)]
 simp
theorem zKa {p:Plc→Bool}{ps:List Plc}(h: ¬ixQ p ps<0):(ixQ p ps).toNat<ps.length∧p (gq ps (ixQ p ps).toNat)=true:=by
 unfold ixQ at h⊢
 split
 ·rename_i h1
  rw [Int.toNat_natCast]
  refine⟨h1,?_⟩
  rw [←zAj h1]
  exact List.findIdx_getElem (w:=h1)
 ·rename_i h1
  rw [if_neg h1]at h
  omega
theorem zHZ {u:Int}{r:List Int}{p:Plc}(h:yc u r p=true):p=⟨u,r⟩:=by
 unfold yc at h
 rw [Bool.and_eq_true,decide_eq_true_eq,decide_eq_true_eq]at h
 obtain⟨a,b⟩:=p
 obtain⟨h1,h2⟩:=h
 simp only at h1 h2
 rw [h1,h2]
theorem zBL {r us:List Int}{ps:List Plc}: ∀{k:Nat},k≤us.length→∀j,j<k→(0≤gi (zt r us ps k).2 j∧gi (zt r us ps k).2 j<(zt r us ps k).1.length)∧gq (zt r us ps k).1 (gi (zt r us ps k).2 j).toNat=⟨gi us j,r⟩
 |0,_,j,hj=>absurd hj (Nat.not_lt_zero j)
 |k+1,hk,j,hj=>by
  have ih:=zBL (r:=r) (us:=us) (ps:=ps) (k:=k) (by omega)
  have hl:=wH (r:=r) (us:=us) (ps:=ps) (k:=k) (by omega)
  by_cases h2:ixQ (yc (gi us k) r) (zt r us ps k).1<0
  ·rw [vD (by omega) h2]
   simp only
   by_cases e:j=k
   ·subst e
    rw [show gi ((zt r us ps j).2++ [((zt r us ps j).1.length:Int)]) j=((zt r us ps j).1.length:Int)from by
     have :=zFM (zt r us ps j).2 ((zt r us ps j).1.length:Int)
     rw [hl.1]at this
     exact this]
    rw [List.length_append,List.length_singleton,Int.toNat_natCast,zKX]
    exact⟨by omega,rfl⟩
   ·have h3:=ih j (by omega)
    rw [zFL (by omega),List.length_append,List.length_singleton,zKW (by omega)]
    exact⟨by omega,h3.2⟩
  ·rw [vE (by omega) h2]
   simp only
   by_cases e:j=k
   ·subst e
    have h4:=zKa h2
    rw [show gi ((zt r us ps j).2++ [ixQ (yc (gi us j) r) (zt r us ps j).1]) j=ixQ (yc (gi us j) r) (zt r us ps j).1 from by
     have :=zFM (zt r us ps j).2 (ixQ (yc (gi us j) r) (zt r us ps j).1)
     rw [hl.1]at this
     exact this]
    exact⟨by omega,zHZ h4.2⟩
   ·have h3:=ih j (by omega)
    rw [zFL (by omega)]
    exact h3
theorem JI {r:List Int}{i:Nat}(h:i<r.length):gi r i=r[i]:=by
 unfold gi
 rw [List.getD_eq_getElem?_getD,List.getElem?_eq_getElem h]
 rfl
theorem uz {xs:List Int}{n:Int}(h:xs.Pairwise (· < ·))(h2: ∀x∈xs,0≤x∧x<n):yX xs n=true:=by
 refine xq fun k hk=> ?_
 unfold qJ
 have h3:=h2 (gi xs k) (by rw [JI hk];exact List.getElem_mem hk)
 refine decide_eq_true ⟨h3.1,h3.2,?_⟩
 rcases Nat.eq_zero_or_pos k with e|e
 ·exact .inl e
 ·right
  rw [JI hk,JI (by omega)]
  exact(List.pairwise_iff_getElem.1 h) (k - 1) k (by omega) hk (by omega)
section
variable {a:Ar} {rc:Plc→List Int} {pr:Plc→Int} {p0:Plc} {V:List Int→Prop} {B:Nat}
end
theorem JJ {r:List Int}{i:Nat}(h:i<r.length):gi r i=r[i]:=by
 unfold gi
 rw [List.getD_eq_getElem?_getD,List.getElem?_eq_getElem h]
 rfl
theorem UU {r:List Int}{x:Int}(h:x∈r): ∃i,i<r.length∧gi r i=x:=by
 obtain⟨i,hi,e⟩:=List.mem_iff_getElem.1 h
 exact⟨i,hi,by rw [JJ hi];exact e⟩
theorem zH6 {r:List Int}(h:r.Nodup){i j:Nat}(hi:i<r.length)(hj:j<r.length)(e:gi r i=gi r j):i=j:=by
 rw [JJ hi,JJ hj]at e
 have h2:=List.pairwise_iff_getElem.1 h
 rcases Nat.lt_trichotomy i j with h1|h1|h1
 ·exact absurd e (h2 i j hi hj h1)
 ·exact h1
 ·exact absurd e.symm (h2 j i hj hi h1)
theorem zJP {q:Int→Bool}{r:List Int}{i:Nat}(hi:i<r.length)(hx:q (gi r i)=false): ∃j,i≤j∧j<(r.filter q++r.filter (fun x=> !q x)).length∧gi (r.filter q++r.filter (fun x=> !q x)) j=gi r i∧((∃m,i<m∧m<r.length∧q (gi r m)=true)→i<j):=by
 have hr:r=r.take i++gi r i::r.drop (i+1):=by
  rw [JJ hi]
  rw [List.getElem_cons_drop,List.take_append_drop]
 have hsplit: ∀l:List Int,l.length=(l.filter q).length+(l.filter (fun x=> !q x)).length:=fun l=>by
  induction l with
  |nil=>rfl
  |cons y l ih=>
   cases hy:q y<;>simp only [List.filter_cons,hy,List.length_cons,ih]<;>simp<;>omega
 have hti:(r.take i).length=i:=by rw [List.length_take];omega
 have h1:=hsplit (r.take i)
 rw [hti]at h1
 have hp:(r.filter q).length=((r.take i).filter q).length+((r.drop (i+1)).filter q).length:=by
  conv=>lhs;rw [hr]
  rw [List.filter_append,List.filter_cons,if_neg (by rw [hx];decide),List.length_append]
 have hq:r.filter (fun x=> !q x)=(r.take i).filter (fun x=> !q x)++gi r i::(r.drop (i+1)).filter (fun x=> !q x):=by
  conv=>lhs;rw [hr]
  rw [List.filter_append,List.filter_cons,if_pos (by rw [hx];rfl)]
 refine⟨(r.filter q).length+((r.take i).filter (fun x=> !q x)).length,by omega,?_,?_,?_⟩
 ·rw [List.length_append,hq,List.length_append,List.length_cons]
  omega
 ·unfold gi
  rw [List.getD_eq_getElem?_getD,List.getElem?_append_right (by omega),Nat.add_sub_cancel_left,hq,List.getElem?_append_right (Nat.le_refl _),Nat.sub_self]
  rfl
 ·rintro⟨m,h2,h3,h4⟩
  have h5:gi r m∈(r.drop (i+1)).filter q:=by
   refine List.mem_filter.2 ⟨?_,h4⟩
   rw [JJ h3]
   refine List.mem_iff_getElem.2 ⟨m - (i+1),by rw [List.length_drop];omega,?_⟩
   rw [List.getElem_drop]
   congr 1
   omega
  have h6:0<((r.drop (i+1)).filter q).length:=List.length_pos_of_mem h5
  omega
theorem zGu {r:List Int}(hn:r.Nodup){v:Int}(h:v∈r):r.filter (fun x=>decide (x=v))= [v]:=by
 induction r with
 |nil=>cases h
 |cons y r ih=>
  rw [List.nodup_cons]at hn
  by_cases e:y=v
  ·subst e
   rw [List.filter_cons,if_pos (decide_eq_true rfl)]
   congr 1
   rw [List.filter_eq_nil_iff]
   intro x hx h9
   rw [decide_eq_true_eq]at h9
   subst h9
   exact hn.1 hx
  ·rw [List.filter_cons,if_neg (by rw [decide_eq_true_eq];exact e)]
   rcases List.mem_cons.1 h with h9|h9
   ·exact absurd h9.symm e
   ·exact ih hn.2 h9
theorem zD9 {r:List Int}(hn:r.Nodup)(v:Int):JQ r v=r.filter (fun x=>decide (x=v))++r.filter (fun x=> !decide (x=v)):=by
 cases hb:zn r v with
 |true=>
  rw [zFl hb,zGu hn ((yg _ _).1 hb)]
  rfl
 |false=>
  have hnv: ¬v∈r:=fun h=>by rw [(yg _ _).2 h]at hb;cases hb
  rw [zHG hb,List.filter_eq_nil_iff.2 fun x hx h9=>by rw [decide_eq_true_eq]at h9;subst h9;exact hnv hx,List.nil_append]
  symm
  rw [List.filter_eq_self]
  intro x hx
  rw [Bool.not_eq_true',decide_eq_false_iff_not]
  rintro rfl
  exact hnv hx
structure qD (f:Fm)(L:Nat)(rec:Nat→List Int)(v:Nat→Int):Prop where
 pos:0<L
 ok: ∀t,visB f (rec t)=true
 next: ∀t,rec (t+1)=JQ (rec t) (v t)
 perR: ∀t,rec (t+L)=rec t
 perV: ∀t,v (t+L)=v t
section
variable {f:Fm} {L:Nat} {rec:Nat→List Int} {v:Nat→Int}
theorem qD.nd (h:qD f L rec v)(t:Nat):(rec t).Nodup:=(Wo (h.ok t)).2.2.2.1
theorem qD.mem (h:qD f L rec v)(t:Nat)(x:Int):x∈rec t↔x∈f.names:=(Wo (h.ok t)).2.2.2.2 x
theorem qD.len (h:qD f L rec v)(t:Nat):(rec t).length=f.names.length:=by
 have :=(Wo (h.ok t)).2.1
 rw [←this,Xq]
theorem qD.up (h:qD f L rec v){t i:Nat}(hi:i<f.names.length)(hx: ¬gi (rec t) i=v t): ∃j,i≤j∧j<f.names.length∧gi (rec (t+1)) j=gi (rec t) i∧((∃m,i<m∧m<f.names.length∧gi (rec t) m=v t)→i<j):=by
 obtain⟨j,h1,h2,h3,h4⟩:=zJP (q:=fun x=>decide (x=v t)) (r:=rec t) (i:=i) (by rw [h.len];exact hi) (decide_eq_false hx)
 rw [←zD9 (h.nd t),←h.next]at h2 h3
 rw [h.len]at h2
 exact⟨j,h1,h2,h3,fun⟨m,m1,m2,m3⟩=>h4 ⟨m,m1,by rw [h.len];exact m2,decide_eq_true m3⟩⟩
theorem qD.mono (h:qD f L rec v){T i:Nat}(hi:i<f.names.length): ∀d,(∀s,s<d→¬gi (rec T) i=v (T+s))→∃j,i≤j∧j<f.names.length∧gi (rec (T+d)) j=gi (rec T) i
 |0,_=>⟨i,Nat.le_refl _,hi,rfl⟩
 |d+1,hg=>by
  obtain⟨j,h1,h2,h3⟩:=qD.mono h hi d fun s hs=>hg s (by omega)
  have hgd:=hg d (by omega)
  rw [←h3]at hgd
  obtain⟨m,k1,k2,k3,-⟩:=h.up h2 hgd
  exact⟨m,by omega,k2,k3.trans h3⟩
theorem qD.per (h:qD f L rec v)(t:Nat): ∀m,rec (t+m*L)=rec t∧v (t+m*L)=v t
 |0=>by simp
 |m+1=>by
  have ih:=qD.per h t m
  rw [show t+(m+1)*L=(t+m*L)+L from by rw [Nat.succ_mul];omega,h.perR,h.perV]
  exact ih
theorem qD.mod (h:qD f L rec v)(t:Nat):rec t=rec (t%L)∧v t=v (t%L):=by
 have :=h.per (t%L) (t / L)
 rw [show t%L+t / L*L=t from by rw [Nat.mul_comm];exact Nat.mod_add_div t L]at this
 exact this
theorem qD.never (h:qD f L rec v){t i:Nat}(hi:i<f.names.length)(hn: ∀s,¬gi (rec t) i=v s){m:Nat}(hm:m<f.names.length)(hg:gi (rec t) m=v t):m<i:=by
 rcases Nat.lt_trichotomy m i with h1|h1|h1
 ·exact h1
 ·subst h1;exact absurd hg (hn t)
 ·exfalso
  obtain⟨j,k1,k2,k3,k4⟩:=h.up (t:=t) hi (hn t)
  have k5:=k4 ⟨m,h1,hm,hg⟩
  obtain⟨q,q1,q2,q3⟩:=h.mono (T:=t+1) k2 (L - 1) fun s _=>by rw [k3];exact hn _
  rw [show t+1+(L - 1)=t+L from by have :=h.pos;omega,h.perR,k3]at q3
  have hl:=h.len t
  have :=zH6 (h.nd t) (by omega) (by omega) q3
  omega
theorem We {r:List Int}{x:Int}(hn:r.Nodup){i:Nat}(hi:i<r.length)(e:gi r i=x):Yj f r x=2*i+(if QO f.sets (Zd f.names (r.take (i+1)))then 2 else 1):=
 zHQ hi (fun j hj e9=>by have :=zH6 hn (i:=j) (j:=i) (by omega) hi (e9.trans e.symm);omega) e
theorem qD.law (h:qD f L rec v){M:Int}(h1: ∃T,T<L∧Yj f (rec T) (v T)=M)(h2: ∀t,t<L→Yj f (rec t) (v t)≤M){met:List Int}(hm: ∀x,x∈f.names→(zn met x=true↔∃t,t<L∧v t=x)):
  M%2=0↔QO f.sets (Zd f.names met)=true:=by
 have hmax: ∀t,Yj f (rec t) (v t)≤M:=fun t=>by
  have :=h.mod t
  rw [this.1,this.2]
  exact h2 _ (Nat.mod_lt _ h.pos)
 obtain⟨T,hT,hM⟩:=h1
 have hnone: ∀t,zn (rec t) (v t)=false→Yj f (rec t) (v t)=if QO f.sets []then 0 else 1:=fun t e=>by unfold Yj;rw [e];rfl
 rcases Classical.em (∃t,zn (rec t) (v t)=true)with hex|hno
 ·-- a time at which a name is met,with the greatest priority
  have key: ∃T1,zn (rec T1) (v T1)=true∧Yj f (rec T1) (v T1)=M:=by
   cases hb:zn (rec T) (v T)with
   |true=>exact⟨T,hb,hM⟩
   |false=>
    obtain⟨t0,ht0⟩:=hex
    refine⟨t0,ht0,?_⟩
    obtain⟨i,hi,e⟩:=UU ((yg _ _).1 ht0)
    have e1:=We (f:=f) (h.nd t0) hi e
    have e2:=hnone T hb
    have e3:=hmax t0
    have e4:M≤1:=by rw [←hM,e2];split<;>omega
    have e5:(1:Int)≤(if QO f.sets (Zd f.names ((rec t0).take (i+1)))then 2 else 1):=by split<;>omega
    rw [e1]at e3⊢
    omega
  obtain⟨T1,ht1,hM1⟩:=key
  obtain⟨c,hc,hce⟩:=UU ((yg _ _).1 ht1)
  have hlc:=h.len T1
  have e1:=We (f:=f) (h.nd T1) hc hce
  have hset:Zd f.names ((rec T1).take (c+1))=Zd f.names met:=by
   unfold Zd
   refine List.filter_congr fun x hx=> ?_
   rw [Bool.eq_iff_iff,hm x hx,yg]
   constructor
   ·intro hxm
    obtain⟨p,hp,hpe⟩:=UU hxm
    rw [List.length_take]at hp
    have hpe2:gi (rec T1) p=x:=by
     rw [←hpe]
     unfold gi
     rw [List.getD_eq_getElem?_getD,List.getD_eq_getElem?_getD,List.getElem?_take,if_pos (by omega)]
    rcases Classical.em (∃s,v s=x)with⟨s,hs⟩|hv
    ·exact⟨s%L,Nat.mod_lt _ h.pos,by rw [←(h.mod s).2];exact hs⟩
    ·exfalso
     have :=h.never (t:=T1) (i:=p) (by omega) (fun s e=>hv ⟨s,by rw [←e];exact hpe2⟩) (m:=c) (by omega) hce
     omega
   ·rintro⟨s,hs,hse⟩
    obtain⟨p,hp,hpe⟩:=UU ((h.mem T1 x).2 hx)
    rcases Nat.lt_or_ge c p with hcp|hcp
    ·exfalso
     -- its first visit from T1 on
     have hexd: ∃d,v (T1+d)=x:=by
      have h9:=h.per s (T1+1)
      have h10:T1+1≤(T1+1)*L:=Nat.le_mul_of_pos_right _ h.pos
      refine⟨s+(T1+1)*L - T1,?_⟩
      rw [show T1+(s+(T1+1)*L - T1)=s+(T1+1)*L from by omega,h9.2]
      exact hse
     have hfst9: ∀n,(∃d,d<n∧v (T1+d)=x∧∀q,q<d→¬v (T1+q)=x)∨∀q,q<n→¬v (T1+q)=x:=by
      intro n
      induction n with
      |zero=>exact .inr fun q hq=>absurd hq (Nat.not_lt_zero q)
      |succ n ih=>
       rcases ih with⟨d,d1,d2,d3⟩|ih
       ·exact .inl ⟨d,by omega,d2,d3⟩
       ·by_cases hb:v (T1+n)=x
        ·exact .inl ⟨n,by omega,hb,ih⟩
        ·refine .inr fun q hq=> ?_
         rcases Nat.lt_or_ge q n with h9|h9
         ·exact ih q h9
         ·rw [show q=n by omega];exact hb
     obtain⟨d0,hd0⟩:=hexd
     rcases hfst9 (d0+1)with⟨d,-,d2,d3⟩|hk
     ·obtain⟨j,j1,j2,j3⟩:=h.mono (T:=T1) (i:=p) (by omega) d fun q hq=>by rw [hpe];exact fun e=>d3 q hq e.symm
      have hlj:=h.len (T1+d)
      have e5:=We (f:=f) (h.nd (T1+d)) (i:=j) (x:=v (T1+d)) (by omega) (by rw [j3,hpe,d2])
      have e6:=hmax (T1+d)
      rw [e5]at e6
      rw [←hM1,e1]at e6
      split at e6<;>split at e6<;>omega
     ·exact absurd hd0 (hk d0 (by omega))
    ·refine List.mem_iff_getElem.2 ⟨p,by rw [List.length_take];omega,?_⟩
     rw [List.getElem_take,←JJ hp]
     exact hpe
  rw [←hset,←hM1,e1]
  cases QO f.sets (Zd f.names ((rec T1).take (c+1)))with
  |true=>simp only [if_true,iff_true];omega
  |false=>simp only [Bool.false_eq_true,if_false,iff_false];omega
 ·have hb: ∀t,zn (rec t) (v t)=false:=fun t=>by
   cases hb:zn (rec t) (v t)with
   |false=>rfl
   |true=>exact absurd ⟨t,hb⟩ hno
  have hset:Zd f.names met= []:=by
   unfold Zd
   rw [List.filter_eq_nil_iff]
   intro x hx hxm
   obtain⟨t,ht,e⟩:=(hm x hx).1 hxm
   have :=hb t
   rw [e,(yg _ _).2 ((h.mem t x).2 hx)]at this
   cases this
  rw [hset,←hM,hnone T (hb T)]
  cases QO f.sets []<;>simp
end
section
variable {a:Ar} {rc:Plc→List Int} {pr:Plc→Int} {p0:Plc} {V:List Int→Prop} {B:Nat}
end
def vb (a b:List Int):Bool:=a.any fun x=>zn b x
theorem zKj {a b:List Int}(h: ∀j,j<a.length→zn b (gi a j)=false):vb a b=false:=by
 unfold vb
 rw [List.any_eq_false]
 intro x hx
 obtain⟨k,hk,rfl⟩:=zKh hx
 rw [h k hk];simp
theorem zJI {a b:List Int}{j:Nat}(hj:j<a.length)(h:zn b (gi a j)=true):vb a b=true:=by
 unfold vb
 rw [List.any_eq_true]
 exact⟨_,zAh hj,h⟩
def bkB (ps:List Pr)(met:List Int)(i:Nat):Bool:=vb (gp ps i).ask met&& !vb (gp ps i).give met
theorem zJ0 {ps:List Pr}{met:List Int}{i:Nat}(h:vb (gp ps i).ask met=false):bkB ps met i=false:=by unfold bkB;rw [h];rfl
theorem zJ1 {ps:List Pr}{met:List Int}{i:Nat}(h:vb (gp ps i).give met=true):bkB ps met i=false:=by unfold bkB;rw [h];simp
theorem zJ2 {ps:List Pr}{met:List Int}{i:Nat}(h:vb (gp ps i).ask met=true)(h2:vb (gp ps i).give met=false):bkB ps met i=true:=by unfold bkB;rw [h,h2];rfl
def bkN (ps:List Pr)(met:List Int)(k:Nat):List Int:=((List.range k).filter (bkB ps met)).map fun(i:Nat)=>(i:Int)
theorem zIl {ps:List Pr}{met:List Int}{k:Nat}(h:bkB ps met k=true):bkN ps met (k+1)=bkN ps met k++ [(k:Int)]:=by unfold bkN;rw [List.range_succ,List.filter_append,List.map_append];simp [h]
theorem zJz {ps:List Pr}{met:List Int}{k:Nat}(h:bkB ps met k=false):bkN ps met (k+1)=bkN ps met k:=by unfold bkN;rw [List.range_succ,List.filter_append];simp [h]
theorem zJy (ps:List Pr)(met:List Int)(k:Nat):(bkN ps met k).length≤k:=by unfold bkN;rw [List.length_map];exact Nat.le_trans (List.length_filter_le _ _) (by simp)
set_option maxRecDepth 20000 in
set_option maxHeartbeats 4000000 in
theorem qU (a b:List Int)(ha:a.length≤1048576)(hb:b.length≤1048576):Fn Try.prog tyT 82 [.c (DI a), .c (DI b)] [.c (.bool (vb a b))]:=by
 refine yK (fn:=Try.f82) (ts:= [4]) Try.func82 (by kernel_rfl) rfl rfl (by rw [Try.ntmps82];exact Nat.le_of_ble_eq_true rfl) rfl (by simp only [szA,List.mem_cons,List.not_mem_nil,or_false,forall_eq_or_imp,forall_eq,VT.cells,szL];try decide) ?_
 rw [Try.ntmps82]
 simp only [push_cast,↓zK,↓zJ,↓reduceIte,zA,zB,zC,zD,zE,zF,zG,zH,zI,reduceCtorEq]
 refine zL fun K hK=> ?_
 refine zM zQ zO [] rfl ?_
 simp only [push_cast,↓zK,↓zJ,↓reduceIte,zA,zB,zC,zD,zE,zF,zG,zH,zI,reduceCtorEq]
 repeat' apply And.intro
 all_goals try exact gB
 all_goals first|(refine hK _ ?_;clear hK K)|(simp only [push_cast];done)
 refine zL fun K1 hK1=> ?_
 refine zL fun K hK=> ?_
 refine zM zQ zO [] rfl ?_
 simp only [push_cast,↓zK,↓zJ,↓reduceIte,zA,zB,zC,zD,zE,zF,zG,zH,zI,reduceCtorEq]
 repeat' apply And.intro
 all_goals try exact gB
 all_goals first|(refine hK _ ?_;clear hK K)|(simp only [push_cast];done)
 refine zT ?_
 refine zh [4,5,6,7,8,9,10,11,12,13,14,15,16,17] [] (fun(k:Nat)=> [(5, .int .i64 k)]) (fun k=> []) (fun k=> []) (fun k=>k≤a.length∧∀j,j<k→zn b (gi a j)=false) (fun k=>a.length - k) 0 ?_ ⟨by omega,fun j hj=>by omega⟩ ?_
 ·
  refine zX rfl ?_ ?_ ?_<;>simp only [zg,zf,push_cast,↓zK,↓zJ,↓reduceIte,zA,zB,zC,zD,zE,zF,zG,zH,zI,reduceCtorEq]
 ·rintro k ⟨hk,hall⟩ KL0 hL0
  simp only [push_cast,↓zK,↓zJ,↓reduceIte,zA,zB,zC,zD,zE,zF,zG,zH,zI,reduceCtorEq]
  refine zL fun K2 hK2=> ?_
  refine zL fun K hK=> ?_
  refine zM zQ zO [] rfl ?_
  simp only [push_cast,↓zK,↓zJ,↓reduceIte,zA,zB,zC,zD,zE,zF,zG,zH,zI,reduceCtorEq]
  repeat' apply And.intro
  all_goals try exact gB
  all_goals first|(refine hK _ ?_;clear hK K)|(simp only [push_cast];done)
  refine zU rfl (fun hc=> ?_) (fun hc=> ?_)<;>(try simp only [push_cast]at hc)
  ·
   refine zV ?_
   (try simp only [zR,zS,reduceIte,zF]);refine hK2 _ ?_
   refine zL fun K3 hK3=> ?_
   refine zT ?_
   refine zL fun K hK=> ?_
   refine zM zQ zO [] rfl ?_
   all_goals refine yz 6 fun K9 hK9=> ?_
   all_goals simp only [push_cast,↓zK,↓zJ,↓reduceIte,zA,zB,zC,zD,zE,zF,zG,zH,zI,reduceCtorEq]
   all_goals repeat'(first|(apply zP<;>(intro hg;(try simp only [push_cast]at hg)))|(refine⟨_,Xd b _ hb,?_⟩;simp only [push_cast,↓zK,↓zJ,↓reduceIte,zA,zB,zC,zD,zE,zF,zG,zH,zI,reduceCtorEq])|apply And.intro|(intro hg;(try simp only [push_cast]at hg)))
   all_goals try exact gA
   all_goals first|(refine hK9 _ ?_;clear hK9 K9)|(simp only [push_cast];done)
   all_goals simp only [push_cast,↓zK,↓zJ,↓reduceIte,zA,zB,zC,zD,zE,zF,zG,zH,zI,reduceCtorEq]
   all_goals repeat'(first|(apply zP<;>(intro hg;(try simp only [push_cast]at hg)))|(refine⟨_,Xd b _ hb,?_⟩;simp only [push_cast,↓zK,↓zJ,↓reduceIte,zA,zB,zC,zD,zE,zF,zG,zH,zI,reduceCtorEq])|apply And.intro|(intro hg;(try simp only [push_cast]at hg)))
   all_goals try exact gA
   all_goals first|(refine hK _ ?_;clear hK K)|(simp only [push_cast];done)
   refine zU rfl (fun hc=> ?_) (fun hc=> ?_)<;>(try simp only [push_cast]at hc)
   ·
    refine zL fun K hK=> ?_
    refine zM zQ zO [] rfl ?_
    simp only [push_cast,↓zK,↓zJ,↓reduceIte,zA,zB,zC,zD,zE,zF,zG,zH,zI,reduceCtorEq]
    repeat' apply And.intro
    all_goals try exact gB
    all_goals first|(refine hK _ ?_;clear hK K)|(simp only [push_cast];done)
    refine zc ?_
    (try simp only [zR,zS])
    refine⟨Or.inl rfl,?_⟩
    simp only [zi,push_cast,↓zK,↓zJ,↓reduceIte,zA,zB,zC,zD,zE,zF,zG,zH,zI,reduceCtorEq]
    exact(zJI (j:=k) (by omega) (by with_reducible assumption)).symm
   ·
    refine zV ?_
    (try simp only [zR,zS,reduceIte,zF]);refine hK3 _ ?_
    refine zM zQ zO [] rfl ?_
    simp only [push_cast,↓zK,↓zJ,↓reduceIte,zA,zB,zC,zD,zE,zF,zG,zH,zI,reduceCtorEq]
    repeat' apply And.intro
    all_goals try exact gB
    refine hL0 _ ⟨k+1,⟨by omega,fun j hj=>(by
      by_cases hjk:j=k
      ·subst hjk;with_reducible assumption
      ·exact hall j (by omega))⟩,by omega,?_⟩
    refine zX rfl ?_ ?_ ?_<;>simp only [zg,zf,push_cast,↓zK,↓zJ,↓reduceIte,zA,zB,zC,zD,zE,zF,zG,zH,zI,reduceCtorEq]
  ·
   refine zm ?_
   (try simp only [zR,zS,reduceIte,zF]);refine hK1 _ ?_
   refine zL fun K hK=> ?_
   refine zM zQ zO [] rfl ?_
   simp only [push_cast,↓zK,↓zJ,↓reduceIte,zA,zB,zC,zD,zE,zF,zG,zH,zI,reduceCtorEq]
   repeat' apply And.intro
   all_goals try exact gB
   all_goals first|(refine hK _ ?_;clear hK K)|(simp only [push_cast];done)
   refine zc ?_
   (try simp only [zR,zS])
   refine⟨Or.inl rfl,?_⟩
   simp only [zi,push_cast,↓zK,↓zJ,↓reduceIte,zA,zB,zC,zD,zE,zF,zG,zH,zI,reduceCtorEq]
   exact(zKj fun j hj=>hall j (by omega)).symm
set_option maxRecDepth 20000 in
set_option maxHeartbeats 4000000 in
theorem zAs (ps:List Pr)(ha:PLn 1048576 ps)(met:List Int)(hm:met.length≤1048576):Fn Try.prog tyT 62 [.c (.lst 76 (dII (ilv ps))), .c (DI met)] [.c (DI (bkN ps met ps.length))]:=by
 have hl:=ha.1
 have hg:=fun k=>jG ha k
 have hga: ∀k,(gp ps k).ask.length≤1048576:=fun k=>(hg k).ask
 have hgg: ∀k,(gp ps k).give.length≤1048576:=fun k=>(hg k).give
 have hli:=wT ps
 refine yK (fn:=Try.f62) (ts:= [4]) Try.func62 (by kernel_rfl) rfl rfl (by rw [Try.ntmps62];exact Nat.le_of_ble_eq_true rfl) rfl (by simp only [szA,List.mem_cons,List.not_mem_nil,or_false,forall_eq_or_imp,forall_eq,VT.cells,szL];try decide) ?_
 rw [Try.ntmps62]
 simp only [push_cast,↓zK,↓zJ,↓reduceIte,zA,zB,zC,zD,zE,zF,zG,zH,zI,reduceCtorEq]
 refine zL fun K hK=> ?_
 refine zM zQ zO [] rfl ?_
 all_goals simp only [push_cast,↓zK,↓zJ,↓reduceIte,zA,zB,zC,zD,zE,zF,zG,zH,zI,reduceCtorEq]
 all_goals repeat'(first|(apply zP<;>(intro hg;(try simp only [push_cast]at hg)))|apply And.intro|(intro hg;(try simp only [push_cast]at hg)))
 all_goals first|exact gA|(exact zN (by simp only [push_cast];omega))|(exact zN (by omega))|skip
 all_goals first|(refine hK _ ?_;clear hK K)|(simp only [push_cast];done)
 refine zL fun K hK=> ?_
 refine zM zQ zO [] rfl ?_
 all_goals simp only [push_cast,↓zK,↓zJ,↓reduceIte,zA,zB,zC,zD,zE,zF,zG,zH,zI,reduceCtorEq]
 all_goals repeat'(first|(apply zP<;>(intro hg;(try simp only [push_cast]at hg)))|apply And.intro|(intro hg;(try simp only [push_cast]at hg)))
 all_goals first|exact gA|(exact zN (by simp only [push_cast];omega))|(exact zN (by omega))|skip
 all_goals first|(refine hK _ ?_;clear hK K)|(simp only [push_cast];done)
 refine zL fun K1 hK1=> ?_
 refine zL fun K hK=> ?_
 refine zM zQ zO [] rfl ?_
 all_goals simp only [push_cast,↓zK,↓zJ,↓reduceIte,zA,zB,zC,zD,zE,zF,zG,zH,zI,reduceCtorEq]
 all_goals repeat'(first|(apply zP<;>(intro hg;(try simp only [push_cast]at hg)))|apply And.intro|(intro hg;(try simp only [push_cast]at hg)))
 all_goals first|exact gA|(exact zN (by simp only [push_cast];omega))|(exact zN (by omega))|skip
 all_goals first|(refine hK _ ?_;clear hK K)|(simp only [push_cast];done)
 refine zT ?_
 refine zh [5,6,8,9,10,11,12,13,14,15,16,17,18,19,20,21,22,23,24,25,26,27,28,29,30,31,32,33,34] [80] (fun(k:Nat)=> [(6, .int .i64 k),(5, .sl 80 [] 0 (bkN ps met k).length 2)]) (fun k=> []) (fun k=> [(80,⟨.ex,2,dI (bkN ps met k),none⟩)]) (fun k=>k≤ps.length) (fun k=>ps.length - k) 0 ?_ (by omega) ?_
 ·
  rw [show bkN ps met 0= []from rfl,show dI ([]:List Int)= []from rfl]
  refine zX rfl ?_ ?_ ?_<;>simp only [zg,zf,push_cast,↓zK,↓zJ,↓reduceIte,zA,zB,zC,zD,zE,zF,zG,zH,zI,reduceCtorEq]
 ·rintro k hk KL0 hL0
  have hbl:=zJy ps met k
  simp only [push_cast,↓zK,↓zJ,↓reduceIte,zA,zB,zC,zD,zE,zF,zG,zH,zI,reduceCtorEq]
  refine zL fun K2 hK2=> ?_
  refine zL fun K hK=> ?_
  refine zM zQ zO [] rfl ?_
  all_goals simp only [push_cast,↓zK,↓zJ,↓reduceIte,zA,zB,zC,zD,zE,zF,zG,zH,zI,reduceCtorEq]
  all_goals repeat'(first|(apply zP<;>(intro hg;(try simp only [push_cast]at hg)))|apply And.intro|(intro hg;(try simp only [push_cast]at hg)))
  all_goals first|exact gA|(exact zN (by simp only [push_cast];omega))|(exact zN (by omega))|skip
  all_goals first|(refine hK _ ?_;clear hK K)|(simp only [push_cast];done)
  refine zU rfl (fun hc=> ?_) (fun hc=> ?_)<;>(try simp only [push_cast]at hc)
  ·
   refine zV ?_
   (try simp only [zR,zS,reduceIte,zF]);refine hK2 _ ?_
   refine zL fun K3 hK3=> ?_
   refine zT ?_
   refine zL fun K hK=> ?_
   refine za false zQ zO ?_ rfl ?_
   ·kernel_rfl
   all_goals refine zo 7 fun K9 hK9=> ?_
   all_goals simp only [push_cast,↓zK,↓zJ,↓reduceIte,zA,zB,zC,zD,zE,zF,zG,zH,zI,reduceCtorEq]
   all_goals repeat'(first|(apply zP<;>(intro hg;(try simp only [push_cast]at hg)))|(refine⟨_,qU (gp ps k).ask met (hga k) hm,?_⟩;simp only [push_cast,↓zK,↓zJ,↓reduceIte,zA,zB,zC,zD,zE,zF,zG,zH,zI,reduceCtorEq])|(refine⟨_,qU (gp ps k).give met (hgg k) hm,?_⟩;simp only [push_cast,↓zK,↓zJ,↓reduceIte,zA,zB,zC,zD,zE,zF,zG,zH,zI,reduceCtorEq])|apply And.intro|(intro hg;(try simp only [push_cast]at hg)))
   all_goals first|exact gA|(exact zN (by simp only [push_cast];omega))|(exact zN (by omega))|skip
   all_goals first|(refine hK9 _ ?_;clear hK9 K9)|(simp only [push_cast];done)
   all_goals refine zo 8 fun K9 hK9=> ?_
   all_goals simp only [push_cast,↓zK,↓zJ,↓reduceIte,zA,zB,zC,zD,zE,zF,zG,zH,zI,reduceCtorEq]
   all_goals repeat'(first|(apply zP<;>(intro hg;(try simp only [push_cast]at hg)))|(refine⟨_,qU (gp ps k).ask met (hga k) hm,?_⟩;simp only [push_cast,↓zK,↓zJ,↓reduceIte,zA,zB,zC,zD,zE,zF,zG,zH,zI,reduceCtorEq])|(refine⟨_,qU (gp ps k).give met (hgg k) hm,?_⟩;simp only [push_cast,↓zK,↓zJ,↓reduceIte,zA,zB,zC,zD,zE,zF,zG,zH,zI,reduceCtorEq])|apply And.intro|(intro hg;(try simp only [push_cast]at hg)))
   all_goals first|exact gA|(exact zN (by simp only [push_cast];omega))|(exact zN (by omega))|skip
   all_goals first|(refine hK9 _ ?_;clear hK9 K9)|(simp only [push_cast];done)
   all_goals simp only [push_cast,↓zK,↓zJ,↓reduceIte,zA,zB,zC,zD,zE,zF,zG,zH,zI,reduceCtorEq]
   all_goals repeat'(first|(apply zP<;>(intro hg;(try simp only [push_cast]at hg)))|(refine⟨_,qU (gp ps k).ask met (hga k) hm,?_⟩;simp only [push_cast,↓zK,↓zJ,↓reduceIte,zA,zB,zC,zD,zE,zF,zG,zH,zI,reduceCtorEq])|(refine⟨_,qU (gp ps k).give met (hgg k) hm,?_⟩;simp only [push_cast,↓zK,↓zJ,↓reduceIte,zA,zB,zC,zD,zE,zF,zG,zH,zI,reduceCtorEq])|apply And.intro|(intro hg;(try simp only [push_cast]at hg)))
   all_goals first|exact gA|(exact zN (by simp only [push_cast];omega))|(exact zN (by omega))|skip
   all_goals first|(refine hK _ ?_;clear hK K)|(simp only [push_cast];done)
   all_goals refine zU rfl (fun hc=> ?_) (fun hc=> ?_)
   all_goals(first|(cases hc;done)|skip)
   all_goals(try simp only [push_cast]at hc)
   all_goals first
    |(
      refine zV ?_
      (try simp only [zR,zS,reduceIte,zF]);refine hK3 _ ?_
      refine zM zQ zO [] rfl ?_
      all_goals simp only [push_cast,↓zK,↓zJ,↓reduceIte,zA,zB,zC,zD,zE,zF,zG,zH,zI,reduceCtorEq]
      all_goals repeat'(first|(apply zP<;>(intro hg;(try simp only [push_cast]at hg)))|apply And.intro|(intro hg;(try simp only [push_cast]at hg)))
      all_goals first|exact gA|(exact zN (by simp only [push_cast];omega))|(exact zN (by omega))|skip
      refine hL0 _ ⟨k+1,by omega,by omega,?_⟩
      rw [zJz (by first|exact zJ0 (by with_reducible assumption)|exact zJ1 (by with_reducible assumption))]
      refine zX rfl ?_ ?_ ?_<;>simp only [zg,zf,push_cast,↓zK,↓zJ,↓reduceIte,zA,zB,zC,zD,zE,zF,zG,zH,zI,reduceCtorEq]
      all_goals(try(rw [List.length_append];rfl))
      done)
    |(
      refine zM zQ zO [] rfl ?_
      all_goals simp only [push_cast,↓zK,↓zJ,↓reduceIte,zA,zB,zC,zD,zE,zF,zG,zH,zI,reduceCtorEq]
      all_goals repeat'(first|(apply zP<;>(intro hg;(try simp only [push_cast]at hg)))|apply And.intro|(intro hg;(try simp only [push_cast]at hg)))
      all_goals first|exact gA|(exact zN (by simp only [push_cast];omega))|(exact zN (by omega))|skip
      (try simp only [zR,zS,reduceIte,zF]);refine hK3 _ ?_
      refine zM zQ zO [] rfl ?_
      all_goals simp only [push_cast,↓zK,↓zJ,↓reduceIte,zA,zB,zC,zD,zE,zF,zG,zH,zI,reduceCtorEq]
      all_goals repeat'(first|(apply zP<;>(intro hg;(try simp only [push_cast]at hg)))|apply And.intro|(intro hg;(try simp only [push_cast]at hg)))
      all_goals first|exact gA|(exact zN (by simp only [push_cast];omega))|(exact zN (by omega))|skip
      refine hL0 _ ⟨k+1,by omega,by omega,?_⟩
      (try rw [List.take_of_length_le (l:=bkN ps met k) (by omega)])
      rw [zIl (zJ2 (by with_reducible assumption) (by with_reducible assumption))]
      refine zX rfl ?_ ?_ ?_<;>simp only [zg,zf,push_cast,↓zK,↓zJ,↓reduceIte,zA,zB,zC,zD,zE,zF,zG,zH,zI,reduceCtorEq]
      all_goals(try(rw [List.length_append];rfl))
      done)
  ·
   refine zm ?_
   have hkk:k=ps.length:=by omega
   subst hkk
   (try simp only [zR,zS,reduceIte,zF]);refine hK1 _ ?_
   refine zL fun K hK=> ?_
   refine zM zQ zO [] rfl ?_
   all_goals simp only [push_cast,↓zK,↓zJ,↓reduceIte,zA,zB,zC,zD,zE,zF,zG,zH,zI,reduceCtorEq]
   all_goals repeat'(first|(apply zP<;>(intro hg;(try simp only [push_cast]at hg)))|apply And.intro|(intro hg;(try simp only [push_cast]at hg)))
   all_goals first|exact gA|(exact zN (by simp only [push_cast];omega))|(exact zN (by omega))|skip
   all_goals first|(refine hK _ ?_;clear hK K)|(simp only [push_cast];done)
   refine zc ?_
   (try simp only [zR,zS])
   refine⟨Or.inl rfl,?_⟩
   simp only [zi,push_cast,↓zK,↓zJ,↓reduceIte,zA,zB,zC,zD,zE,zF,zG,zH,zI,reduceCtorEq]
   all_goals first|rfl|exact⟨rfl,rfl⟩
section
variable {P:Program} {τ:Ty} {st:St}
end
def JE :Nat→List AV→List (Nat×AV)
 |_,[]=> []
 |i,v::vs=>(i,v)::JE (i+1) vs
theorem zAy : ∀(vs:List AV) (i k:Nat) (v:AV),lk (JE i vs) k=some v→∃j,vs[j]? =some v∧k=i+j
 | [],i,k,v,h=>by simp [JE,lk]at h
 |u::vs,i,k,v,h=>by
  simp only [JE,zd]at h
  split at h
  ·rename_i e
   cases h
   exact⟨0,rfl,by omega⟩
  ·obtain⟨j,h1,h2⟩:=zAy vs (i+1) k v h
   exact⟨j+1,by simpa using h1,by omega⟩
theorem zAp {P:Program}{τ:Ty}{fn:Func}{c:Code}{Q:Exit→St→Prop}{st:St}(hb:fn.body=some c)(h:awp P τ c Q st):awp P τ (fn.body.getD .skip) Q st:=by rw [hb];exact h
section
variable {P:Program} {τ:Ty} {lo:Nat} {w0:Fz} {st:St} {a:Act} {w:World}
end
section
variable {P:Program} {τ:Ty} {lo:Nat} {w0:Fz} {st:St} {w:World} {rr:List (Nat×zr)} {bb bb':List (Nat×List AV)} {hd:Nat→Value} {bk bk':Nat→Nat} {t T:Nat}
end
attribute [push_cast] JE
section
variable {P:Program} {np:Bool} {τ:Ty} {lo:Nat} {w0:Fz} {ow:Nat→Option Pl} {hd:Nat→Value} {bk:Nat→Nat} {st:St} {a:Act} {w:World}
end
section
variable {P:Program} {np:Bool} {τ:Ty} {lo:Nat} {w0:Fz} {ow:Nat→Option Pl} {hd:Nat→Value} {bk:Nat→Nat} {st:St} {a:Act} {w:World}
end
attribute [push_cast] XM
section
variable {P:Program} {all:List Oper} {T:List (List Nat)} {c:Nat} {Q':Exit→Act→World→Prop}
end
section
variable {P:Program} {τ:Ty} {lo:Nat} {w0:Fz} {st:St} {a:Act} {w:World}
variable {np:Bool} {ow:Nat→Option Pl} {hd:Nat→Value} {bk:Nat→Nat} {st':St}
end
attribute [push_cast] JD mkF
section
variable {P:Program} {τ:Ty} {lo:Nat} {w0:Fz} {ow:Nat→Option Pl} {hd:Nat→Value} {bk:Nat→Nat} {st:St} {a:Act} {w:World}
def Wy (P:Program)(τ:Ty)(al:List Nat)(X:Oper→(St→Prop)→St→Prop)(t:Option Nat)(K:St→Prop):List Oper→St→Prop
 | [],st=>K st
 |o::os,st=>
  match o.guard with
  |none=>if o.dst=t then X o (Wy P τ al X t K os) st else aop P τ al o (Wy P τ al X t K os) st
  |some (j,want)=>False
def QX (P:Program)(τ:Ty)(X:Oper→(St→Prop)→St→Prop):Prop:=
 ∀{lo:Nat} {w0:Fz} {st:St} {a:Act} {w:World} {o:Oper} {K:St→Prop} {Q:Exit→Act→World→Prop} {K':Act→World→Prop},(∀k,o.dst=some k→k<a.tmps.size)→Rel τ lo w0 st a w→X o K st→
  (∀st' x w',K st'→Rel τ lo w0 st' (a.put o.dst x) w'→K' (a.put o.dst x) w')→o.wp P a w K' Q
theorem Xz (hτ:zx P τ)(hpos:yL τ){al:List Nat}{X:Oper→(St→Prop)→St→Prop}(hX:QX P τ X){t:Option Nat}{all:List Oper}{K:St→Prop}{Q:Exit→Act→World→Prop}(hQ: ∀st a w,K st→Rel τ lo w0 st a w→Q .normal a w):
  ∀(os:List Oper) (st:St) (a:Act) (w:World),yn a.tmps.size os=true→Rel τ lo w0 st a w→Wy P τ al X t K os st→wpList P all.toArray Q os a w
 | [],st,a,w,_,h,ha=>wpList_nil (hQ st a w ha h)
 |o::os,st,a,w,hd,h,ha=>by
  have hd1: ∀k,o.dst=some k→k<a.tmps.size:=fun k hk=>by
   have :=List.all_eq_true.1 hd o (by simp)
   rw [hk]at this
   simpa using this
  have hd2:yn a.tmps.size os=true:=List.all_eq_true.2 fun x hx=>List.all_eq_true.1 hd x (by simp [hx])
  refine wpList_step fun K' hK'=> ?_
  simp only [Wy]at ha
  split at ha
  ·rename_i hg
   rw [if_pos (by simp [Region.wanted,hg])]
   split at ha
   ·exact hX hd1 h ha fun st' x w' h2 h3=>hK' _ _ (Xz hτ hpos @hX hQ os st' _ w' (by rw [xH];exact hd2) h3 h2)
   ·exact vu hτ hpos hd1 h ha fun st' x w' h2 h3=>hK' _ _ (Xz hτ hpos @hX hQ os st' _ w' (by rw [xH];exact hd2) h3 h2)
  ·exact ha.elim
end
theorem zAF {P:Program}{τ:Ty}{Q:Exit→St→Prop}{st:St}(X:Oper→(St→Prop)→St→Prop)(hX:QX P τ X)(t:Option Nat)(hτ:zx P τ)(hpos:yL τ)(al:List Nat){id:Nat}{ops:List Oper}(hd:yn st.n ops=true)(h:Wy P τ al X t (Q .normal) ops st):awp P τ (.region id ops.toArray false) Q st:=fun lo w0 a w hr=>by
 have hn:a.tmps.size=st.n:=by obtain⟨ow,hd,bk,h⟩:=hr;exact h.size
 refine wp_region_lit (Xz hτ hpos @hX (fun st a w h1 h2=>⟨st,h2,h1⟩) ops st a w (by rw [hn];exact hd) hr h)
attribute [push_cast] Wy
set_option pp.deepTerms true
set_option pp.maxSteps 1000000
def gvB (ps:List Pr)(r:List Int)(v:Int)(i:Nat):Bool:=zn (gp ps (gi r i).toNat).give v
def nrF (ps:List Pr)(r:List Int)(v:Int):Nat→List Int
 |0=> []
 |i+1=>if gvB ps r v i=true then nrF ps r v i++ [gi r i]else nrF ps r v i
def nrR (ps:List Pr)(r:List Int)(v:Int):Nat→List Int
 |0=> []
 |i+1=>if gvB ps r v i=true then nrR ps r v i else nrR ps r v i++ [gi r i]
theorem zJN {ps:List Pr}{r:List Int}{v:Int}{i:Nat}(h:gvB ps r v i=true):nrF ps r v (i+1)=nrF ps r v i++ [gi r i]:=if_pos h
theorem zKs {ps:List Pr}{r:List Int}{v:Int}{i:Nat}(h:gvB ps r v i=false):nrF ps r v (i+1)=nrF ps r v i:=if_neg (by rw [h];decide)
theorem zJO {ps:List Pr}{r:List Int}{v:Int}{i:Nat}(h:gvB ps r v i=true):nrR ps r v (i+1)=nrR ps r v i:=if_pos h
theorem zKt {ps:List Pr}{r:List Int}{v:Int}{i:Nat}(h:gvB ps r v i=false):nrR ps r v (i+1)=nrR ps r v i++ [gi r i]:=if_neg (by rw [h];decide)
def akB (ps:List Pr)(r:List Int)(v:Int)(i:Nat):Bool:=zn (gp ps (gi r i).toNat).ask v
def akI (ps:List Pr)(r:List Int)(v:Int):Nat→Int
 |0=> -1
 |i+1=>if akB ps r v i=true then(i:Int)else akI ps r v i
def gvI (ps:List Pr)(r:List Int)(v:Int):Nat→Int
 |0=> -1
 |i+1=>if gvB ps r v i=true then(i:Int)else gvI ps r v i
theorem zCV {ps:List Pr}{r:List Int}{v:Int}{i:Nat}(h:akB ps r v i=true):akI ps r v (i+1)=i:=if_pos h
theorem zEi {ps:List Pr}{r:List Int}{v:Int}{i:Nat}(h:akB ps r v i=false):akI ps r v (i+1)=akI ps r v i:=if_neg (by rw [h];decide)
theorem kN {ps:List Pr}{r:List Int}{v:Int}{i:Nat}(h:gvB ps r v i=true):gvI ps r v (i+1)=i:=if_pos h
theorem zAl {ps:List Pr}{r:List Int}{v:Int}{i:Nat}(h:gvB ps r v i=false):gvI ps r v (i+1)=gvI ps r v i:=if_neg (by rw [h];decide)
theorem zFQ (ps:List Pr)(r:List Int)(v:Int): ∀i,-1≤gvI ps r v i∧gvI ps r v i<i
 |0=>by show(-1:Int)≤ -1∧(-1:Int)<0;omega
 |i+1=>by
  have h:=zFQ ps r v i
  cases hb:gvB ps r v i with
  |true=>rw [kN hb];omega
  |false=>rw [zAl hb];omega
def prV (a g:Int):Int:=if a<0∧g<0 then 0 else if g<a then 2*a+1 else 2*g+2
theorem zI7 {s:List Int}{x:Int}:zn s x=true↔∃j,j<s.length∧gi s j=x:=by
 unfold zn
 rw [decide_eq_true_eq]
 constructor
 ·intro h;exact⟨_,h,zE7 h⟩
 ·rintro⟨j,hj,e⟩
  rcases Nat.lt_or_ge (qM s x) s.length with h|h
  ·exact h
  ·exact absurd e (zB1 (by have :=zCi s x;omega))
theorem gi_tk {s:List Int}{j k:Nat}(h:j<k):gi (s.take k) j=gi s j:=by
 unfold gi
 rw [List.getD_eq_getElem?_getD,List.getD_eq_getElem?_getD,List.getElem?_take_of_lt h]
def zEE (r:List Int)(n:Int)(i:Nat):Bool:=decide (0≤gi r i∧gi r i<n)&& !zn (r.take i) (gi r i)
def recB (r:List Int)(n:Int):Bool:=decide ((0≤n∧n≤4)∧(r.length:Int)=n)&&wd r.length (zEE r n)
theorem zHU {r:List Int}{n:Int}{i:Nat}(h:zEE r n i=true):(0≤gi r i∧gi r i<n)∧zn (r.take i) (gi r i)=false:=by
 unfold zEE at h
 rw [Bool.and_eq_true,decide_eq_true_eq,Bool.not_eq_true']at h
 exact h
theorem Xn {r:List Int}{n:Int}(h:recB r n=true):((0≤n∧n≤4)∧(r.length:Int)=n)∧∀i,i<r.length→(0≤gi r i∧gi r i<n)∧∀j,j<i→gi r j≠gi r i:=by
 unfold recB at h
 rw [Bool.and_eq_true,decide_eq_true_eq]at h
 refine⟨h.1,fun i hi=> ?_⟩
 have h1:=zHU (xt h.2 hi)
 refine⟨h1.1,fun j hj e=> ?_⟩
 have h2:zn (r.take i) (gi r i)=true:=zI7.2 ⟨j,by rw [List.length_take];omega,by rw [gi_tk hj];exact e⟩
 rw [h1.2]at h2
 cases h2
def gvP (ps:List Pr)(v x:Int):Bool:=zn (gp ps x.toNat).give v
def nxL (ps:List Pr)(r:List Int)(v:Int):List Int:=nrF ps r v r.length++nrR ps r v r.length
theorem zIN {r:List Int}{k:Nat}(h:k<r.length):r.take (k+1)=r.take k++ [gi r k]:=by
 rw [List.take_succ_eq_append_getElem h]
 unfold gi
 rw [List.getD_eq_getElem?_getD,List.getElem?_eq_getElem h]
 rfl
theorem zBA (ps:List Pr)(r:List Int)(v:Int): ∀k,k≤r.length→nrF ps r v k=(r.take k).filter (gvP ps v)
 |0,_=>by rw [List.take_zero];rfl
 |k+1,h=>by
  have ih:=zBA ps r v k (by omega)
  rw [zIN (by omega),List.filter_append]
  cases hb:gvB ps r v k with
  |true=>rw [zJN hb,ih,List.filter_cons,if_pos (show gvP ps v (gi r k)=true from hb)];rfl
  |false=>rw [zKs hb,ih,List.filter_cons,if_neg (show ¬gvP ps v (gi r k)=true from (by rw [show gvP ps v (gi r k)=false from hb];decide))];simp
theorem zBB (ps:List Pr)(r:List Int)(v:Int): ∀k,k≤r.length→nrR ps r v k=(r.take k).filter (fun x=> !gvP ps v x)
 |0,_=>by rw [List.take_zero];rfl
 |k+1,h=>by
  have ih:=zBB ps r v k (by omega)
  rw [zIN (by omega),List.filter_append]
  cases hb:gvB ps r v k with
  |true=>rw [zJO hb,ih,List.filter_cons,if_neg (show ¬(!gvP ps v (gi r k))=true from (by rw [show gvP ps v (gi r k)=true from hb];decide))];simp
  |false=>rw [zKt hb,ih,List.filter_cons,if_pos (show(!gvP ps v (gi r k))=true from (by rw [show gvP ps v (gi r k)=false from hb];rfl))];rfl
theorem zFn (ps:List Pr)(r:List Int)(v:Int):nxL ps r v=r.filter (gvP ps v)++r.filter (fun x=> !gvP ps v x):=by
 unfold nxL
 rw [zBA ps r v _ (Nat.le_refl _),zBB ps r v _ (Nat.le_refl _),List.take_length]
theorem zC3 {r:List Int}{x:Int}(h:x∈r): ∃i,i<r.length∧gi r i=x:=by
 obtain⟨i,hi,e⟩:=List.mem_iff_getElem.1 h
 refine⟨i,hi,?_⟩
 unfold gi
 rw [List.getD_eq_getElem?_getD,List.getElem?_eq_getElem hi]
 exact e
theorem JH {r:List Int}{i:Nat}(h:i<r.length):gi r i=r[i]:=by
 unfold gi
 rw [List.getD_eq_getElem?_getD,List.getElem?_eq_getElem h]
 rfl
theorem zFy {r:List Int}{n:Int}(h:recB r n=true):((0≤n∧n≤4)∧(r.length:Int)=n)∧(∀x∈r,0≤x∧x<n)∧r.Nodup:=by
 have hf:=Xn h
 refine⟨hf.1,fun x hx=> ?_,?_⟩
 ·obtain⟨i,hi,rfl⟩:=zC3 hx
  exact(hf.2 i hi).1
 ·rw [List.Nodup,List.pairwise_iff_getElem]
  intro i j hi hj hij
  rw [←JH hi,←JH hj]
  exact(hf.2 j hj).2 i hij
theorem zFt : ∀(n:Nat) (r:List Int),r.Nodup→(∀x∈r,0≤x∧x<(n:Int))→r.length≤n
 |0,r,_,h=>by
  cases r with
  |nil=>exact Nat.le_refl _
  |cons x r=>have :=h x (List.mem_cons_self ..);omega
 |n+1,r,hd,h=>by
  have h1:=zFt n (r.erase (n:Int)) (hd.erase _) (fun x hx=>by
   have h2:=(hd.mem_erase_iff).1 hx
   have h3:=h x h2.2
   have h4:=h2.1
   omega)
  have h2:=List.length_erase (a:=(n:Int)) (l:=r)
  split at h2<;>omega
theorem zBE : ∀(n:Nat) (r:List Int),r.Nodup→(∀x∈r,0≤x∧x<(n:Int))→r.length=n→r.Perm ((List.range n).map Int.ofNat)
 |0,r,_,_,hl=>by rw [List.eq_nil_of_length_eq_zero hl];exact List.Perm.refl _
 |n+1,r,hd,h,hl=>by
  have hm:(n:Int)∈r:=by
   rcases Classical.em ((n:Int)∈r)with hm|hm
   ·exact hm
   ·have :=zFt n r hd (fun x hx=>by
     have h3:=h x hx
     have h4:x≠(n:Int):=fun e=>hm (e ▸ hx)
     omega)
    omega
  have h1:=zBE n (r.erase (n:Int)) (hd.erase _) (fun x hx=>by
   have h2:=(hd.mem_erase_iff).1 hx
   have h3:=h x h2.2
   have h4:=h2.1
   omega) (by rw [List.length_erase_of_mem hm];omega)
  rw [List.range_succ,List.map_append]
  exact((List.perm_cons_erase hm).trans (h1.cons _)).trans (List.perm_append_singleton _ _).symm
def Yi (ps:List Pr)(r:List Int)(v:Int):Int:=prV (akI ps r v r.length) (gvI ps r v r.length)
attribute [irreducible] nxL Yi
end Go.Proofs.Ytggpbepdeilpgaa
