/- visits to named vertices: both sides -/
import Derived.Test.YthepmdkpbjfdcaaGreatB10zff
import Derived.Test.YthepmdkpbjfdcaaGreatB7zff
namespace Go.Proofs.YthepmdkpbjfdcaaGreat
open Nat renaming reduceMod → zA, reduceMul → zB, reduceDiv → zC, reduceAdd → zD, reduceSub → zE, reduceEqDiff → zF, reduceBEq → zG, reduceLT → zH, reduceLeDiff → zI
open Go.RowKit
set_option linter.unusedVariables false
set_option linter.unusedSimpArgs false
theorem ZT : ∀{xs ys:List Int},xs.Perm ys→xs.Pairwise (· ≤ ·)→ys.Pairwise (· ≤ ·)→xs=ys
 | [],ys,h,_,_=>(List.Perm.nil_eq h)
 |x::xs,[],h,_,_=>by have :=h.length_eq;simp at this
 |x::xs,y::ys,h,h1,h2=>by
  rw [List.pairwise_cons]at h1 h2
  have hx:x∈y::ys:=h.subset (by simp)
  have hy:y∈x::xs:=h.symm.subset (by simp)
  have e:x=y:=by
   rw [List.mem_cons]at hx hy
   rcases hx with hx|hx
   ·exact hx
   ·rcases hy with hy|hy
    ·exact hy.symm
    ·have :=h1.1 y hy;have :=h2.1 x hx;omega
  subst e
  rw [ZT ((List.perm_cons x).1 h) h1.2 h2.2]
theorem pw_le {xs:List Int}(h:xs.Pairwise (· < ·)):xs.Pairwise (· ≤ ·):=h.imp fun h=>by omega
theorem JW {xs:List Int}(h:xs.Pairwise (· < ·)):xs.Nodup:=h.imp fun h=>by omega
theorem kO {xs:List Int}(h:xs.Nodup):(zz xs).Pairwise (· < ·):=by
 have h1:=vd xs
 have h2:(zz xs).Nodup:=(xE xs).nodup_iff.2 h
 unfold List.Nodup at h2
 exact(h1.and h2).imp fun h=>by omega
def wW (f:Fm)(r:List Int):Bool:=xg f 256&&decide (zz r=f.names)
theorem zGB {f:Fm}{r:List Int}(h:xg f 256=true):wW f r=decide (zz r=f.names):=by unfold wW;rw [h];rfl
theorem qV {f:Fm}{r:List Int}(h:wW f r=true):xg f 256=true∧zz r=f.names∧r.length≤4∧r.Nodup∧∀x,x∈r↔x∈f.names:=by
 unfold wW at h
 rw [Bool.and_eq_true,decide_eq_true_eq]at h
 obtain⟨h1,h2⟩:=h
 have hn:=qC h1
 refine⟨h1,h2,by have :=xJ r;rw [h2]at this;omega,?_,fun x=> ?_⟩
 ·rw [←(xE r).nodup_iff,h2];exact JW (Ye hn.1)
 ·rw [←(xE r).mem_iff,h2]
theorem zMY {f:Fm}{r:List Int}(h:wW f r=true)(v:Int):zr f.names v=zr r v:=by
 have :=(qV h).2.2.2.2 v
 cases h1:zr f.names v<;>cases h2:zr r v<;>first|rfl|(have a:=yD f.names v;have b:=yD r v;rw [h1]at a;rw [h2]at b;simp_all)
theorem zEx {xs:List Int}(h:xs.Nodup)(k:Nat):(xs.take k).Nodup:=h.sublist (List.take_sublist _ _)
theorem zMZ {f:Fm}{r:List Int}(h:wW f r=true)(k:Nat):zz (r.take k)=ya f.names (r.take k):=by
 obtain⟨h1,h2,h3,h4,h5⟩:=qV h
 refine QH (kO (zEx h4 k)) ((Ye (qC h1).1).filter _) fun x=> ?_
 unfold ya
 rw [(xE _).mem_iff,List.mem_filter,yD,←h5]
 exact⟨fun hm=>⟨List.mem_of_mem_take hm,hm⟩,fun hm=>hm.2⟩
def ye (r:List Int)(v:Int):List Int:=if zr r v then v::r.filter (fun x=> !decide (x=v))else r
theorem uC {r:List Int}{v:Int}(h:zr r v=false):ye r v=r:=by unfold ye;rw [h];rfl
theorem Kg {r:List Int}{v:Int}(h:zr r v=true):ye r v=v::r.filter (fun x=> !decide (x=v)):=by unfold ye;rw [h];rfl
def xZ (f:Fm)(r:List Int)(v:Int):Int:=if zr r v then 2*qA r v+(if xn f.sets (ya f.names (r.take (qA r v+1)))then 2 else 1)else(if xn f.sets []then 0 else 1)
theorem XY {r:List Int}{v:Int}:zr r v=decide (qA r v<r.length):=rfl
theorem zGl (r:List Int)(v:Int): -1≤ixB r v∧ixB r v<r.length:=by
 unfold ixB
 split<;>omega
theorem zE7 {f:Fm}{r:List Int}{v:Int}{K:Nat}(h:ixB r v<0)(hK:K=(ixB r v+1).toNat)(hs:zz (r.take K)=ya f.names (r.take K))(ho:xn f.sets (zz (r.take K))=true):(0:Int)=xZ f r v:=by
 have hx: ¬qA r v<r.length:=fun h2=>by unfold ixB at h;rw [if_pos h2]at h;omega
 have :K=0:=by have :=(zGl r v).1;omega
 subst this
 rw [List.take_zero,VV]at ho
 unfold xZ
 rw [XY,decide_eq_false hx,ho]
 rfl
theorem zE8 {f:Fm}{r:List Int}{v:Int}{K:Nat}(h:ixB r v<0)(hK:K=(ixB r v+1).toNat)(hs:zz (r.take K)=ya f.names (r.take K))(ho:xn f.sets (zz (r.take K))=false):(1:Int)=xZ f r v:=by
 have hx: ¬qA r v<r.length:=fun h2=>by unfold ixB at h;rw [if_pos h2]at h;omega
 have :K=0:=by have :=(zGl r v).1;omega
 subst this
 rw [List.take_zero,VV]at ho
 unfold xZ
 rw [XY,decide_eq_false hx,ho]
 rfl
theorem kK {f:Fm}{r:List Int}{v:Int}{K:Nat}(h: ¬ixB r v<0)(hK:K=(ixB r v+1).toNat)(hs:zz (r.take K)=ya f.names (r.take K))(ho:xn f.sets (zz (r.take K))=true):2*ixB r v+1+1=xZ f r v:=by
 have hx:qA r v<r.length:=by
  unfold ixB at h
  split at h
  ·assumption
  ·omega
 have hi:ixB r v=qA r v:=by unfold ixB;rw [if_pos hx]
 have :K=qA r v+1:=by omega
 subst this
 rw [hs]at ho
 unfold xZ
 rw [XY,decide_eq_true hx,ho,hi]
 simp only [if_true]
 omega
theorem kJ {f:Fm}{r:List Int}{v:Int}{K:Nat}(h: ¬ixB r v<0)(hK:K=(ixB r v+1).toNat)(hs:zz (r.take K)=ya f.names (r.take K))(ho:xn f.sets (zz (r.take K))=false):2*ixB r v+1=xZ f r v:=by
 have hx:qA r v<r.length:=by
  unfold ixB at h
  split at h
  ·assumption
  ·omega
 have hi:ixB r v=qA r v:=by unfold ixB;rw [if_pos hx]
 have :K=qA r v+1:=by omega
 subst this
 rw [hs]at ho
 unfold xZ
 rw [XY,decide_eq_true hx,ho,hi]
 simp
set_option maxRecDepth 20000 in
set_option maxHeartbeats 4000000 in
theorem zAR (r:List Int)(hr:r.length≤1048576)(v:Int):Fn Tryz.prog tyT 158 [.c (DI r), .c (.int .i64 v)] [.c (DI (r.filter fun x=> !decide (x=v)))]:=by
 refine θH (ts:= [4]) Tryz.func158 Tryz.ntmps158 ?_
 push_cast
 refine θA ?_
 refine θA ?_
 refine zL fun K1 hK1=> ?_
 refine θA ?_
 refine zV ?_
 refine zh [5,7,11,12,13,14,15,16,17,18,19,20,21,22] [80] (fun(q:Nat×List Int)=> [(11, .int .i64 q.1),(5, .sl 80 [] 0 q.2.length 2)]) (fun q=> []) (fun q=> [(80,⟨.ex,2,dI q.2,none⟩)]) (fun q=>q.1≤r.length∧q.2=(r.take q.1).filter (fun x=> !decide (x=v))) (fun q=>r.length - q.1) (0,[]) ?_ ⟨by omega,rfl⟩ ?_
 ·
  simp only [show dI ([]:List Int)= []from rfl]
  exact θX
 ·rintro⟨k,o⟩ ⟨hk,ho⟩ KL0 hL0
  simp only at hk ho
  have hol:o.length≤r.length:=by rw [ho];exact uQ _ _ _
  push_cast
  refine θA ?_
  refine zL fun K2 hK2=> ?_
  refine θU (fun hc=> ?_) fun hc=> ?_
  ·
   refine zW (hK2 _ ?_)
   refine zL fun K3 hK3=> ?_
   refine zV ?_
   refine θA ?_
   refine θA ?_
   refine θU (fun hc=> ?_) fun hc=> ?_
   ·
    refine θB ?_
    refine hK3 _ ?_
    refine θB ?_
    refine hL0 _ ⟨(k+1,o++ [gi r k]),⟨by simp only;omega,by simp only;rw [kj (by omega) (by simp only [decide_eq_false hc,Bool.not_false]),←ho]⟩,by simp only;omega,?_⟩
    refine zX rfl ?_ ?_ ?_<;>push_cast [zf,ze]
    all_goals(try(rw [List.length_append];rfl))
   ·
    refine zW (hK3 _ ?_)
    refine θB ?_
    refine hL0 _ ⟨(k+1,o),⟨by simp only;omega,by simp only;rw [zAJ (by omega) (by simp only [decide_eq_true hc,Bool.not_true]),←ho]⟩,by simp only;omega,?_⟩
    exact θX
    all_goals(try(rw [List.length_append];rfl))
  ·
   refine zi ?_
   have hkk:k=r.length:=by omega
   subst hkk
   rw [List.take_length]at ho
   refine hK1 _ ?_
   refine θA ?_
   refine zY ⟨Or.inl rfl,?_⟩
   push_cast [zd]
   subst ho
   first|rfl|(simp;done)
set_option maxRecDepth 20000 in
set_option maxHeartbeats 4000000 in
theorem zBz (f:Fm)(hf:f.Ln 1048576)(r:List Int)(hr:r.length≤1048576)(v:Int)(hv:wW f r=true):Fn Tryz.prog tyT 112 [.agg (dFm f), .c (DI r), .c (.int .i64 v)] [.c (DI (ye r v))]:=by
 have h1:=hf.names
 have h2:=hf.sets.1
 unfold LnI at h1
 have hrr: ∀v,(gl f.sets v).length≤1048576:=fun v=>ZP hf.sets v
 have hC:=xz f.names v h1
 rw [zMY hv]at hC
 have hL:=zAR r hr v
 have hl4:=(qV hv).2.2.1
 have hfl:=zAI r (fun x=> !decide (x=v))
 unfold dFm
 refine θH (ts:= [6]) Tryz.func112 Tryz.ntmps112 ?_
 push_cast
 refine θA ?_
 refine zL fun K1 hK1=> ?_
 refine θL fun K hK=> ?_
 refine θD 4 ?_
 refine θE hK ?_
 refine θU (fun hc=> ?_) fun hc=> ?_
 ·
  refine θA ?_
  refine zY ⟨Or.inl rfl,?_⟩
  push_cast [zd]
  rw [uC (by with_reducible assumption)]
  (try rw [List.take_of_length_le (l:=r) (Nat.le_refl _)])
  all_goals first|rfl|exact⟨rfl,rfl⟩|(simp;done)
 ·
  refine zW (hK1 _ ?_)
  refine θL fun K hK=> ?_
  refine θD 5 ?_
  refine θE hK ?_
  refine zY ⟨Or.inl rfl,?_⟩
  push_cast [zd]
  rw [Kg (by with_reducible assumption)]
  (try rw [List.take_of_length_le (l:=r.filter fun x=> !decide (x=v)) (Nat.le_refl _)])
  exact⟨rfl,Nat.add_comm _ _⟩
set_option maxRecDepth 20000 in
set_option maxHeartbeats 4000000 in
theorem zES (f:Fm)(hf:f.Ln 1048576)(r:List Int)(hr:r.length≤1048576)(v:Int)(hv:wW f r=true):Fn Tryz.prog tyT 114 [.agg (dFm f), .c (DI r), .c (.int .i64 v)] [.c (.int .i64 (xZ f r v))]:=by
 have h1:=hf.names
 have h2:=hf.sets.1
 unfold LnI at h1
 have hrr: ∀v,(gl f.sets v).length≤1048576:=fun v=>ZP hf.sets v
 have hI:=kV r v hr
 have hx:=zGl r v
 obtain⟨m9,hm9⟩: ∃m9,m9=(ixB r v+1).toNat:=⟨_,rfl⟩
 have hsl:=xJ (r.take m9)
 rw [List.length_take]at hsl
 have hkl:(r.take m9).length=m9:=by rw [List.length_take];omega
 have hSo:=jA (r.take m9) (by omega)
 have hH:=VJ f h2 hrr (zz (r.take m9)) (by omega)
 have hset:=zMZ hv m9
 unfold dFm at hH
 unfold dFm
 refine θH (ts:= [6]) Tryz.func114 Tryz.ntmps114 ?_
 push_cast
 refine θA ?_
 refine θL fun K hK=> ?_
 refine θD 3 ?_
 refine θE hK ?_
 refine θA ?_
 rw [←hm9]
 (try rw [List.take_of_length_le (l:=r.take m9) (by omega)])
 rw [show AV.sl 128 [] 0 m9 2=AV.sl 128 [] 0 (r.take m9).length 2 from by rw [hkl]]
 refine zL fun K hK=> ?_
 refine jt 20 [0] [(0,2,dI (zz (r.take m9)))] zQ zN [] rfl ?_
 push_cast
 all_goals repeat'(first|(apply zO<;>(intro hg;push_cast at hg))|(refine⟨_,hSo,?_⟩;push_cast)|apply And.intro|(intro hg;push_cast at hg))
 all_goals try exact gA
 refine hK _ ?_;clear hK K
 rw [show AV.sl 128 [] 0 (r.take m9).length 2=AV.sl 128 [] 0 (zz (r.take m9)).length 2 from by rw [xJ]]
 refine θA ?_
 refine zL fun K1 hK1=> ?_
 refine θA ?_
 refine θU (fun hc=> ?_) fun hc=> ?_
 ·
  refine θA ?_
  refine zL fun K2 hK2=> ?_
  refine θL fun K hK=> ?_
  refine θD 3 ?_
  refine θE hK ?_
  refine θU (fun hc=> ?_) fun hc=> ?_
  ·
   refine θA ?_
   refine zY ⟨Or.inl rfl,?_⟩
   push_cast [zd]
   all_goals exact zE7 (by omega) hm9 hset (by with_reducible assumption)
  ·
   refine zW (hK2 _ ?_)
   refine θA ?_
   refine zY ⟨Or.inl rfl,?_⟩
   push_cast [zd]
   all_goals exact zE8 (by omega) hm9 hset (by with_reducible assumption)
 ·
  refine zW (hK1 _ ?_)
  refine zL fun K3 hK3=> ?_
  refine θL fun K hK=> ?_
  refine θD 3 ?_
  refine θE hK ?_
  refine θU (fun hc=> ?_) fun hc=> ?_
  ·
   refine θB ?_
   refine hK3 _ ?_
   refine θA ?_
   refine zY ⟨Or.inl rfl,?_⟩
   push_cast [zd]
   all_goals first|exact kK (by omega) hm9 hset (by with_reducible assumption)|exact kJ (by omega) hm9 hset (by with_reducible assumption)
  ·
   refine zW (hK3 _ ?_)
   refine θA ?_
   refine zY ⟨Or.inl rfl,?_⟩
   push_cast [zd]
   all_goals first|exact kK (by omega) hm9 hset (by with_reducible assumption)|exact kJ (by omega) hm9 hset (by with_reducible assumption)
theorem zKD {f:Fm}{r:List Int}{v:Int}{k:Nat}(hk:k<r.length)(h: ∀j,j<k→¬gi r j=v)(he:gi r k=v):xZ f r v=2*k+(if xn f.sets (ya f.names (r.take (k+1)))then 2 else 1):=by
 have hf:qA r v=k:=zAF hk h he
 unfold xZ
 rw [XY,hf,decide_eq_true hk]
 rfl
def yw (u:Int)(r:List Int)(p:Plc):Bool:=decide (p.at_=u)&&decide (p.record=r)
theorem zBm {u:Int}{r:List Int}{p:Plc}(h: ¬p.at_=u):yw u r p=false:=by unfold yw;rw [decide_eq_false h];rfl
theorem zBn {u:Int}{r:List Int}{p:Plc}(h: ¬p.record=r):yw u r p=false:=by unfold yw;rw [decide_eq_false h,Bool.and_false]
theorem zBo {u:Int}{r:List Int}{p:Plc}(h:p.at_=u)(h2:p.record=r):yw u r p=true:=by unfold yw;rw [decide_eq_true h,decide_eq_true h2];rfl
def ixQ (p:Plc→Bool)(ps:List Plc):Int:=if ps.findIdx p<ps.length then ps.findIdx p else -1
theorem UH {ps:List Plc}{k:Nat}(h:k<ps.length):ps[k]=gq ps k:=by
 have :=zKr h
 rw [List.getElem?_eq_getElem h]at this
 exact Option.some.inj this
theorem zBU {p:Plc→Bool}{ps:List Plc}{k:Nat}(hk:k<ps.length)(h: ∀j,j<k→p (gq ps j)=false)(hp:p (gq ps k)=true):ixQ p ps=k:=by
 have e:ps.findIdx p=k:=by
  rw [List.findIdx_eq hk]
  refine⟨by rw [UH hk];exact hp,fun j hj=> ?_⟩
  rw [UH (by omega)]
  exact h j hj
 unfold ixQ
 rw [e,if_pos hk]
theorem kv {p:Plc→Bool}{ps:List Plc}(h: ∀j,j<ps.length→p (gq ps j)=false):ixQ p ps= -1:=by
 have e: ¬ps.findIdx p<ps.length:=fun h9=>by
  have h1:=List.findIdx_getElem (w:=h9)
  rw [UH h9,h _ h9]at h1
  cases h1
 unfold ixQ
 rw [if_neg e]
theorem zJg {ys:List Int}{x:Int}{k:Nat}(hk:k≤ys.length)(hs:ys.Pairwise (· ≤ ·))(h1: ∀j,k≤j→j<ys.length→gi ys j>x)(h2:k=0∨gi ys (k - 1)≤x):(ys.take k++ [x]++ys.drop k).Pairwise (· ≤ ·):=by
 have hg: ∀{j} (hj:j<ys.length),ys[j]=gi ys j:=fun{j} hj=>by
  have h3:=wC (xs:=ys) (k:=j) hj
  rw [List.getElem?_eq_getElem hj]at h3
  exact Option.some.inj h3
 have hle: ∀y∈ys.take k,y≤x:=fun y hy=>by
  obtain⟨j,hj,rfl⟩:=List.mem_iff_getElem.1 hy
  rw [List.length_take]at hj
  rw [List.getElem_take]
  rcases h2 with h2|h2
  ·omega
  ·rw [←hg (j:=k - 1) (by omega)]at h2
   rcases Nat.lt_or_ge j (k - 1)with h|h
   ·have :=List.pairwise_iff_getElem.1 hs j (k - 1) (by omega) (by omega) h
    omega
   ·have :j=k - 1:=by omega
    subst this;exact h2
 have hgt: ∀y∈ys.drop k,x≤y:=fun y hy=>by
  obtain⟨j,hj,rfl⟩:=List.mem_iff_getElem.1 hy
  rw [List.length_drop]at hj
  rw [List.getElem_drop,hg (by omega)]
  have :=h1 (k+j) (by omega) (by omega)
  omega
 rw [List.append_assoc,List.pairwise_append]
 refine⟨hs.sublist (List.take_sublist _ _),?_,fun y hy z hz=> ?_⟩
 ·rw [List.singleton_append,List.pairwise_cons]
  exact⟨hgt,hs.sublist (List.drop_sublist _ _)⟩
 ·rw [List.singleton_append,List.mem_cons]at hz
  rcases hz with rfl|hz
  ·exact hle y hy
  ·have :=hle y hy;have :=hgt z hz;omega
theorem zNd {xs:List Int}{i k:Nat}(hi:i<xs.length)(hk:k≤i)(h1: ∀j,k≤j→j<i→gi (zz (xs.take i)) j>gi xs i)(h2:k=0∨gi (zz (xs.take i)) (k - 1)≤gi xs i):(zz (xs.take i)).take k++ [gi xs i]++(zz (xs.take i)).drop k=zz (xs.take (i+1)):=by
 have hl:(zz (xs.take i)).length=i:=by rw [xJ,List.length_take];omega
 refine ZT ?_ (zJg (by omega) (vd _) (fun j h3 h4=>h1 j h3 (by omega)) h2) (vd _)
 refine List.Perm.trans ?_ (xE _).symm
 rw [XD hi]
 refine List.Perm.trans (l₂:= [gi xs i]++((zz (xs.take i)).take k++(zz (xs.take i)).drop k)) ?_ ?_
 ·rw [←List.append_assoc]
  exact List.Perm.append_right _ List.perm_append_comm
 ·rw [List.take_append_drop]
  exact List.perm_append_comm.trans (List.Perm.append_right _ (xE _))
theorem zLq {xs:List Int}{i k:Nat}(hi:i<xs.length)(hk:k≤i)(h1: ∀j,k≤j→j<i→gi (zz (xs.take i)) j>gi xs i)(h2:k=0∨gi (zz (xs.take i)) (k - 1)≤gi xs i):List.take (k+1) (List.take k (List.take k (zz (xs.take i)))++ [gi xs i])++List.take (i - k) (List.drop k (zz (xs.take i)))=zz (xs.take (i+1)):=by
 have hl:(zz (xs.take i)).length=i:=by rw [xJ,List.length_take];omega
 rw [List.take_take,Nat.min_self,List.take_of_length_le (l:=(zz (xs.take i)).take k++ [gi xs i]) (by rw [List.length_append,List.length_take,List.length_singleton];omega),List.take_of_length_le (l:=(zz (xs.take i)).drop k) (by rw [List.length_drop];omega)]
 exact zNd hi hk h1 h2
set_option maxRecDepth 20000 in
set_option maxHeartbeats 4000000 in
theorem UM (ps:List Plc)(ha:QLn 1048576 ps)(u:Int)(r:List Int)(hr:r.length≤1048576):Fn Tryz.prog tyT 103 [.c (.lst 112 (yy ps)), .c (.int .i64 u), .c (DI r)] [.c (.int .i64 (ixQ (yw u r) ps))]:=by
 have hl:=ha.1
 have hgl:=fun k=>Wu ha k
 refine θH (ts:= [6]) Tryz.func103 Tryz.ntmps103 ?_
 push_cast [↓zK,↓zJ]
 refine θA ?_
 refine zL fun K1 hK1=> ?_
 refine θA ?_
 refine zV ?_
 refine zh [6,7,8,9,10,11,12,13,14,15,16,17,18,19,20,21,22,23,24,25,26,27,28,29,30] [] (fun(k:Nat)=> [(7, .int .i64 k)]) (fun k=> []) (fun k=> []) (fun k=>k≤ps.length∧∀j,j<k→yw u r (gq ps j)=false) (fun k=>ps.length - k) 0 ?_ ⟨by omega,fun j hj=>by omega⟩ ?_
 ·
  exact θX
 ·rintro k ⟨hk,hall⟩ KL0 hL0
  push_cast [↓zK,↓zJ]
  refine zL fun K2 hK2=> ?_
  refine θA ?_
  refine θU (fun hc=> ?_) fun hc=> ?_
  ·
   refine zW (hK2 _ ?_)
   refine zL fun K3 hK3=> ?_
   refine zV ?_
   refine zL fun K hK=> ?_
   refine zc false zQ zN ?_ rfl ?_
   ·kernel_rfl
   all_goals refine zm 15 fun K9 hK9=> ?_
   all_goals push_cast [↓zK,↓zJ]
   all_goals repeat'(first|(apply zO<;>(intro hg;(try push_cast at hg)))|(refine⟨_,ZQ (gq ps k).record r (hgl k) hr,?_⟩;push_cast [↓zK,↓zJ])|apply And.intro|(intro hg;(try push_cast at hg)))
   all_goals first|exact gA|(exact zZ (by omega))|skip
   all_goals(refine hK9 _ ?_;clear hK9 K9)
   all_goals push_cast [↓zK,↓zJ]
   all_goals repeat'(first|(apply zO<;>(intro hg;(try push_cast at hg)))|(refine⟨_,ZQ (gq ps k).record r (hgl k) hr,?_⟩;push_cast [↓zK,↓zJ])|apply And.intro|(intro hg;(try push_cast at hg)))
   all_goals first|exact gA|(exact zZ (by omega))|skip
   all_goals(refine hK _ ?_;clear hK K)
   all_goals refine zU rfl (fun hc=> ?_) (fun hc=> ?_)
   all_goals(first|(cases hc;done)|skip)
   all_goals(try simp only [push_cast]at hc)
   all_goals first
    |(
      refine zW (hK3 _ ?_)
      refine θB ?_
      refine hL0 _ ⟨k+1,⟨by omega,fun j hj=>(by
        by_cases hjk:j=k
        ·subst hjk;first|exact zBm (by omega)|exact zBn (by simpa using hc)|exact zBn (by with_reducible assumption)
        ·exact hall j (by omega))⟩,by omega,?_⟩
      exact θX
      done)
    |(
      refine θA ?_
      refine zY ⟨Or.inl rfl,?_⟩
      push_cast [zd,↓zK,↓zJ]
      exact(zBU (k:=k) (by omega) hall (zBo (by omega) (by with_reducible assumption))).symm
      done)
  ·
   refine zi (hK1 _ ?_)
   refine θA ?_
   refine zY ⟨Or.inl rfl,?_⟩
   push_cast [zd,↓zK,↓zJ]
   all_goals first|(rw [kv fun j hj=>hall j (by omega)];done)|(rw [kv fun j hj=>hall j (by omega)];rfl)
set_option maxRecDepth 20000 in
set_option maxHeartbeats 4000000 in
theorem zDY (xs:List Int)(hx:xs.length≤1048576):Fn Tryz.prog tyT 104 [.c (DI xs)] [.c (DI (zz xs))]:=by
 refine θH (ts:= [2]) Tryz.func104 Tryz.ntmps104 ?_
 push_cast [↓zK,↓zJ]
 refine θA ?_
 refine θA ?_
 refine zL fun K1 hK1=> ?_
 refine θA ?_
 refine zV ?_
 refine zh [3,4,5,6,8,9,10,11,12,13,14,15,16,17,18,19,20,21,22,23,24,25,26,27,28,29,30,31,32,33,34,35,36,37,38,39,40,41,42,43,44,45,46,47,48] [48] (fun(i:Nat)=> [(4, .int .i64 i),(3, .sl 48 [] 0 i 2)]) (fun i=> []) (fun i=> [(48,⟨.ex,2,dI (zz (xs.take i)),none⟩)]) (fun i=>i≤xs.length) (fun i=>xs.length - i) 0 ?_ (by omega) ?_
 ·
  rw [List.take_zero,VV,show dI ([]:List Int)= []from rfl]
  exact θX
 ·rintro i hi KL0 hL0
  have hol:(zz (xs.take i)).length=i:=by rw [xJ,List.length_take];omega
  push_cast [↓zK,↓zJ]
  refine zL fun K2 hK2=> ?_
  refine θA ?_
  refine θU (fun hc=> ?_) fun hc=> ?_
  ·
   refine zW (hK2 _ ?_)
   refine zL fun K3 hK3=> ?_
   refine zV ?_
   refine θA ?_
   refine zL fun K4 hK4=> ?_
   refine zV ?_
   refine zh [5,16,17,18,19,20,21,22,23,24,25,26,27,28,29,30,31] [] (fun(k:Nat)=> [(5, .int .i64 k)]) (fun k=> []) (fun k=> []) (fun k=>k≤i∧∀j,k≤j→j<i→gi (zz (xs.take i)) j>gi xs i) (fun k=>k) i ?_ ⟨by omega,fun j h8 h9=>by omega⟩ ?_
   ·
    exact θX
   ·rintro k ⟨hk,hall⟩ KL1 hL1
    push_cast [↓zK,↓zJ]
    refine zL fun K5 hK5=> ?_
    refine zL fun K hK=> ?_
    refine yN false zQ zN xR ?_ rfl ?_
    ·kernel_rfl
    intro E hE
    all_goals push_cast [↓zK,↓zJ]
    all_goals repeat'(first|(apply zO<;>(intro hg;(try push_cast at hg)))|apply And.intro|(intro hg;(try push_cast at hg)))
    all_goals first|exact gA|(refine hE _ _ ?_ ?_;kernel_rfl)|skip
    all_goals clear hE E
    all_goals(refine hK _ ?_;clear hK K)
    all_goals refine zU rfl (fun hc=> ?_) (fun hc=> ?_)
    all_goals(first|(cases hc;done)|skip)
    all_goals(try simp only [push_cast]at hc)
    all_goals try(
      refine zi (hK4 _ ?_)
      refine θA ?_
      refine θA ?_
      refine θB ?_
      refine hK3 _ ?_
      refine θB ?_
      refine hL0 _ ⟨i+1,by omega,by omega,?_⟩
      refine zX rfl ?_ ?_ ?_<;>push_cast [zf,ze,↓zK,↓zJ]
      all_goals first|(rw [show k+1+(i - k)=i+1 from by omega];done)|(rw [zLq (by omega) (by omega) (fun j h8 h9=>hall j h8 h9) (by first|exact .inl (by omega)|exact .inr (by omega))];done)|skip
      done)
    refine zW (hK5 _ ?_)
    refine zV ?_
    refine θB ?_
    refine hL1 _ ⟨k - 1,⟨by omega,fun j h8 h9=>(by
      by_cases hjk:j=k - 1
      ·subst hjk;omega
      ·exact hall j (by omega) h9)⟩,by omega,?_⟩
    refine zX rfl ?_ ?_ ?_<;>push_cast [zf,ze,↓zK,↓zJ]
    all_goals(try(refine congrArg (AV.int .i64) ?_;omega))
  ·
   refine zi ?_
   have hii:i=xs.length:=by omega
   subst hii
   rw [List.take_length]
   refine hK1 _ ?_
   refine θA ?_
   refine zY ⟨Or.inl rfl,?_⟩
   push_cast [zd,↓zK,↓zJ]
   all_goals first|rfl|exact⟨rfl,rfl⟩|exact⟨rfl,(xJ xs).symm⟩|(simp [xJ];done)
def zCM (r:List Int)(s:List Plc×List Int)(u:Int):List Plc×List Int:=if ixQ (yw u r) s.1<0 then(s.1++ [⟨u,r⟩],s.2++ [(s.1.length:Int)])else(s.1,s.2++ [ixQ (yw u r) s.1])
def zn (r us:List Int)(ps:List Plc)(k:Nat):List Plc×List Int:=(us.take k).foldl (zCM r) (ps,[])
theorem Ud (r us:List Int)(ps:List Plc):zn r us ps 0=(ps,[]):=rfl
theorem zIo {r us:List Int}{ps:List Plc}{k:Nat}(h:k<us.length):zn r us ps (k+1)=zCM r (zn r us ps k) (gi us k):=by
 unfold zn
 rw [XD h,List.foldl_append]
 rfl
theorem va {r us:List Int}{ps:List Plc}{k:Nat}(h:k<us.length)(h2:ixQ (yw (gi us k) r) (zn r us ps k).1<0):zn r us ps (k+1)=((zn r us ps k).1++ [⟨gi us k,r⟩],(zn r us ps k).2++ [((zn r us ps k).1.length:Int)]):=by
 rw [zIo h];unfold zCM;rw [if_pos h2]
theorem wA {r us:List Int}{ps:List Plc}{k:Nat}(h:k<us.length)(h2: ¬ixQ (yw (gi us k) r) (zn r us ps k).1<0):zn r us ps (k+1)=((zn r us ps k).1,(zn r us ps k).2++ [ixQ (yw (gi us k) r) (zn r us ps k).1]):=by
 rw [zIo h];unfold zCM;rw [if_neg h2]
theorem xw {r us:List Int}{ps:List Plc}: ∀{k:Nat},k≤us.length→(zn r us ps k).2.length=k∧ps.length≤(zn r us ps k).1.length∧(zn r us ps k).1.length≤ps.length+k
 |0,_=>by rw [Ud];exact⟨rfl,Nat.le_refl _,Nat.le_refl _⟩
 |k+1,h=>by
  have h1:=xw (r:=r) (us:=us) (ps:=ps) (k:=k) (by omega)
  by_cases h2:ixQ (yw (gi us k) r) (zn r us ps k).1<0
  ·rw [va (by omega) h2];simp only [List.length_append,List.length_cons,List.length_nil];omega
  ·rw [wA (by omega) h2];simp only [List.length_append,List.length_cons,List.length_nil];omega
theorem zIn {r us:List Int}{ps:List Plc}{k j:Nat}(hkj:k≤j)(hj:j≤us.length):(zn r us ps k).1.length≤(zn r us ps j).1.length:=by
 induction j with
 |zero=>
      have :k=0:=by omega
      subst this;exact Nat.le_refl _
 |succ j ih=>
  rcases Nat.lt_or_ge j k with h|h
  ·have :k=j+1:=by omega
   subst this;exact Nat.le_refl _
  ·have h1:=ih h (by omega)
   by_cases h2:ixQ (yw (gi us j) r) (zn r us ps j).1<0
   ·rw [va (by omega) h2];simp only [List.length_append,List.length_cons,List.length_nil];omega
   ·rw [wA (by omega) h2];exact h1
theorem zDX (p:Plc→Bool)(ps:List Plc): -1≤ixQ p ps∧ixQ p ps<ps.length:=by unfold ixQ;split<;>omega
theorem JX {r us:List Int}{ps:List Plc}{O:Plc→Prop}(h0: ∀p∈ps,O p)(h1: ∀u∈us,O ⟨u,r⟩): ∀{k:Nat},k≤us.length→∀p∈(zn r us ps k).1,O p
 |0,_,p,hp=>h0 p hp
 |k+1,h,p,hp=>by
  by_cases h2:ixQ (yw (gi us k) r) (zn r us ps k).1<0
  ·rw [va (by omega) h2,List.mem_append]at hp
   rcases hp with hp|hp
   ·exact JX h0 h1 (by omega) p hp
   ·rw [List.mem_singleton]at hp;subst hp;exact h1 _ (WI (by omega))
  ·rw [wA (by omega) h2]at hp
   exact JX h0 h1 (by omega) p hp
section
variable (us rc:Plc→List Int) (p0:Plc)
def stQ :Nat→List Plc
 |0=> [p0]
 |i+1=>if i<(stQ i).length then(zn (rc (gq (stQ i) i)) (us (gq (stQ i) i)) (stQ i) (us (gq (stQ i) i)).length).1 else stQ i
def uI (i k:Nat):List Plc×List Int:=zn (rc (gq (stQ us rc p0 i) i)) (us (gq (stQ us rc p0 i) i)) (stQ us rc p0 i) k
def nxQ (i:Nat):List Int:=zz (uI us rc p0 i (us (gq (stQ us rc p0 i) i)).length).2
def plQ (i:Nat):Plc:=gq (stQ us rc p0 i) i
def okQ :Bool:=decide ((stQ us rc p0 257).length≤256)
end
variable {us rc:Plc→List Int} {p0:Plc}
theorem ZV {i:Nat}(h:i<(stQ us rc p0 i).length):stQ us rc p0 (i+1)=(uI us rc p0 i (us (plQ us rc p0 i)).length).1:=by
 show(if i<(stQ us rc p0 i).length then _ else _)=_
 rw [if_pos h];rfl
theorem Qu {i:Nat}(h: ¬i<(stQ us rc p0 i).length):stQ us rc p0 (i+1)=stQ us rc p0 i:=by
 show(if i<(stQ us rc p0 i).length then _ else _)=_
 rw [if_neg h]
theorem XC {i j:Nat}(h:i≤j):(stQ us rc p0 i).length≤(stQ us rc p0 j).length:=by
 induction j with
 |zero=>
      have :i=0:=by omega
      subst this;exact Nat.le_refl _
 |succ j ih=>
  rcases Nat.lt_or_ge j i with h1|h1
  ·have :i=j+1:=by omega
   subst this;exact Nat.le_refl _
  ·have h2:=ih h1
   by_cases h3:j<(stQ us rc p0 j).length
   ·rw [ZV h3]
    have :=(xw (r:=rc (gq (stQ us rc p0 j) j)) (us:=us (gq (stQ us rc p0 j) j)) (ps:=stQ us rc p0 j) (Nat.le_refl _)).2.1
    exact Nat.le_trans h2 this
   ·rw [Qu h3];exact h2
theorem Jc {i:Nat}(h: ¬i<(stQ us rc p0 i).length){j:Nat}(hj:i≤j):stQ us rc p0 j=stQ us rc p0 i:=by
 induction j with
 |zero=>
      have :i=0:=by omega
      subst this;rfl
 |succ j ih=>
  rcases Nat.lt_or_ge j i with h1|h1
  ·have :i=j+1:=by omega
   subst this;rfl
  ·have h2:=ih h1
   rw [Qu (by rw [h2];omega),h2]
theorem zL7 {i:Nat}(hi:i≤256)(h: ¬i<(stQ us rc p0 i).length):okQ us rc p0=true∧stQ us rc p0 257=stQ us rc p0 i:=by
 have h1:=Jc h (j:=257) (by omega)
 unfold okQ
 rw [h1]
 exact⟨decide_eq_true (by omega),rfl⟩
theorem zDq {i:Nat}(hi:i≤256)(h:256<(stQ us rc p0 (i+1)).length):okQ us rc p0=false:=by
 have h1:=XC (us:=us) (rc:=rc) (p0:=p0) (i:=i+1) (j:=257) (by omega)
 unfold okQ
 exact decide_eq_false (by omega)
theorem zL8 {i k:Nat}(hi:i≤256)(hl:i<(stQ us rc p0 i).length)(hk:k<(us (plQ us rc p0 i)).length)(h2:ixQ (yw (gi (us (plQ us rc p0 i)) k) (rc (plQ us rc p0 i))) (uI us rc p0 i k).1<0)(h:256≤(uI us rc p0 i k).1.length):okQ us rc p0=false:=by
 refine zDq hi ?_
 rw [ZV hl]
 have h1:=zIn (r:=rc (plQ us rc p0 i)) (us:=us (plQ us rc p0 i)) (ps:=stQ us rc p0 i) (k:=k+1) (j:=(us (plQ us rc p0 i)).length) (by omega) (Nat.le_refl _)
 have h3:=va (r:=rc (plQ us rc p0 i)) (us:=us (plQ us rc p0 i)) (ps:=stQ us rc p0 i) hk h2
 rw [h3]at h1
 simp only [List.length_append,List.length_cons,List.length_nil]at h1
 have h4:(zn (rc (plQ us rc p0 i)) (us (plQ us rc p0 i)) (stQ us rc p0 i) k).1.length=(uI us rc p0 i k).1.length:=rfl
 have h5:(zn (rc (plQ us rc p0 i)) (us (plQ us rc p0 i)) (stQ us rc p0 i) (us (plQ us rc p0 i)).length).1.length=(uI us rc p0 i (us (plQ us rc p0 i)).length).1.length:=rfl
 omega
theorem ji {O:Plc→Prop}(h0:O p0)(h1: ∀p,O p→∀u∈us p,O ⟨u,rc p⟩): ∀i,∀p∈stQ us rc p0 i,O p
 |0,p,hp=>by rw [show stQ us rc p0 0= [p0]from rfl,List.mem_singleton]at hp;subst hp;exact h0
 |i+1,p,hp=>by
  by_cases h:i<(stQ us rc p0 i).length
  ·rw [ZV h]at hp
   refine JX (O:=O) (ji h0 h1 i) (fun u hu=>h1 _ (ji h0 h1 i _ (vC h)) u hu) (Nat.le_refl _) p hp
  ·rw [Qu h]at hp
   exact ji h0 h1 i p hp
def usA (a:Ar)(p:Plc):List Int:=gl a.next p.at_.toNat
section
variable (a:Ar) (rc:Plc→List Int) (pr:Plc→Int) (p0:Plc)
def xT (n:Nat):List Int:=(List.range n).map fun j=>gi a.owner (plQ (usA a) rc p0 j).at_.toNat
def nxG (n:Nat):List (List Int):=(List.range n).map fun j=>nxQ (usA a) rc p0 j
def prG (n:Nat):List Int:=(List.range n).map fun j=>pr (plQ (usA a) rc p0 j)
def gmA (n:Nat):Pa:=⟨⟨xT a rc p0 n,nxG a rc p0 n⟩,prG a rc pr p0 n⟩
def gmR (c:Bool):Pa:=if c&&okQ (usA a) rc p0 then gmA a rc pr p0 (stQ (usA a) rc p0 257).length else⟨⟨[],[]⟩,[]⟩
def plR (c:Bool):List Plc:=if c&&okQ (usA a) rc p0 then stQ (usA a) rc p0 257 else []
end
variable {a:Ar} {rc:Plc→List Int} {pr:Plc→Int} {p0:Plc}
theorem qO (n:Nat):(xT a rc p0 n).length=n:=by simp [xT]
theorem Yy (n:Nat):(nxG a rc p0 n).length=n:=by simp [nxG]
theorem YF (n:Nat):(prG a rc pr p0 n).length=n:=by simp [prG]
theorem zDt (n:Nat):xT a rc p0 (n+1)=xT a rc p0 n++ [gi a.owner (plQ (usA a) rc p0 n).at_.toNat]:=by simp [xT,List.range_succ]
theorem zG2 (n:Nat):nxG a rc p0 (n+1)=nxG a rc p0 n++ [nxQ (usA a) rc p0 n]:=by simp [nxG,List.range_succ]
theorem zG9 (n:Nat):prG a rc pr p0 (n+1)=prG a rc pr p0 n++ [pr (plQ (usA a) rc p0 n)]:=by simp [prG,List.range_succ]
theorem zDs :xT a rc p0 0= []:=rfl
theorem zG1 :nxG a rc p0 0= []:=rfl
theorem zG8 :prG a rc pr p0 0= []:=rfl
theorem KO {c:Bool}(h:(c&&okQ (usA a) rc p0)=false):gmR a rc pr p0 c=⟨⟨[],[]⟩,[]⟩:=by unfold gmR;rw [h];rfl
theorem Kk {c:Bool}(h:(c&&okQ (usA a) rc p0)=false):plR a rc p0 c= []:=by unfold plR;rw [h];rfl
theorem zAL {c:Bool}{i:Nat}(hc:c=true)(hi:i≤256)(h: ¬i<(stQ (usA a) rc p0 i).length)(h2:i≤(stQ (usA a) rc p0 i).length):(c&&okQ (usA a) rc p0)=true∧gmR a rc pr p0 c=gmA a rc pr p0 i∧plR a rc p0 c=stQ (usA a) rc p0 i:=by
 obtain⟨h3,h4⟩:=zL7 hi h
 have h5:(c&&okQ (usA a) rc p0)=true:=by rw [hc,h3];rfl
 have h6:(stQ (usA a) rc p0 i).length=i:=by omega
 refine⟨h5,?_,?_⟩
 ·unfold gmR;rw [h5,if_pos rfl,h4,h6]
 ·unfold plR;rw [h5,if_pos rfl,h4]
theorem Je (ha:yK a=true){p:Plc}(h:0≤p.at_∧p.at_<a.owner.length):1≤(usA a p).length∧(usA a p).length≤16∧∀u∈usA a p,0≤u∧u<a.owner.length:=by
 have hv:p.at_.toNat<a.owner.length:=by omega
 obtain⟨h1,h2,h3,h4,h5⟩:=xD ha hv
 refine⟨h3,h4,fun u hu=> ?_⟩
 have hu:u∈gl a.next p.at_.toNat:=hu
 obtain⟨j,hj,rfl⟩:=List.mem_iff_getElem.1 hu
 have :=xl h5 hj
 unfold xp at this
 have :=of_decide_eq_true this
 have e:gi (gl a.next p.at_.toNat) j=(gl a.next p.at_.toNat)[j]:=by
  unfold gi
  rw [List.getD_eq_getElem?_getD,List.getElem?_eq_getElem hj]
  rfl
 rw [e]at this
 exact⟨this.1,this.2.1⟩
theorem zIH {ps qs:List Plc}{i:Nat}(h:i<ps.length):gq (ps++qs) i=gq ps i:=by
 unfold gq
 rw [List.getD_eq_getElem?_getD,List.getElem?_append_left h,List.getD_eq_getElem?_getD]
theorem WW {r us:List Int}{ps:List Plc}{i:Nat}(hi:i<ps.length): ∀{k:Nat},k≤us.length→gq (zn r us ps k).1 i=gq ps i
 |0,_=>rfl
 |k+1,h=>by
  have h1:=WW (r:=r) (us:=us) hi (k:=k) (by omega)
  have h3:=(xw (r:=r) (us:=us) (ps:=ps) (k:=k) (by omega)).2.1
  by_cases h2:ixQ (yw (gi us k) r) (zn r us ps k).1<0
  ·rw [va (by omega) h2]
   show gq ((zn r us ps k).1++ [_]) i=_
   rw [zIH (by omega)];exact h1
  ·rw [wA (by omega) h2];exact h1
structure Qa (a:Ar)(rc:Plc→List Int)(p0:Plc)(V:List Int→Prop)(B:Nat):Prop where
 first:0≤p0.at_∧p0.at_<(a.owner.length:Int)∧V p0.record
 next: ∀p:Plc,0≤p.at_→p.at_<(a.owner.length:Int)→V p.record→V (rc p)
 small: ∀r,V r→r.length≤B
theorem vD {V:List Int→Prop}{B:Nat}(ha:yK a=true)(h:Qa a rc p0 V B)(i:Nat): ∀p∈stQ (usA a) rc p0 i,0≤p.at_∧p.at_<a.owner.length∧V p.record:=
 ji (O:=fun p=>0≤p.at_∧p.at_<a.owner.length∧V p.record) h.first (fun p hp u hu=>by
  have :=(Je ha ⟨hp.1,hp.2.1⟩).2.2 u hu
  exact⟨this.1,this.2,h.next p hp.1 hp.2.1 hp.2.2⟩) i
theorem zDy {V:List Int→Prop}{B:Nat}(ha:yK a=true)(h:Qa a rc p0 V B){i k:Nat}(hi:i<(stQ (usA a) rc p0 i).length)(hk:k≤(usA a (gq (stQ (usA a) rc p0 i) i)).length): ∀p∈(zn (rc (gq (stQ (usA a) rc p0 i) i)) (usA a (gq (stQ (usA a) rc p0 i) i)) (stQ (usA a) rc p0 i) k).1,0≤p.at_∧p.at_<a.owner.length∧V p.record:=by
 have hp:=vD ha h i _ (vC hi)
 exact JX (O:=fun p=>0≤p.at_∧p.at_<a.owner.length∧V p.record) (vD ha h i) (fun u hu=>by
  have :=(Je ha ⟨hp.1,hp.2.1⟩).2.2 u hu
  exact⟨this.1,this.2,h.next _ hp.1 hp.2.1 hp.2.2⟩) hk
theorem zNu {V:List Int→Prop}{B:Nat}(ha:yK a=true)(h:Qa a rc p0 V B){n:Nat}(hn:n≤1048576)(hall: ∀j,j<n→j<(stQ (usA a) rc p0 j).length):Yk 1048576 (nxG a rc p0 n):=by
 refine⟨by rw [Yy];exact hn,fun r hr=> ?_⟩
 unfold nxG at hr
 obtain⟨j,hj,rfl⟩:=List.mem_map.1 hr
 have hj:=hall j (List.mem_range.1 hj)
 have hp:=vD ha h j _ (vC hj)
 have h2:=(Je ha ⟨hp.1,hp.2.1⟩).2.1
 unfold nxQ
 rw [xJ]
 have h3:=(xw (r:=rc (gq (stQ (usA a) rc p0 j) j)) (us:=usA a (gq (stQ (usA a) rc p0 j) j)) (ps:=stQ (usA a) rc p0 j) (Nat.le_refl _)).1
 show(zn _ _ _ _).2.length≤_
 rw [h3]
 omega
theorem zF6 {n:Nat}(h:n≤(stQ (usA a) rc p0 257).length)(hn:n≤257): ∀j,j<n→j<(stQ (usA a) rc p0 j).length:=fun j hj=>by
 rcases Nat.lt_or_ge j (stQ (usA a) rc p0 j).length with h1|h1
 ·exact h1
 ·have :=Jc (us:=usA a) (rc:=rc) (p0:=p0) (i:=j) (by omega) (j:=257) (by omega)
  rw [this]at h
  omega
theorem zIG {V:List Int→Prop}{B:Nat}{c:Bool}(ha:c=true→yK a=true∧Qa a rc p0 V B):(gmR a rc pr p0 c).Ln 1048576:=by
 cases hc:(c&&okQ (usA a) rc p0)with
 |false=>
  rw [KO hc]
  exact⟨⟨by unfold LnI;simp,⟨by simp,by simp⟩⟩,by unfold LnI;simp⟩
 |true=>
  have h1:=hc
  rw [Bool.and_eq_true]at h1
  obtain⟨h2,h3⟩:=ha h1.1
  have h4:(stQ (usA a) rc p0 257).length≤256:=by have :=h1.2;unfold okQ at this;exact of_decide_eq_true this
  unfold gmR
  rw [hc,if_pos rfl]
  have h5:=zF6 (a:=a) (rc:=rc) (p0:=p0) (n:=(stQ (usA a) rc p0 257).length) (Nat.le_refl _) (by omega)
  obtain⟨n9,hn9⟩: ∃n9,n9=(stQ (usA a) rc p0 257).length:=⟨_,rfl⟩
  rw [←hn9]at h4 h5⊢
  refine⟨⟨?_,zNu h2 h3 (by omega) h5⟩,?_⟩
  ·show(xT a rc p0 _).length≤_;rw [qO];omega
  ·show(prG a rc pr p0 _).length≤_;rw [YF];omega
theorem zIe {V:List Int→Prop}{B:Nat}{c:Bool}(hB:B≤1048576)(ha:c=true→yK a=true∧Qa a rc p0 V B):QLn 1048576 (plR a rc p0 c):=by
 cases hc:(c&&okQ (usA a) rc p0)with
 |false=>
  rw [Kk hc]
  exact⟨by simp,by simp⟩
 |true=>
  have h1:=hc
  rw [Bool.and_eq_true]at h1
  obtain⟨h2,h3⟩:=ha h1.1
  have h4:(stQ (usA a) rc p0 257).length≤256:=by have :=h1.2;unfold okQ at this;exact of_decide_eq_true this
  unfold plR
  rw [hc,if_pos rfl]
  exact⟨by omega,fun p hp=>Nat.le_trans (h3.small _ (vD h2 h3 257 p hp).2.2) hB⟩
theorem uO {xs:List Int}{n m:Int}(h:zv xs n=true)(hm:n≤m):zv xs m=true:=by
 refine qG fun k hk=> ?_
 have :=xl h hk
 unfold xp at this⊢
 have :=of_decide_eq_true this
 exact decide_eq_true (by omega)
theorem zBG {f:Fm}{n m:Int}(h:xg f n=true)(hm:n≤m):xg f m=true:=by
 unfold xg at h⊢
 rw [Bool.and_eq_true,Bool.and_eq_true]at h⊢
 refine⟨uO h.1 hm,h.2.1,qG fun i hi=> ?_⟩
 have :=xl h.2.2 hi
 unfold wh at this⊢
 rw [Bool.and_eq_true]at this⊢
 exact⟨uO this.1 hm,this.2⟩
theorem zG0 {r:List Int}(hn:r.Nodup)(v:Int):(ye r v).Perm r:=by
 cases h:zr r v with
 |false=>rw [uC h]
 |true=>
  rw [Kg h]
  have h1:=List.perm_cons_erase ((yD _ _).1 h)
  rw [List.Nodup.erase_eq_filter hn]at h1
  have e:(fun x=> !decide (x=v))=(fun x=>x !=v):=funext fun x=>by
   by_cases h:x=v<;>simp [h]
  rw [e]
  exact h1.symm
theorem zIY {f:Fm}{r:List Int}{v:Int}(h:wW f r=true):wW f (ye r v)=true:=by
 obtain⟨h1,h2,h3,h4,h5⟩:=qV h
 rw [zGB h1]
 refine decide_eq_true ?_
 rw [←h2]
 exact ZT ((xE _).trans ((zG0 h4 v).trans (xE _).symm)) (vd _) (vd _)
theorem zI3 {f:Fm}(h:xg f 256=true):wW f f.names=true:=by
 rw [zGB h]
 exact decide_eq_true (ZT (xE _) (vd _) (pw_le (Ye (qC h).1)))
def rcF (p:Plc):List Int:=ye p.record p.at_
def prF (f:Fm)(p:Plc):Int:=xZ f p.record p.at_
def fgC (a:Ar)(f:Fm)(s:Int):Bool:=yK a&&(Qk f a.owner.length&&decide (0≤s∧s≤(a.owner.length:Int) - 1))
def fgB (a:Ar)(f:Fm)(s:Int):Bool:=fgC a f s&&okQ (usA a) rcF ⟨s,f.names⟩
def fgG (a:Ar)(f:Fm)(s:Int):Pa:=gmR a rcF (prF f) ⟨s,f.names⟩ (fgC a f s)
def fgP (a:Ar)(f:Fm)(s:Int):List Plc:=plR a rcF ⟨s,f.names⟩ (fgC a f s)
theorem vK {a:Ar}{f:Fm}{s:Int}(h:fgC a f s=true):yK a=true∧xg f 256=true∧Qa a rcF ⟨s,f.names⟩ (fun r=>wW f r=true) 4:=by
 unfold fgC at h
 rw [Bool.and_eq_true,Bool.and_eq_true,decide_eq_true_eq]at h
 obtain⟨h1,h2,h3⟩:=h
 have hl:=yO h1
 have h4:xg f 256=true:=zBG (by rw [ZK (by omega)]at h2;exact h2) (by omega)
 exact⟨h1,h4,⟨⟨h3.1,by show s<_;omega,zI3 h4⟩,fun p _ _ h=>zIY h,fun r hr=>(qV hr).2.2.1⟩⟩
theorem zFd {a:Ar}{f:Fm}{s:Int}:(fgG a f s).Ln 1048576:=zIG (V:=fun r=>wW f r=true) (B:=4) fun h=>⟨(vK h).1,(vK h).2.2⟩
theorem zLd {a:Ar}{f:Fm}{s:Int}:QLn 1048576 (fgP a f s):=zIe (V:=fun r=>wW f r=true) (B:=4) (by decide) fun h=>⟨(vK h).1,(vK h).2.2⟩
theorem zNT {a:Ar}{f:Fm}{s:Int}(h:fgC a f s=false):fgB a f s=false∧fgG a f s=⟨⟨[],[]⟩,[]⟩∧fgP a f s= []:=by
 have :(fgC a f s&&okQ (usA a) rcF ⟨s,f.names⟩)=false:=by rw [h];rfl
 exact⟨this,KO this,Kk this⟩
theorem zNU {a:Ar}{f:Fm}{s:Int}(h:okQ (usA a) rcF ⟨s,f.names⟩=false):fgB a f s=false∧fgG a f s=⟨⟨[],[]⟩,[]⟩∧fgP a f s= []:=by
 have :(fgC a f s&&okQ (usA a) rcF ⟨s,f.names⟩)=false:=by rw [h,Bool.and_false]
 exact⟨this,KO this,Kk this⟩
theorem zLa {a:Ar}{f:Fm}{s:Int}(h:yK a=false):fgC a f s=false:=by unfold fgC;rw [h];rfl
theorem zLb {a:Ar}{f:Fm}{s:Int}(h:Qk f a.owner.length=false):fgC a f s=false:=by unfold fgC;rw [h,Bool.false_and,Bool.and_false]
theorem zLc {a:Ar}{f:Fm}{s:Int}(h: ¬(0≤s∧s≤(a.owner.length:Int) - 1)):fgC a f s=false:=by unfold fgC;rw [decide_eq_false h,Bool.and_false,Bool.and_false]
theorem zAE {a:Ar}{f:Fm}{s:Int}(h1:yK a=true)(h2:Qk f a.owner.length=true)(h3:0≤s∧s≤(a.owner.length:Int) - 1):fgC a f s=true:=by unfold fgC;rw [h1,h2,decide_eq_true h3];rfl
theorem zIA {xs:List Int}{x:Int}{j:Nat}(h:j<xs.length):gi (xs++ [x]) j=gi xs j:=by
 unfold gi
 rw [List.getD_eq_getElem?_getD,List.getD_eq_getElem?_getD,List.getElem?_append_left h]
theorem zIB (xs:List Int)(x:Int):gi (xs++ [x]) xs.length=x:=by
 unfold gi
 rw [List.getD_eq_getElem?_getD,List.getElem?_append_right (Nat.le_refl _)]
 simp
theorem zNc (ps:List Plc)(p:Plc):gq (ps++ [p]) ps.length=p:=by
 unfold gq
 rw [List.getD_eq_getElem?_getD,List.getElem?_append_right (Nat.le_refl _)]
 simp
theorem zNg {p:Plc→Bool}{ps:List Plc}(h: ¬ixQ p ps<0):(ixQ p ps).toNat<ps.length∧p (gq ps (ixQ p ps).toNat)=true:=by
 unfold ixQ at h⊢
 split
 ·rename_i h1
  rw [Int.toNat_natCast]
  refine⟨h1,?_⟩
  rw [←UH h1]
  exact List.findIdx_getElem (w:=h1)
 ·rename_i h1
  rw [if_neg h1]at h
  omega
theorem zKP {u:Int}{r:List Int}{p:Plc}(h:yw u r p=true):p=⟨u,r⟩:=by
 unfold yw at h
 rw [Bool.and_eq_true,decide_eq_true_eq,decide_eq_true_eq]at h
 obtain⟨a,b⟩:=p
 obtain⟨h1,h2⟩:=h
 simp only at h1 h2
 rw [h1,h2]
theorem WX {r us:List Int}{ps:List Plc}: ∀{k:Nat},k≤us.length→∀j,j<k→(0≤gi (zn r us ps k).2 j∧gi (zn r us ps k).2 j<(zn r us ps k).1.length)∧gq (zn r us ps k).1 (gi (zn r us ps k).2 j).toNat=⟨gi us j,r⟩
 |0,_,j,hj=>absurd hj (Nat.not_lt_zero j)
 |k+1,hk,j,hj=>by
  have ih:=WX (r:=r) (us:=us) (ps:=ps) (k:=k) (by omega)
  have hl:=xw (r:=r) (us:=us) (ps:=ps) (k:=k) (by omega)
  by_cases h2:ixQ (yw (gi us k) r) (zn r us ps k).1<0
  ·rw [va (by omega) h2]
   simp only
   by_cases e:j=k
   ·subst e
    rw [show gi ((zn r us ps j).2++ [((zn r us ps j).1.length:Int)]) j=((zn r us ps j).1.length:Int)from by
     have :=zIB (zn r us ps j).2 ((zn r us ps j).1.length:Int)
     rw [hl.1]at this
     exact this]
    rw [List.length_append,List.length_singleton,Int.toNat_natCast,zNc]
    exact⟨by omega,rfl⟩
   ·have h3:=ih j (by omega)
    rw [zIA (by omega),List.length_append,List.length_singleton,zIH (by omega)]
    exact⟨by omega,h3.2⟩
  ·rw [wA (by omega) h2]
   simp only
   by_cases e:j=k
   ·subst e
    have h4:=zNg h2
    rw [show gi ((zn r us ps j).2++ [ixQ (yw (gi us j) r) (zn r us ps j).1]) j=ixQ (yw (gi us j) r) (zn r us ps j).1 from by
     have :=zIB (zn r us ps j).2 (ixQ (yw (gi us j) r) (zn r us ps j).1)
     rw [hl.1]at this
     exact this]
    exact⟨by omega,zKP h4.2⟩
   ·have h3:=ih j (by omega)
    rw [zIA (by omega)]
    exact h3
theorem ZN {r:List Int}{i:Nat}(h:i<r.length):gi r i=r[i]:=by
 unfold gi
 rw [List.getD_eq_getElem?_getD,List.getElem?_eq_getElem h]
 rfl
theorem zIp {r us:List Int}{ps:List Plc}(hu:us.Pairwise (· < ·)):(zn r us ps us.length).2.Nodup:=by
 have hl:=(xw (r:=r) (us:=us) (ps:=ps) (Nat.le_refl _)).1
 rw [List.Nodup,List.pairwise_iff_getElem]
 intro i j hi hj hij e
 rw [hl]at hi hj
 have h1:=(WX (r:=r) (us:=us) (ps:=ps) (Nat.le_refl _) i hi).2
 have h2:=(WX (r:=r) (us:=us) (ps:=ps) (Nat.le_refl _) j hj).2
 rw [ZN (by omega),e,←ZN (by omega),h2]at h1
 have h3:gi us j=gi us i:=congrArg Plc.at_ h1
 rw [ZN hi,ZN hj]at h3
 have :=(List.pairwise_iff_getElem.1 hu) i j hi hj hij
 omega
theorem Xf {xs:List Int}{n:Int}(h:xs.Pairwise (· < ·))(h2: ∀x∈xs,0≤x∧x<n):zv xs n=true:=by
 refine qG fun k hk=> ?_
 unfold xp
 have h3:=h2 (gi xs k) (by rw [ZN hk];exact List.getElem_mem hk)
 refine decide_eq_true ⟨h3.1,h3.2,?_⟩
 rcases Nat.eq_zero_or_pos k with e|e
 ·exact .inl e
 ·right
  rw [ZN hk,ZN (by omega)]
  exact(List.pairwise_iff_getElem.1 h) (k - 1) k (by omega) hk (by omega)
theorem zMM {xs:List Int}(h:xs.Nodup):(zz xs).Pairwise (· < ·):=by
 have h1:=vd xs
 have h2:(zz xs).Nodup:=(xE xs).nodup_iff.2 h
 exact(h1.and h2).imp fun{a b} hab=>by
  have h3:=hab.1
  have h4:=hab.2
  omega
section
variable {a:Ar} {rc:Plc→List Int} {pr:Plc→Int} {p0:Plc} {V:List Int→Prop} {B:Nat}
theorem wL (hok:okQ (usA a) rc p0=true){n:Nat}(hn:n=(stQ (usA a) rc p0 257).length):n≤256∧stQ (usA a) rc p0 n=stQ (usA a) rc p0 257∧1≤n∧∀j,j<n→j<(stQ (usA a) rc p0 j).length:=by
 have h1:n≤256:=by unfold okQ at hok;rw [decide_eq_true_eq]at hok;omega
 have h2:=zF6 (a:=a) (rc:=rc) (p0:=p0) (n:=n) (by omega) (by omega)
 have h3:1≤(stQ (usA a) rc p0 257).length:=by
  have :=XC (us:=usA a) (rc:=rc) (p0:=p0) (i:=0) (j:=257) (by omega)
  rwa [show stQ (usA a) rc p0 0= [p0]from by rw [stQ]]at this
 have h4:=XC (us:=usA a) (rc:=rc) (p0:=p0) (i:=n) (j:=257) (by omega)
 have h5:=Jc (us:=usA a) (rc:=rc) (p0:=p0) (i:=n) (by omega) (j:=257) (by omega)
 exact⟨h1,h5.symm,by omega,h2⟩
theorem zBO (ha:yK a=true)(h:Qa a rc p0 V B)(hok:okQ (usA a) rc p0=true)(hpr: ∀p:Plc,0≤p.at_→p.at_<(a.owner.length:Int)→V p.record→0≤pr p∧pr p≤40):qI (gmA a rc pr p0 (stQ (usA a) rc p0 257).length)=true:=by
 obtain⟨n,hn⟩: ∃n,n=(stQ (usA a) rc p0 257).length:=⟨_,rfl⟩
 rw [←hn]
 obtain⟨h1,h2,h3,h4⟩:=wL hok hn
 have hl:=yO ha
 have hplq: ∀v,v<n→0≤(plQ (usA a) rc p0 v).at_∧(plQ (usA a) rc p0 v).at_<a.owner.length∧V (plQ (usA a) rc p0 v).record:=fun v hv=>vD ha h v _ (vC (h4 v hv))
 refine zE3 (Zd ⟨?_,?_,?_⟩ fun v hv=> ?_) ?_ fun k hk=> ?_
 ·show 1≤(xT a rc p0 n).length;rw [qO];exact h3
 ·show(xT a rc p0 n).length≤256;rw [qO];exact h1
 ·show(nxG a rc p0 n).length=(xT a rc p0 n).length;rw [qO,Yy]
 ·have hv:v<n:=by have :v<(xT a rc p0 n).length:=hv;rwa [qO]at this
  have hp:=hplq v hv
  have ho:gi (xT a rc p0 n) v=gi a.owner (plQ (usA a) rc p0 v).at_.toNat:=by
   unfold xT
   rw [ZN (by simp;exact hv)]
   simp
  have hx:gl (nxG a rc p0 n) v=nxQ (usA a) rc p0 v:=by
   unfold nxG gl
   rw [List.getD_eq_getElem?_getD,List.getElem?_map,List.getElem?_range hv]
   rfl
  have hat:=xD ha (v:=(plQ (usA a) rc p0 v).at_.toNat) (by omega)
  have hnl:(nxQ (usA a) rc p0 v).length=(usA a (plQ (usA a) rc p0 v)).length:=by
   unfold nxQ
   rw [xJ]
   exact(xw (Nat.le_refl _)).1
  unfold vO QC
  rw [Bool.and_eq_true,decide_eq_true_eq]
  show(0≤gi (xT a rc p0 n) v∧gi (xT a rc p0 n) v≤1∧1≤(gl (nxG a rc p0 n) v).length∧(gl (nxG a rc p0 n) v).length≤16)∧zv (gl (nxG a rc p0 n) v) (xT a rc p0 n).length=true
  rw [ho,hx,hnl,qO]
  refine⟨⟨hat.1,hat.2.1,hat.2.2.1,hat.2.2.2.1⟩,?_⟩
  refine Xf (zMM (zIp (Ye hat.2.2.2.2))) fun x hx=> ?_
  have hx2:=(xE _).mem_iff.1 hx
  obtain⟨j,hj,rfl⟩:=List.mem_iff_getElem.1 hx2
  have hlen:=(xw (r:=rc (plQ (usA a) rc p0 v)) (us:=usA a (plQ (usA a) rc p0 v)) (ps:=stQ (usA a) rc p0 v) (Nat.le_refl _)).1
  have hj2:j<(usA a (plQ (usA a) rc p0 v)).length:=Nat.lt_of_lt_of_eq hj hlen
  have h5:=(WX (r:=rc (plQ (usA a) rc p0 v)) (us:=usA a (plQ (usA a) rc p0 v)) (ps:=stQ (usA a) rc p0 v) (Nat.le_refl _) j hj2).1
  rw [ZN (by omega)]at h5
  have h6:(stQ (usA a) rc p0 (v+1)).length≤n:=by
   have :=XC (us:=usA a) (rc:=rc) (p0:=p0) (i:=v+1) (j:=n) (by omega)
   rw [h2]at this
   omega
  rw [ZV (h4 v hv)]at h6
  have h7:(zn (rc (plQ (usA a) rc p0 v)) (usA a (plQ (usA a) rc p0 v)) (stQ (usA a) rc p0 v) (usA a (plQ (usA a) rc p0 v)).length).1.length≤n:=h6
  exact⟨h5.1,Int.lt_of_lt_of_le h5.2 (by omega)⟩
 ·show(prG a rc pr p0 n).length=(xT a rc p0 n).length;rw [qO,YF]
 ·have hk:k<n:=by have :k<(prG a rc pr p0 n).length:=hk;rwa [YF]at this
  have hp:=hplq k hk
  have :gi (prG a rc pr p0 n) k=pr (plQ (usA a) rc p0 k):=by
   unfold prG
   rw [ZN (by simp;exact hk)]
   simp
  show 0≤gi (prG a rc pr p0 n) k∧gi (prG a rc pr p0 n) k≤40
  rw [this]
  exact hpr _ hp.1 hp.2.1 hp.2.2
end
end Go.Proofs.YthepmdkpbjfdcaaGreat
