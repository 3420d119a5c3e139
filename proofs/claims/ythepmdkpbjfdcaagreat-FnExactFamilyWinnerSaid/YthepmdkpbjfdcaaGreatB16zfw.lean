/- visits to named vertices: both sides -/
import Derived.Test.YthepmdkpbjfdcaaGreatB15zfw
import Derived.Test.YthepmdkpbjfdcaaGreatB11zfw
namespace Go.Proofs.YthepmdkpbjfdcaaGreat
open Nat renaming reduceMod → zA, reduceMul → zB, reduceDiv → zC, reduceAdd → zD, reduceSub → zE, reduceEqDiff → zF, reduceBEq → zG, reduceLT → zH, reduceLeDiff → zI
open Go.RowKit
set_option linter.unusedVariables false
set_option linter.unusedSimpArgs false
theorem wc : ∀{xs ys:List Int},xs.Perm ys→xs.Pairwise (· ≤ ·)→ys.Pairwise (· ≤ ·)→xs=ys
 | [],ys,h,_,_=>(List.Perm.nil_eq h)
 |x::xs,[],h,_,_=>by have :=h.length_eq;simp at this
 |x::xs,y::ys,h,h1,h2=>by
  rw [List.pairwise_cons]at h1 h2
  have hx:x∈y::ys:=h.subset (by simp)
  have hy:y∈x::xs:=h.symm.subset (by simp)
  have e:x=y:=by
   rw [List.mem_cons]at hx hy
   rcases hx with hx|hx
   ·exact hx
   ·rcases hy with hy|hy
    ·exact hy.symm
    ·have :=h1.1 y hy;have :=h2.1 x hx;omega
  subst e
  rw [wc ((List.perm_cons x).1 h) h1.2 h2.2]
theorem pw_le {xs:List Int}(h:xs.Pairwise (· < ·)):xs.Pairwise (· ≤ ·):=h.imp fun h=>by omega
theorem zGY {xs:List Int}(h:xs.Pairwise (· < ·)):xs.Nodup:=h.imp fun h=>by omega
theorem zB7 {xs:List Int}(h:xs.Nodup):(zy xs).Pairwise (· < ·):=by
 have h1:=qn xs
 have h2:(zy xs).Nodup:=(xp xs).nodup_iff.2 h
 unfold List.Nodup at h2
 exact(h1.and h2).imp fun h=>by omega
def vk (f:Fm)(r:List Int):Bool:=qr f 256&&decide (zy r=f.names)
theorem zCz {f:Fm}{r:List Int}(h:qr f 256=true):vk f r=decide (zy r=f.names):=by unfold vk;rw [h];rfl
theorem vH {f:Fm}{r:List Int}(h:vk f r=true):qr f 256=true∧zy r=f.names∧r.length≤4∧r.Nodup∧∀x,x∈r↔x∈f.names:=by
 unfold vk at h
 rw [Bool.and_eq_true,decide_eq_true_eq]at h
 obtain⟨h1,h2⟩:=h
 have hn:=VQ h1
 refine⟨h1,h2,by have :=xT r;rw [h2]at this;omega,?_,fun x=> ?_⟩
 ·rw [←(xp r).nodup_iff,h2];exact zGY (jq hn.1)
 ·rw [←(xp r).mem_iff,h2]
theorem zIT {f:Fm}{r:List Int}(h:vk f r=true)(v:Int):yD f.names v=yD r v:=by
 have :=(vH h).2.2.2.2 v
 cases h1:yD f.names v<;>cases h2:yD r v<;>first|rfl|(have a:=xD f.names v;have b:=xD r v;rw [h1]at a;rw [h2]at b;simp_all)
theorem zBv {xs:List Int}(h:xs.Nodup)(k:Nat):(xs.take k).Nodup:=h.sublist (List.take_sublist _ _)
theorem zIU {f:Fm}{r:List Int}(h:vk f r=true)(k:Nat):zy (r.take k)=xi f.names (r.take k):=by
 obtain⟨h1,h2,h3,h4,h5⟩:=vH h
 refine jr (zB7 (zBv h4 k)) ((jq (VQ h1).1).filter _) fun x=> ?_
 unfold xi
 rw [(xp _).mem_iff,List.mem_filter,xD,←h5]
 exact⟨fun hm=>⟨List.mem_of_mem_take hm,hm⟩,fun hm=>hm.2⟩
def zt (r:List Int)(v:Int):List Int:=if yD r v then v::r.filter (fun x=> !decide (x=v))else r
theorem Vf {r:List Int}{v:Int}(h:yD r v=false):zt r v=r:=by unfold zt;rw [h];rfl
theorem Xr {r:List Int}{v:Int}(h:yD r v=true):zt r v=v::r.filter (fun x=> !decide (x=v)):=by unfold zt;rw [h];rfl
theorem zGL (r:List Int)(v:Int):(zt r v).length≤r.length+1:=by
 unfold zt
 split
 ·simp only [List.length_cons];have :=List.length_filter_le (fun x=> !decide (x=v)) r;omega
 ·omega
def yl (f:Fm)(r:List Int)(v:Int):Int:=if yD r v then 2*qJ r v+(if qD f.sets (xi f.names (r.take (qJ r v+1)))then 2 else 1)else(if qD f.sets []then 0 else 1)
theorem ZO {r:List Int}{v:Int}:yD r v=decide (qJ r v<r.length):=rfl
theorem zDR (r:List Int)(v:Int): -1≤ixB r v∧ixB r v<r.length:=by
 unfold ixB
 split<;>omega
theorem zB3 {f:Fm}{r:List Int}{v:Int}{K:Nat}(h:ixB r v<0)(hK:K=(ixB r v+1).toNat)(hs:zy (r.take K)=xi f.names (r.take K))(ho:qD f.sets (zy (r.take K))=true):(0:Int)=yl f r v:=by
 have hx: ¬qJ r v<r.length:=fun h2=>by unfold ixB at h;rw [if_pos h2]at h;omega
 have :K=0:=by have :=(zDR r v).1;omega
 subst this
 rw [List.take_zero,Xw]at ho
 unfold yl
 rw [ZO,decide_eq_false hx,ho]
 rfl
theorem zB4 {f:Fm}{r:List Int}{v:Int}{K:Nat}(h:ixB r v<0)(hK:K=(ixB r v+1).toNat)(hs:zy (r.take K)=xi f.names (r.take K))(ho:qD f.sets (zy (r.take K))=false):(1:Int)=yl f r v:=by
 have hx: ¬qJ r v<r.length:=fun h2=>by unfold ixB at h;rw [if_pos h2]at h;omega
 have :K=0:=by have :=(zDR r v).1;omega
 subst this
 rw [List.take_zero,Xw]at ho
 unfold yl
 rw [ZO,decide_eq_false hx,ho]
 rfl
theorem KA {f:Fm}{r:List Int}{v:Int}{K:Nat}(h: ¬ixB r v<0)(hK:K=(ixB r v+1).toNat)(hs:zy (r.take K)=xi f.names (r.take K))(ho:qD f.sets (zy (r.take K))=true):2*ixB r v+1+1=yl f r v:=by
 have hx:qJ r v<r.length:=by
  unfold ixB at h
  split at h
  ·assumption
  ·omega
 have hi:ixB r v=qJ r v:=by unfold ixB;rw [if_pos hx]
 have :K=qJ r v+1:=by omega
 subst this
 rw [hs]at ho
 unfold yl
 rw [ZO,decide_eq_true hx,ho,hi]
 simp only [if_true]
 omega
theorem Jz {f:Fm}{r:List Int}{v:Int}{K:Nat}(h: ¬ixB r v<0)(hK:K=(ixB r v+1).toNat)(hs:zy (r.take K)=xi f.names (r.take K))(ho:qD f.sets (zy (r.take K))=false):2*ixB r v+1=yl f r v:=by
 have hx:qJ r v<r.length:=by
  unfold ixB at h
  split at h
  ·assumption
  ·omega
 have hi:ixB r v=qJ r v:=by unfold ixB;rw [if_pos hx]
 have :K=qJ r v+1:=by omega
 subst this
 rw [hs]at ho
 unfold yl
 rw [ZO,decide_eq_true hx,ho,hi]
 simp
set_option maxRecDepth 20000 in
set_option maxHeartbeats 4000000 in
theorem kX (r:List Int)(hr:r.length≤1048576)(v:Int):Fn Tryz.prog tyT 158 [.c (DI r), .c (.int .i64 v)] [.c (DI (r.filter fun x=> !decide (x=v)))]:=by
 refine zr (fn:=Tryz.f158) (ts:= [4]) Tryz.func158 (by kernel_rfl) rfl rfl (by rw [Tryz.ntmps158];exact Nat.le_of_ble_eq_true rfl) rfl (by simp only [szA,List.mem_cons,List.not_mem_nil,or_false,forall_eq_or_imp,forall_eq,VT.cells,szL];try decide) ?_
 rw [Tryz.ntmps158]
 push_cast
 refine zL fun K hK=> ?_
 refine zM zO zN [] rfl ?_
 push_cast
 repeat' apply And.intro
 all_goals try exact gB
 refine hK _ ?_;clear hK K
 refine zL fun K hK=> ?_
 refine zM zO zN [] rfl ?_
 push_cast
 repeat' apply And.intro
 all_goals try exact gB
 refine hK _ ?_;clear hK K
 refine zL fun K1 hK1=> ?_
 refine zL fun K hK=> ?_
 refine zM zO zN [] rfl ?_
 push_cast
 repeat' apply And.intro
 all_goals try exact gB
 refine hK _ ?_;clear hK K
 refine zV ?_
 refine zh [5,7,11,12,13,14,15,16,17,18,19,20,21,22] [80] (fun(q:Nat×List Int)=> [(11, .int .i64 q.1),(5, .sl 80 [] 0 q.2.length 2)]) (fun q=> []) (fun q=> [(80,⟨.ex,2,dI q.2,none⟩)]) (fun q=>q.1≤r.length∧q.2=(r.take q.1).filter (fun x=> !decide (x=v))) (fun q=>r.length - q.1) (0,[]) ?_ ⟨by omega,rfl⟩ ?_
 ·
  simp only [show dI ([]:List Int)= []from rfl]
  refine zX rfl ?_ ?_ ?_<;>push_cast [zg,zf]
 ·rintro⟨k,o⟩ ⟨hk,ho⟩ KL0 hL0
  simp only at hk ho
  have hol:o.length≤r.length:=by rw [ho];exact Vv _ _ _
  push_cast
  refine zL fun K hK=> ?_
  refine zM zO zN [] rfl ?_
  push_cast
  repeat' apply And.intro
  all_goals try exact gB
  refine hK _ ?_;clear hK K
  refine zL fun K2 hK2=> ?_
  refine zT rfl (fun hc=> ?_) (fun hc=> ?_)<;>(try simp only [push_cast]at hc)
  ·
   refine zU ?_
   refine hK2 _ ?_
   refine zL fun K3 hK3=> ?_
   refine zV ?_
   refine zL fun K hK=> ?_
   refine zM zO zN [] rfl ?_
   push_cast
   repeat' apply And.intro
   all_goals try exact gB
   refine hK _ ?_;clear hK K
   refine zL fun K hK=> ?_
   refine zM zO zN [] rfl ?_
   push_cast
   repeat' apply And.intro
   all_goals try exact gB
   refine hK _ ?_;clear hK K
   refine zT rfl (fun hc=> ?_) (fun hc=> ?_)<;>(try simp only [push_cast]at hc)
   ·
    refine zM zO zN [] rfl ?_
    push_cast
    repeat' apply And.intro
    all_goals try exact gB
    refine hK3 _ ?_
    refine zM zO zN [] rfl ?_
    push_cast
    repeat' apply And.intro
    all_goals try exact gB
    refine hL0 _ ⟨(k+1,o++ [gi r k]),⟨by simp only;omega,by simp only;rw [VR (by omega) (by simp only [decide_eq_false hc,Bool.not_false]),←ho]⟩,by simp only;omega,?_⟩
    refine zX rfl ?_ ?_ ?_<;>push_cast [zg,zf]
    all_goals(try(rw [List.length_append];rfl))
   ·
    refine zU ?_
    refine hK3 _ ?_
    refine zM zO zN [] rfl ?_
    push_cast
    repeat' apply And.intro
    all_goals try exact gB
    refine hL0 _ ⟨(k+1,o),⟨by simp only;omega,by simp only;rw [JP (by omega) (by simp only [decide_eq_true hc,Bool.not_true]),←ho]⟩,by simp only;omega,?_⟩
    refine zX rfl ?_ ?_ ?_<;>push_cast [zg,zf]
    all_goals(try(rw [List.length_append];rfl))
  ·
   refine zi ?_
   have hkk:k=r.length:=by omega
   subst hkk
   rw [List.take_length]at ho
   refine hK1 _ ?_
   refine zL fun K hK=> ?_
   refine zM zO zN [] rfl ?_
   push_cast
   repeat' apply And.intro
   all_goals try exact gB
   refine hK _ ?_;clear hK K
   refine zW ?_
   refine⟨Or.inl rfl,?_⟩
   push_cast [za]
   subst ho
   first|rfl|(simp;done)
set_option maxRecDepth 20000 in
set_option maxHeartbeats 4000000 in
theorem UI (f:Fm)(hf:f.Ln 1048576)(r:List Int)(hr:r.length≤1048576)(v:Int)(hv:vk f r=true):Fn Tryz.prog tyT 112 [.agg (dFm f), .c (DI r), .c (.int .i64 v)] [.c (DI (zt r v))]:=by
 have h1:=hf.names
 have h2:=hf.sets.1
 unfold LnI at h1
 have hrr: ∀v,(gl f.sets v).length≤1048576:=fun v=>Yl hf.sets v
 have hC:=zBf f.names v h1
 rw [zIT hv]at hC
 have hL:=kX r hr v
 have hl4:=(vH hv).2.2.1
 have hfl:=kR r (fun x=> !decide (x=v))
 unfold dFm
 refine zr (fn:=Tryz.f112) (ts:= [6]) Tryz.func112 (by kernel_rfl) rfl rfl (by rw [Tryz.ntmps112];exact Nat.le_of_ble_eq_true rfl) rfl (by simp only [szA,List.mem_cons,List.not_mem_nil,or_false,forall_eq_or_imp,forall_eq,VT.cells,szL];try decide) ?_
 rw [Tryz.ntmps112]
 push_cast
 refine zL fun K hK=> ?_
 refine zM zO zN [] rfl ?_
 push_cast
 repeat' apply And.intro
 all_goals try exact gB
 refine hK _ ?_;clear hK K
 refine zL fun K1 hK1=> ?_
 refine zL fun K hK=> ?_
 refine zM zO zN [] rfl ?_
 all_goals refine zl 4 fun K9 hK9=> ?_
 all_goals push_cast
 all_goals repeat'(first|(apply zP<;>(intro hg;push_cast at hg))|(refine⟨_,hC,?_⟩;push_cast)|apply And.intro|(intro hg;push_cast at hg))
 all_goals try exact gA
 refine hK9 _ ?_;clear hK9 K9
 all_goals push_cast
 all_goals repeat'(first|(apply zP<;>(intro hg;push_cast at hg))|(refine⟨_,hC,?_⟩;push_cast)|apply And.intro|(intro hg;push_cast at hg))
 all_goals try exact gA
 refine hK _ ?_;clear hK K
 refine zT rfl (fun hc=> ?_) (fun hc=> ?_)<;>(try simp only [push_cast]at hc)
 ·
  refine zL fun K hK=> ?_
  refine zM zO zN [] rfl ?_
  push_cast
  repeat' apply And.intro
  all_goals try exact gB
  refine hK _ ?_;clear hK K
  refine zW ?_
  refine⟨Or.inl rfl,?_⟩
  push_cast [za]
  rw [Vf (by with_reducible assumption)]
  (try rw [List.take_of_length_le (l:=r) (Nat.le_refl _)])
  all_goals first|rfl|exact⟨rfl,rfl⟩|(simp;done)
 ·
  refine zU ?_
  refine hK1 _ ?_
  refine zL fun K hK=> ?_
  refine zM zO zN [] rfl ?_
  all_goals refine zl 5 fun K9 hK9=> ?_
  all_goals push_cast
  all_goals repeat'(first|(apply zP<;>(intro hg;push_cast at hg))|(refine⟨_,hL,?_⟩;push_cast)|apply And.intro|(intro hg;push_cast at hg))
  all_goals try exact gA
  refine hK9 _ ?_;clear hK9 K9
  all_goals push_cast
  all_goals repeat'(first|(apply zP<;>(intro hg;push_cast at hg))|(refine⟨_,hL,?_⟩;push_cast)|apply And.intro|(intro hg;push_cast at hg))
  all_goals try exact gA
  refine hK _ ?_;clear hK K
  refine zW ?_
  refine⟨Or.inl rfl,?_⟩
  push_cast [za]
  rw [Xr (by with_reducible assumption)]
  (try rw [List.take_of_length_le (l:=r.filter fun x=> !decide (x=v)) (Nat.le_refl _)])
  exact⟨rfl,Nat.add_comm _ _⟩
set_option maxRecDepth 20000 in
set_option maxHeartbeats 4000000 in
theorem ja (r:List Int)(hr:r.length≤1048570)(v:Int):Fn Tryz.prog tyT 102 [.c (DI r), .c (.int .i64 v)] [.c (DI (zt r v))]:=by
 have hC:=YS r v (by omega)
 refine zr (fn:=Tryz.f102) (ts:= [4]) Tryz.func102 (by kernel_rfl) rfl rfl (by rw [Tryz.ntmps102];exact Nat.le_of_ble_eq_true rfl) rfl (by simp only [szA,List.mem_cons,List.not_mem_nil,or_false,forall_eq_or_imp,forall_eq,VT.cells,szL];try decide) ?_
 rw [Tryz.ntmps102]
 push_cast
 refine zL fun K hK=> ?_
 refine zM zO zN [] rfl ?_
 push_cast
 repeat' apply And.intro
 all_goals try exact gB
 refine hK _ ?_;clear hK K
 refine zL fun K1 hK1=> ?_
 refine zL fun K hK=> ?_
 refine zM zO zN [] rfl ?_
 all_goals refine zl 3 fun K9 hK9=> ?_
 all_goals push_cast
 all_goals repeat'(first|(apply zP<;>(intro hg;push_cast at hg))|(refine⟨_,hC,?_⟩;push_cast)|apply And.intro|(intro hg;push_cast at hg))
 all_goals try exact gA
 refine hK9 _ ?_;clear hK9 K9
 all_goals push_cast
 all_goals repeat'(first|(apply zP<;>(intro hg;push_cast at hg))|(refine⟨_,hC,?_⟩;push_cast)|apply And.intro|(intro hg;push_cast at hg))
 all_goals try exact gA
 refine hK _ ?_;clear hK K
 refine zT rfl (fun hc=> ?_) (fun hc=> ?_)<;>(try simp only [push_cast]at hc)
 ·
  refine zL fun K hK=> ?_
  refine zM zO zN [] rfl ?_
  push_cast
  repeat' apply And.intro
  all_goals try exact gB
  refine hK _ ?_;clear hK K
  refine zW ?_
  refine⟨Or.inl rfl,?_⟩
  push_cast [za]
  rw [Vf (by with_reducible assumption)]
  (try rw [List.take_of_length_le (l:=r) (Nat.le_refl _)])
  all_goals first|rfl|exact⟨rfl,rfl⟩|(simp;done)
 ·
  refine zU ?_
  refine hK1 _ ?_
  refine zL fun K hK=> ?_
  refine zM zO zN [] rfl ?_
  push_cast
  repeat' apply And.intro
  all_goals try exact gB
  refine hK _ ?_;clear hK K
  refine zL fun K2 hK2=> ?_
  refine zL fun K hK=> ?_
  refine zM zO zN [] rfl ?_
  push_cast
  repeat' apply And.intro
  all_goals try exact gB
  refine hK _ ?_;clear hK K
  refine zV ?_
  refine zh [5,6,16,17,18,19,20,21,22,23,24,25,26,27,28,29,30,31,32,33,34] [80] (fun(q:Nat×List Int)=> [(6, .int .i64 q.1),(5, .sl 80 [] 0 (q.2.length+1) 2)]) (fun q=> []) (fun q=> [(80,⟨.ex,2,dI (v::q.2),none⟩)]) (fun q=>q.1≤r.length∧q.2=(r.take q.1).filter (fun x=> !decide (x=v))) (fun q=>r.length - q.1) (0,[]) ?_ ⟨by omega,rfl⟩ ?_
  ·
   simp only [show dI (v::([]:List Int))= [D.int .i64 v]from rfl]
   refine zX rfl ?_ ?_ ?_<;>push_cast [zg,zf]
  ·rintro⟨k,o⟩ ⟨hk,ho⟩ KL0 hL0
   simp only at hk ho
   have hol:o.length≤r.length:=by rw [ho];exact Vv _ _ _
   push_cast
   refine zL fun K3 hK3=> ?_
   refine zL fun K hK=> ?_
   refine zM zO zN [] rfl ?_
   push_cast
   repeat' apply And.intro
   all_goals try exact gB
   refine hK _ ?_;clear hK K
   refine zT rfl (fun hc=> ?_) (fun hc=> ?_)<;>(try simp only [push_cast]at hc)
   ·
    refine zU ?_
    refine hK3 _ ?_
    refine zL fun K4 hK4=> ?_
    refine zV ?_
    refine zL fun K hK=> ?_
    refine zM zO zN [] rfl ?_
    push_cast
    repeat' apply And.intro
    all_goals try exact gB
    refine hK _ ?_;clear hK K
    refine zT rfl (fun hc=> ?_) (fun hc=> ?_)<;>(try simp only [push_cast]at hc)
    ·
     refine zM zO zN [] rfl ?_
     push_cast
     repeat' apply And.intro
     all_goals try exact gB
     refine hK4 _ ?_
     refine zM zO zN [] rfl ?_
     push_cast
     repeat' apply And.intro
     all_goals try exact gB
     refine hL0 _ ⟨(k+1,o++ [gi r k]),⟨by simp only;omega,by simp only;rw [VR (by omega) (by simp only [decide_eq_false hc,Bool.not_false]),←ho]⟩,by simp only;omega,?_⟩
     refine zX rfl ?_ ?_ ?_<;>push_cast [zg,zf]
     all_goals(try(rw [List.length_append];rfl))
     all_goals(try(first|rfl|(simp;done)))
    ·
     refine zU ?_
     refine hK4 _ ?_
     refine zM zO zN [] rfl ?_
     push_cast
     repeat' apply And.intro
     all_goals try exact gB
     refine hL0 _ ⟨(k+1,o),⟨by simp only;omega,by simp only;rw [JP (by omega) (by simp only [decide_eq_true hc,Bool.not_true]),←ho]⟩,by simp only;omega,?_⟩
     refine zX rfl ?_ ?_ ?_<;>push_cast [zg,zf]
     all_goals(try(rw [List.length_append];rfl))
     all_goals(try(first|rfl|(simp;done)))
   ·
    refine zi ?_
    have hkk:k=r.length:=by omega
    subst hkk
    rw [List.take_length]at ho
    refine hK2 _ ?_
    refine zL fun K hK=> ?_
    refine zM zO zN [] rfl ?_
    push_cast
    repeat' apply And.intro
    all_goals try exact gB
    refine hK _ ?_;clear hK K
    refine zW ?_
    refine⟨Or.inl rfl,?_⟩
    push_cast [za]
    rw [Xr (by with_reducible assumption)]
    subst ho
    all_goals first|rfl|exact⟨rfl,rfl⟩|(simp;done)
set_option maxRecDepth 20000 in
set_option maxHeartbeats 4000000 in
theorem zBY (f:Fm)(hf:f.Ln 1048576)(r:List Int)(hr:r.length≤1048576)(v:Int)(hv:vk f r=true):Fn Tryz.prog tyT 114 [.agg (dFm f), .c (DI r), .c (.int .i64 v)] [.c (.int .i64 (yl f r v))]:=by
 have h1:=hf.names
 have h2:=hf.sets.1
 unfold LnI at h1
 have hrr: ∀v,(gl f.sets v).length≤1048576:=fun v=>Yl hf.sets v
 have hI:=KN r v hr
 have hx:=zDR r v
 obtain⟨m9,hm9⟩: ∃m9,m9=(ixB r v+1).toNat:=⟨_,rfl⟩
 have hsl:=xT (r.take m9)
 rw [List.length_take]at hsl
 have hkl:(r.take m9).length=m9:=by rw [List.length_take];omega
 have hSo:=zCJ (r.take m9) (by omega)
 have hH:=uc f h2 hrr (zy (r.take m9)) (by omega)
 have hset:=zIU hv m9
 unfold dFm at hH
 unfold dFm
 refine zr (fn:=Tryz.f114) (ts:= [6]) Tryz.func114 (by kernel_rfl) rfl rfl (by rw [Tryz.ntmps114];exact Nat.le_of_ble_eq_true rfl) rfl (by simp only [szA,List.mem_cons,List.not_mem_nil,or_false,forall_eq_or_imp,forall_eq,VT.cells,szL];try decide) ?_
 rw [Tryz.ntmps114]
 push_cast
 refine zL fun K hK=> ?_
 refine zM zO zN [] rfl ?_
 push_cast
 repeat' apply And.intro
 all_goals try exact gB
 refine hK _ ?_;clear hK K
 refine zL fun K hK=> ?_
 refine zM zO zN [] rfl ?_
 all_goals refine zl 3 fun K9 hK9=> ?_
 all_goals push_cast
 all_goals repeat'(first|(apply zP<;>(intro hg;push_cast at hg))|(refine⟨_,hI,?_⟩;push_cast)|apply And.intro|(intro hg;push_cast at hg))
 all_goals try exact gA
 refine hK9 _ ?_;clear hK9 K9
 all_goals push_cast
 all_goals repeat'(first|(apply zP<;>(intro hg;push_cast at hg))|(refine⟨_,hI,?_⟩;push_cast)|apply And.intro|(intro hg;push_cast at hg))
 all_goals try exact gA
 refine hK _ ?_;clear hK K
 refine zL fun K hK=> ?_
 refine zM zO zN [] rfl ?_
 push_cast
 repeat' apply And.intro
 all_goals try exact gB
 refine hK _ ?_;clear hK K
 rw [←hm9]
 (try rw [List.take_of_length_le (l:=r.take m9) (by omega)])
 rw [show AV.sl 128 [] 0 m9 2=AV.sl 128 [] 0 (r.take m9).length 2 from by rw [hkl]]
 refine zL fun K hK=> ?_
 refine zBm 20 [0] [(0,2,dI (zy (r.take m9)))] zO zN [] rfl ?_
 push_cast
 all_goals repeat'(first|(apply zP<;>(intro hg;push_cast at hg))|(refine⟨_,hSo,?_⟩;push_cast)|apply And.intro|(intro hg;push_cast at hg))
 all_goals try exact gA
 refine hK _ ?_;clear hK K
 rw [show AV.sl 128 [] 0 (r.take m9).length 2=AV.sl 128 [] 0 (zy (r.take m9)).length 2 from by rw [xT]]
 refine zL fun K hK=> ?_
 refine zM zO zN [] rfl ?_
 push_cast
 repeat' apply And.intro
 all_goals try exact gB
 refine hK _ ?_;clear hK K
 refine zL fun K1 hK1=> ?_
 refine zL fun K hK=> ?_
 refine zM zO zN [] rfl ?_
 push_cast
 repeat' apply And.intro
 all_goals try exact gB
 refine hK _ ?_;clear hK K
 refine zT rfl (fun hc=> ?_) (fun hc=> ?_)<;>(try simp only [push_cast]at hc)
 ·
  refine zL fun K hK=> ?_
  refine zM zO zN [] rfl ?_
  push_cast
  repeat' apply And.intro
  all_goals try exact gB
  refine hK _ ?_;clear hK K
  refine zL fun K2 hK2=> ?_
  refine zL fun K hK=> ?_
  refine zM zO zN [] rfl ?_
  all_goals refine zl 3 fun K9 hK9=> ?_
  all_goals push_cast
  all_goals repeat'(first|(apply zP<;>(intro hg;push_cast at hg))|(refine⟨_,hH,?_⟩;push_cast)|apply And.intro|(intro hg;push_cast at hg))
  all_goals try exact gA
  refine hK9 _ ?_;clear hK9 K9
  all_goals push_cast
  all_goals repeat'(first|(apply zP<;>(intro hg;push_cast at hg))|(refine⟨_,hH,?_⟩;push_cast)|apply And.intro|(intro hg;push_cast at hg))
  all_goals try exact gA
  refine hK _ ?_;clear hK K
  refine zT rfl (fun hc=> ?_) (fun hc=> ?_)<;>(try simp only [push_cast]at hc)
  ·
   refine zL fun K hK=> ?_
   refine zM zO zN [] rfl ?_
   push_cast
   repeat' apply And.intro
   all_goals try exact gB
   refine hK _ ?_;clear hK K
   refine zW ?_
   refine⟨Or.inl rfl,?_⟩
   push_cast [za]
   all_goals exact zB3 (by omega) hm9 hset (by with_reducible assumption)
  ·
   refine zU ?_
   refine hK2 _ ?_
   refine zL fun K hK=> ?_
   refine zM zO zN [] rfl ?_
   push_cast
   repeat' apply And.intro
   all_goals try exact gB
   refine hK _ ?_;clear hK K
   refine zW ?_
   refine⟨Or.inl rfl,?_⟩
   push_cast [za]
   all_goals exact zB4 (by omega) hm9 hset (by with_reducible assumption)
 ·
  refine zU ?_
  refine hK1 _ ?_
  refine zL fun K3 hK3=> ?_
  refine zL fun K hK=> ?_
  refine zM zO zN [] rfl ?_
  all_goals refine zl 3 fun K9 hK9=> ?_
  all_goals push_cast
  all_goals repeat'(first|(apply zP<;>(intro hg;push_cast at hg))|(refine⟨_,hH,?_⟩;push_cast)|apply And.intro|(intro hg;push_cast at hg))
  all_goals try exact gA
  refine hK9 _ ?_;clear hK9 K9
  all_goals push_cast
  all_goals repeat'(first|(apply zP<;>(intro hg;push_cast at hg))|(refine⟨_,hH,?_⟩;push_cast)|apply And.intro|(intro hg;push_cast at hg))
  all_goals try exact gA
  refine hK _ ?_;clear hK K
  refine zT rfl (fun hc=> ?_) (fun hc=> ?_)<;>(try simp only [push_cast]at hc)
  ·
   refine zM zO zN [] rfl ?_
   push_cast
   repeat' apply And.intro
   all_goals try exact gB
   refine hK3 _ ?_
   refine zL fun K hK=> ?_
   refine zM zO zN [] rfl ?_
   push_cast
   repeat' apply And.intro
   all_goals try exact gB
   refine hK _ ?_;clear hK K
   refine zW ?_
   refine⟨Or.inl rfl,?_⟩
   push_cast [za]
   all_goals first|exact KA (by omega) hm9 hset (by with_reducible assumption)|exact Jz (by omega) hm9 hset (by with_reducible assumption)
  ·
   refine zU ?_
   refine hK3 _ ?_
   refine zL fun K hK=> ?_
   refine zM zO zN [] rfl ?_
   push_cast
   repeat' apply And.intro
   all_goals try exact gB
   refine hK _ ?_;clear hK K
   refine zW ?_
   refine⟨Or.inl rfl,?_⟩
   push_cast [za]
   all_goals first|exact KA (by omega) hm9 hset (by with_reducible assumption)|exact Jz (by omega) hm9 hset (by with_reducible assumption)
theorem Km {f:Fm}{r:List Int}{v:Int}{k:Nat}(hk:k<r.length)(h: ∀j,j<k→¬gi r j=v)(he:gi r k=v):yl f r v=2*k+(if qD f.sets (xi f.names (r.take (k+1)))then 2 else 1):=by
 have hf:qJ r v=k:=kP hk h he
 unfold yl
 rw [ZO,hf,decide_eq_true hk]
 rfl
theorem jk {f:Fm}{r:List Int}{v:Int}(h: ∀j,j<r.length→¬gi r j=v):yl f r v=if qD f.sets []then 0 else 1:=by
 unfold yl
 rw [ZO,WX h,decide_eq_false (by omega)]
 rfl
set_option maxRecDepth 20000 in
set_option maxHeartbeats 4000000 in
theorem zDU (f:Fm)(hf:f.Ln 1048576)(r:List Int)(hr:r.length≤1048576)(v:Int):Fn Tryz.prog tyT 105 [.agg (dFm f), .c (DI r), .c (.int .i64 v)] [.c (.int .i64 (yl f r v))]:=by
 have h1:=hf.names
 have h2:=hf.sets.1
 unfold LnI at h1
 have hrr: ∀v,(gl f.sets v).length≤1048576:=fun v=>Yl hf.sets v
 have hO:=fun k=>zF4 f.names (r.take k) h1 (by rw [List.length_take];omega)
 have hH:=fun t ht=>zEi f h2 hrr t ht
 unfold dFm at hH
 unfold dFm
 refine zr (fn:=Tryz.f105) (ts:= [6]) Tryz.func105 (by kernel_rfl) rfl rfl (by rw [Tryz.ntmps105];exact Nat.le_of_ble_eq_true rfl) rfl (by simp only [szA,List.mem_cons,List.not_mem_nil,or_false,forall_eq_or_imp,forall_eq,VT.cells,szL];try decide) ?_
 rw [Tryz.ntmps105]
 push_cast
 refine zL fun K hK=> ?_
 refine zM zO zN [] rfl ?_
 push_cast
 repeat' apply And.intro
 all_goals try exact gB
 refine hK _ ?_;clear hK K
 refine zL fun K1 hK1=> ?_
 refine zL fun K hK=> ?_
 refine zM zO zN [] rfl ?_
 push_cast
 repeat' apply And.intro
 all_goals try exact gB
 refine hK _ ?_;clear hK K
 refine zV ?_
 refine zh [6,7,8,9,10,11,12,13,14,15,16,17,18,19,20,21,22,23,24,25,26,27,28,29,30,31,32,33,34] [] (fun(k:Nat)=> [(7, .int .i64 k)]) (fun k=> []) (fun k=> []) (fun k=>k≤r.length∧∀j,j<k→¬gi r j=v) (fun k=>r.length - k) 0 ?_ ⟨by omega,fun j hj=>by omega⟩ ?_
 ·
  refine zX rfl ?_ ?_ ?_<;>push_cast [zg,zf]
 ·rintro k ⟨hk,hall⟩ KL0 hL0
  push_cast
  refine zL fun K2 hK2=> ?_
  refine zL fun K hK=> ?_
  refine zM zO zN [] rfl ?_
  push_cast
  repeat' apply And.intro
  all_goals try exact gB
  refine hK _ ?_;clear hK K
  refine zT rfl (fun hc=> ?_) (fun hc=> ?_)<;>(try simp only [push_cast]at hc)
  ·
   refine zU ?_
   refine hK2 _ ?_
   refine zL fun K3 hK3=> ?_
   refine zV ?_
   refine zL fun K hK=> ?_
   refine zM zO zN [] rfl ?_
   push_cast
   repeat' apply And.intro
   all_goals try exact gB
   refine hK _ ?_;clear hK K
   refine zT rfl (fun hc=> ?_) (fun hc=> ?_)<;>(try simp only [push_cast]at hc)
   ·
    refine zL fun K4 hK4=> ?_
    refine zL fun K hK=> ?_
    refine yo false zO zN xj ?_ rfl ?_
    ·kernel_rfl
    intro E hE
    all_goals refine xR 8 (by decide) fun K9 hK9=> ?_
    all_goals push_cast
    all_goals repeat'(first|(apply zP<;>(intro hg;push_cast at hg))|(refine⟨_,hO (k+1),?_⟩;push_cast)|apply And.intro|(intro hg;push_cast at hg))
    all_goals try exact gA
    refine hK9 _ _ ?_;clear hK9 K9
    all_goals refine xR 1 (by decide) fun K9 hK9=> ?_
    all_goals push_cast
    all_goals repeat'(first|(apply zP<;>(intro hg;push_cast at hg))|(refine⟨_,hH (xi f.names (r.take (k+1))) (Nat.le_trans (zA5 _ _) h1),?_⟩;push_cast)|apply And.intro|(intro hg;push_cast at hg))
    all_goals try exact gA
    refine hK9 _ _ ?_;clear hK9 K9
    all_goals push_cast
    all_goals repeat'(first|(apply zP<;>(intro hg;push_cast at hg))|(refine⟨_,hO (k+1),?_⟩;push_cast)|(refine⟨_,hH (xi f.names (r.take (k+1))) (Nat.le_trans (zA5 _ _) h1),?_⟩;push_cast)|apply And.intro|(intro hg;push_cast at hg))
    all_goals first|exact gA|(refine hE _ _ ?_ ?_;kernel_rfl)|skip
    all_goals clear hE E
    refine hK _ ?_;clear hK K
    refine zT rfl (fun hc=> ?_) (fun hc=> ?_)<;>(try simp only [push_cast]at hc)
    ·
     refine zL fun K hK=> ?_
     refine zM zO zN [] rfl ?_
     push_cast
     repeat' apply And.intro
     all_goals try exact gB
     refine hK _ ?_;clear hK K
     refine zW ?_
     refine⟨Or.inl rfl,?_⟩
     push_cast [za]
     rw [Km (k:=k) (by omega) hall (by omega),show qD f.sets (xi f.names (r.take (k+1)))=true from by with_reducible assumption]
     rfl
    ·
     refine zU ?_
     refine hK4 _ ?_
     refine zL fun K hK=> ?_
     refine zM zO zN [] rfl ?_
     push_cast
     repeat' apply And.intro
     all_goals try exact gB
     refine hK _ ?_;clear hK K
     refine zW ?_
     refine⟨Or.inl rfl,?_⟩
     push_cast [za]
     rw [Km (k:=k) (by omega) hall (by omega),show qD f.sets (xi f.names (r.take (k+1)))=false from by with_reducible assumption]
     rfl
   ·
    refine zU ?_
    refine hK3 _ ?_
    refine zM zO zN [] rfl ?_
    push_cast
    repeat' apply And.intro
    all_goals try exact gB
    refine hL0 _ ⟨k+1,⟨by omega,fun j hj=>(by
      by_cases hjk:j=k
      ·subst hjk;omega
      ·exact hall j (by omega))⟩,by omega,?_⟩
    refine zX rfl ?_ ?_ ?_<;>push_cast [zg,zf]
  ·
   refine zi ?_
   refine hK1 _ ?_
   refine zL fun K5 hK5=> ?_
   refine zL fun K hK=> ?_
   refine zM zO zN [] rfl ?_
   all_goals refine zl 3 fun K9 hK9=> ?_
   all_goals push_cast
   all_goals repeat'(first|(apply zP<;>(intro hg;push_cast at hg))|(refine⟨_,hH [] (by simp),?_⟩;push_cast)|apply And.intro|(intro hg;push_cast at hg))
   all_goals try exact gA
   refine hK9 _ ?_;clear hK9 K9
   all_goals push_cast
   all_goals repeat'(first|(apply zP<;>(intro hg;push_cast at hg))|(refine⟨_,hH [] (by simp),?_⟩;push_cast)|apply And.intro|(intro hg;push_cast at hg))
   all_goals try exact gA
   refine hK _ ?_;clear hK K
   refine zT rfl (fun hc=> ?_) (fun hc=> ?_)<;>(try simp only [push_cast]at hc)
   ·
    refine zL fun K hK=> ?_
    refine zM zO zN [] rfl ?_
    push_cast
    repeat' apply And.intro
    all_goals try exact gB
    refine hK _ ?_;clear hK K
    refine zW ?_
    refine⟨Or.inl rfl,?_⟩
    push_cast [za]
    rw [jk (fun j hj=>hall j (by omega)),show qD f.sets []=true from by with_reducible assumption]
    rfl
   ·
    refine zU ?_
    refine hK5 _ ?_
    refine zL fun K hK=> ?_
    refine zM zO zN [] rfl ?_
    push_cast
    repeat' apply And.intro
    all_goals try exact gB
    refine hK _ ?_;clear hK K
    refine zW ?_
    refine⟨Or.inl rfl,?_⟩
    push_cast [za]
    rw [jk (fun j hj=>hall j (by omega)),show qD f.sets []=false from by with_reducible assumption]
    rfl
def ym (u:Int)(r:List Int)(p:Plc):Bool:=decide (p.at_=u)&&decide (p.record=r)
theorem uz {u:Int}{r:List Int}{p:Plc}(h: ¬p.at_=u):ym u r p=false:=by unfold ym;rw [decide_eq_false h];rfl
theorem UA {u:Int}{r:List Int}{p:Plc}(h: ¬p.record=r):ym u r p=false:=by unfold ym;rw [decide_eq_false h,Bool.and_false]
theorem zFA {u:Int}{r:List Int}{p:Plc}(h:p.at_=u)(h2:p.record=r):ym u r p=true:=by unfold ym;rw [decide_eq_true h,decide_eq_true h2];rfl
def ixQ (p:Plc→Bool)(ps:List Plc):Int:=if ps.findIdx p<ps.length then ps.findIdx p else -1
theorem jU {ps:List Plc}{k:Nat}(h:k<ps.length):ps[k]=gq ps k:=by
 have :=zGw h
 rw [List.getElem?_eq_getElem h]at this
 exact Option.some.inj this
theorem uf {p:Plc→Bool}{ps:List Plc}{k:Nat}(hk:k<ps.length)(h: ∀j,j<k→p (gq ps j)=false)(hp:p (gq ps k)=true):ixQ p ps=k:=by
 have e:ps.findIdx p=k:=by
  rw [List.findIdx_eq hk]
  refine⟨by rw [jU hk];exact hp,fun j hj=> ?_⟩
  rw [jU (by omega)]
  exact h j hj
 unfold ixQ
 rw [e,if_pos hk]
theorem Kf {p:Plc→Bool}{ps:List Plc}(h: ∀j,j<ps.length→p (gq ps j)=false):ixQ p ps= -1:=by
 have e: ¬ps.findIdx p<ps.length:=fun h9=>by
  have h1:=List.findIdx_getElem (w:=h9)
  rw [jU h9,h _ h9]at h1
  cases h1
 unfold ixQ
 rw [if_neg e]
theorem zF1 {ys:List Int}{x:Int}{k:Nat}(hk:k≤ys.length)(hs:ys.Pairwise (· ≤ ·))(h1: ∀j,k≤j→j<ys.length→gi ys j>x)(h2:k=0∨gi ys (k - 1)≤x):(ys.take k++ [x]++ys.drop k).Pairwise (· ≤ ·):=by
 have hg: ∀{j} (hj:j<ys.length),ys[j]=gi ys j:=fun{j} hj=>by
  have h3:=vC (xs:=ys) (k:=j) hj
  rw [List.getElem?_eq_getElem hj]at h3
  exact Option.some.inj h3
 have hle: ∀y∈ys.take k,y≤x:=fun y hy=>by
  obtain⟨j,hj,rfl⟩:=List.mem_iff_getElem.1 hy
  rw [List.length_take]at hj
  rw [List.getElem_take]
  rcases h2 with h2|h2
  ·omega
  ·rw [←hg (j:=k - 1) (by omega)]at h2
   rcases Nat.lt_or_ge j (k - 1)with h|h
   ·have :=List.pairwise_iff_getElem.1 hs j (k - 1) (by omega) (by omega) h
    omega
   ·have :j=k - 1:=by omega
    subst this;exact h2
 have hgt: ∀y∈ys.drop k,x≤y:=fun y hy=>by
  obtain⟨j,hj,rfl⟩:=List.mem_iff_getElem.1 hy
  rw [List.length_drop]at hj
  rw [List.getElem_drop,hg (by omega)]
  have :=h1 (k+j) (by omega) (by omega)
  omega
 rw [List.append_assoc,List.pairwise_append]
 refine⟨hs.sublist (List.take_sublist _ _),?_,fun y hy z hz=> ?_⟩
 ·rw [List.singleton_append,List.pairwise_cons]
  exact⟨hgt,hs.sublist (List.drop_sublist _ _)⟩
 ·rw [List.singleton_append,List.mem_cons]at hz
  rcases hz with rfl|hz
  ·exact hle y hy
  ·have :=hle y hy;have :=hgt z hz;omega
theorem zJO {xs:List Int}{i k:Nat}(hi:i<xs.length)(hk:k≤i)(h1: ∀j,k≤j→j<i→gi (zy (xs.take i)) j>gi xs i)(h2:k=0∨gi (zy (xs.take i)) (k - 1)≤gi xs i):(zy (xs.take i)).take k++ [gi xs i]++(zy (xs.take i)).drop k=zy (xs.take (i+1)):=by
 have hl:(zy (xs.take i)).length=i:=by rw [xT,List.length_take];omega
 refine wc ?_ (zF1 (by omega) (qn _) (fun j h3 h4=>h1 j h3 (by omega)) h2) (qn _)
 refine List.Perm.trans ?_ (xp _).symm
 rw [Vw hi]
 refine List.Perm.trans (l₂:= [gi xs i]++((zy (xs.take i)).take k++(zy (xs.take i)).drop k)) ?_ ?_
 ·rw [←List.append_assoc]
  exact List.Perm.append_right _ List.perm_append_comm
 ·rw [List.take_append_drop]
  exact List.perm_append_comm.trans (List.Perm.append_right _ (xp _))
theorem zHn {xs:List Int}{i k:Nat}(hi:i<xs.length)(hk:k≤i)(h1: ∀j,k≤j→j<i→gi (zy (xs.take i)) j>gi xs i)(h2:k=0∨gi (zy (xs.take i)) (k - 1)≤gi xs i):List.take (k+1) (List.take k (List.take k (zy (xs.take i)))++ [gi xs i])++List.take (i - k) (List.drop k (zy (xs.take i)))=zy (xs.take (i+1)):=by
 have hl:(zy (xs.take i)).length=i:=by rw [xT,List.length_take];omega
 rw [List.take_take,Nat.min_self,List.take_of_length_le (l:=(zy (xs.take i)).take k++ [gi xs i]) (by rw [List.length_append,List.length_take,List.length_singleton];omega),List.take_of_length_le (l:=(zy (xs.take i)).drop k) (by rw [List.length_drop];omega)]
 exact zJO hi hk h1 h2
set_option maxRecDepth 20000 in
set_option maxHeartbeats 4000000 in
theorem jZ (ps:List Plc)(ha:QLn 1048576 ps)(u:Int)(r:List Int)(hr:r.length≤1048576):Fn Tryz.prog tyT 103 [.c (.lst 112 (yw ps)), .c (.int .i64 u), .c (DI r)] [.c (.int .i64 (ixQ (ym u r) ps))]:=by
 have hl:=ha.1
 have hgl:=fun k=>JS ha k
 refine zr (fn:=Tryz.f103) (ts:= [6]) Tryz.func103 (by kernel_rfl) rfl rfl (by rw [Tryz.ntmps103];exact Nat.le_of_ble_eq_true rfl) rfl (by simp only [szA,List.mem_cons,List.not_mem_nil,or_false,forall_eq_or_imp,forall_eq,VT.cells,szL];try decide) ?_
 rw [Tryz.ntmps103]
 push_cast [↓zK,↓zJ]
 refine zL fun K hK=> ?_
 refine zM zO zN [] rfl ?_
 all_goals push_cast [↓zK,↓zJ]
 all_goals repeat'(first|(apply zP<;>(intro hg;(try simp only [push_cast]at hg)))|apply And.intro|(intro hg;(try simp only [push_cast]at hg)))
 all_goals first|exact gA|(exact zb (by omega))|skip
 all_goals(refine hK _ ?_;clear hK K)
 refine zL fun K1 hK1=> ?_
 refine zL fun K hK=> ?_
 refine zM zO zN [] rfl ?_
 all_goals push_cast [↓zK,↓zJ]
 all_goals repeat'(first|(apply zP<;>(intro hg;(try simp only [push_cast]at hg)))|apply And.intro|(intro hg;(try simp only [push_cast]at hg)))
 all_goals first|exact gA|(exact zb (by omega))|skip
 all_goals(refine hK _ ?_;clear hK K)
 refine zV ?_
 refine zh [6,7,8,9,10,11,12,13,14,15,16,17,18,19,20,21,22,23,24,25,26,27,28,29,30] [] (fun(k:Nat)=> [(7, .int .i64 k)]) (fun k=> []) (fun k=> []) (fun k=>k≤ps.length∧∀j,j<k→ym u r (gq ps j)=false) (fun k=>ps.length - k) 0 ?_ ⟨by omega,fun j hj=>by omega⟩ ?_
 ·
  refine zX rfl ?_ ?_ ?_<;>push_cast [zg,zf,↓zK,↓zJ]
 ·rintro k ⟨hk,hall⟩ KL0 hL0
  push_cast [↓zK,↓zJ]
  refine zL fun K2 hK2=> ?_
  refine zL fun K hK=> ?_
  refine zM zO zN [] rfl ?_
  all_goals push_cast [↓zK,↓zJ]
  all_goals repeat'(first|(apply zP<;>(intro hg;(try simp only [push_cast]at hg)))|apply And.intro|(intro hg;(try simp only [push_cast]at hg)))
  all_goals first|exact gA|(exact zb (by omega))|skip
  all_goals(refine hK _ ?_;clear hK K)
  refine zT rfl (fun hc=> ?_) (fun hc=> ?_)<;>(try simp only [push_cast]at hc)
  ·
   refine zU ?_
   refine hK2 _ ?_
   refine zL fun K3 hK3=> ?_
   refine zV ?_
   refine zL fun K hK=> ?_
   refine zj false zO zN ?_ rfl ?_
   ·kernel_rfl
   all_goals refine yF 15 fun K9 hK9=> ?_
   all_goals push_cast [↓zK,↓zJ]
   all_goals repeat'(first|(apply zP<;>(intro hg;(try simp only [push_cast]at hg)))|(refine⟨_,yg (gq ps k).record r (hgl k) hr,?_⟩;push_cast [↓zK,↓zJ])|apply And.intro|(intro hg;(try simp only [push_cast]at hg)))
   all_goals first|exact gA|(exact zb (by omega))|skip
   all_goals(refine hK9 _ ?_;clear hK9 K9)
   all_goals push_cast [↓zK,↓zJ]
   all_goals repeat'(first|(apply zP<;>(intro hg;(try simp only [push_cast]at hg)))|(refine⟨_,yg (gq ps k).record r (hgl k) hr,?_⟩;push_cast [↓zK,↓zJ])|apply And.intro|(intro hg;(try simp only [push_cast]at hg)))
   all_goals first|exact gA|(exact zb (by omega))|skip
   all_goals(refine hK _ ?_;clear hK K)
   all_goals refine zT rfl (fun hc=> ?_) (fun hc=> ?_)
   all_goals(first|(cases hc;done)|skip)
   all_goals(try simp only [push_cast]at hc)
   all_goals first
    |(
      refine zU ?_
      refine hK3 _ ?_
      refine zM zO zN [] rfl ?_
      all_goals push_cast [↓zK,↓zJ]
      all_goals repeat'(first|(apply zP<;>(intro hg;(try simp only [push_cast]at hg)))|apply And.intro|(intro hg;(try simp only [push_cast]at hg)))
      all_goals first|exact gA|(exact zb (by omega))|skip
      refine hL0 _ ⟨k+1,⟨by omega,fun j hj=>(by
        by_cases hjk:j=k
        ·subst hjk;first|exact uz (by omega)|exact UA (by simpa using hc)|exact UA (by with_reducible assumption)
        ·exact hall j (by omega))⟩,by omega,?_⟩
      refine zX rfl ?_ ?_ ?_<;>push_cast [zg,zf,↓zK,↓zJ]
      done)
    |(
      refine zL fun K hK=> ?_
      refine zM zO zN [] rfl ?_
      all_goals push_cast [↓zK,↓zJ]
      all_goals repeat'(first|(apply zP<;>(intro hg;(try simp only [push_cast]at hg)))|apply And.intro|(intro hg;(try simp only [push_cast]at hg)))
      all_goals first|exact gA|(exact zb (by omega))|skip
      all_goals(refine hK _ ?_;clear hK K)
      refine zW ?_
      refine⟨Or.inl rfl,?_⟩
      push_cast [za,↓zK,↓zJ]
      exact(uf (k:=k) (by omega) hall (zFA (by omega) (by with_reducible assumption))).symm
      done)
  ·
   refine zi ?_
   refine hK1 _ ?_
   refine zL fun K hK=> ?_
   refine zM zO zN [] rfl ?_
   all_goals push_cast [↓zK,↓zJ]
   all_goals repeat'(first|(apply zP<;>(intro hg;(try simp only [push_cast]at hg)))|apply And.intro|(intro hg;(try simp only [push_cast]at hg)))
   all_goals first|exact gA|(exact zb (by omega))|skip
   all_goals(refine hK _ ?_;clear hK K)
   refine zW ?_
   refine⟨Or.inl rfl,?_⟩
   push_cast [za,↓zK,↓zJ]
   all_goals first|(rw [Kf fun j hj=>hall j (by omega)];done)|(rw [Kf fun j hj=>hall j (by omega)];rfl)
set_option maxRecDepth 20000 in
set_option maxHeartbeats 4000000 in
theorem zAt (xs:List Int)(hx:xs.length≤1048576):Fn Tryz.prog tyT 104 [.c (DI xs)] [.c (DI (zy xs))]:=by
 refine zr (fn:=Tryz.f104) (ts:= [2]) Tryz.func104 (by kernel_rfl) rfl rfl (by rw [Tryz.ntmps104];exact Nat.le_of_ble_eq_true rfl) rfl (by simp only [szA,List.mem_cons,List.not_mem_nil,or_false,forall_eq_or_imp,forall_eq,VT.cells,szL];try decide) ?_
 rw [Tryz.ntmps104]
 push_cast [↓zK,↓zJ]
 refine zL fun K hK=> ?_
 refine zM zO zN [] rfl ?_
 push_cast [↓zK,↓zJ]
 repeat' apply And.intro
 all_goals try exact gB
 all_goals(refine hK _ ?_;clear hK K)
 refine zL fun K hK=> ?_
 refine zM zO zN [] rfl ?_
 push_cast [↓zK,↓zJ]
 repeat' apply And.intro
 all_goals try exact gB
 all_goals(refine hK _ ?_;clear hK K)
 refine zL fun K1 hK1=> ?_
 refine zL fun K hK=> ?_
 refine zM zO zN [] rfl ?_
 push_cast [↓zK,↓zJ]
 repeat' apply And.intro
 all_goals try exact gB
 all_goals(refine hK _ ?_;clear hK K)
 refine zV ?_
 refine zh [3,4,5,6,8,9,10,11,12,13,14,15,16,17,18,19,20,21,22,23,24,25,26,27,28,29,30,31,32,33,34,35,36,37,38,39,40,41,42,43,44,45,46,47,48] [48] (fun(i:Nat)=> [(4, .int .i64 i),(3, .sl 48 [] 0 i 2)]) (fun i=> []) (fun i=> [(48,⟨.ex,2,dI (zy (xs.take i)),none⟩)]) (fun i=>i≤xs.length) (fun i=>xs.length - i) 0 ?_ (by omega) ?_
 ·
  rw [List.take_zero,Xw,show dI ([]:List Int)= []from rfl]
  refine zX rfl ?_ ?_ ?_<;>push_cast [zg,zf,↓zK,↓zJ]
 ·rintro i hi KL0 hL0
  have hol:(zy (xs.take i)).length=i:=by rw [xT,List.length_take];omega
  push_cast [↓zK,↓zJ]
  refine zL fun K2 hK2=> ?_
  refine zL fun K hK=> ?_
  refine zM zO zN [] rfl ?_
  push_cast [↓zK,↓zJ]
  repeat' apply And.intro
  all_goals try exact gB
  all_goals(refine hK _ ?_;clear hK K)
  refine zT rfl (fun hc=> ?_) (fun hc=> ?_)<;>(try simp only [push_cast]at hc)
  ·
   refine zU ?_
   refine hK2 _ ?_
   refine zL fun K3 hK3=> ?_
   refine zV ?_
   refine zL fun K hK=> ?_
   refine zM zO zN [] rfl ?_
   push_cast [↓zK,↓zJ]
   repeat' apply And.intro
   all_goals try exact gB
   all_goals(refine hK _ ?_;clear hK K)
   refine zL fun K4 hK4=> ?_
   refine zV ?_
   refine zh [5,16,17,18,19,20,21,22,23,24,25,26,27,28,29,30,31] [] (fun(k:Nat)=> [(5, .int .i64 k)]) (fun k=> []) (fun k=> []) (fun k=>k≤i∧∀j,k≤j→j<i→gi (zy (xs.take i)) j>gi xs i) (fun k=>k) i ?_ ⟨by omega,fun j h8 h9=>by omega⟩ ?_
   ·
    refine zX rfl ?_ ?_ ?_<;>push_cast [zg,zf,↓zK,↓zJ]
   ·rintro k ⟨hk,hall⟩ KL1 hL1
    push_cast [↓zK,↓zJ]
    refine zL fun K5 hK5=> ?_
    refine zL fun K hK=> ?_
    refine yo false zO zN xj ?_ rfl ?_
    ·kernel_rfl
    intro E hE
    all_goals push_cast [↓zK,↓zJ]
    all_goals repeat'(first|(apply zP<;>(intro hg;(try simp only [push_cast]at hg)))|apply And.intro|(intro hg;(try simp only [push_cast]at hg)))
    all_goals first|exact gA|(refine hE _ _ ?_ ?_;kernel_rfl)|skip
    all_goals clear hE E
    all_goals(refine hK _ ?_;clear hK K)
    all_goals refine zT rfl (fun hc=> ?_) (fun hc=> ?_)
    all_goals(first|(cases hc;done)|skip)
    all_goals(try simp only [push_cast]at hc)
    all_goals try(
      refine zi ?_
      refine hK4 _ ?_
      refine zL fun K hK=> ?_
      refine zM zO zN [] rfl ?_
      push_cast [↓zK,↓zJ]
      repeat' apply And.intro
      all_goals try exact gB
      all_goals(refine hK _ ?_;clear hK K)
      refine zL fun K hK=> ?_
      refine zM zO zN [] rfl ?_
      push_cast [↓zK,↓zJ]
      repeat' apply And.intro
      all_goals try exact gB
      all_goals(refine hK _ ?_;clear hK K)
      refine zM zO zN [] rfl ?_
      push_cast [↓zK,↓zJ]
      repeat' apply And.intro
      all_goals try exact gB
      refine hK3 _ ?_
      refine zM zO zN [] rfl ?_
      push_cast [↓zK,↓zJ]
      repeat' apply And.intro
      all_goals try exact gB
      refine hL0 _ ⟨i+1,by omega,by omega,?_⟩
      refine zX rfl ?_ ?_ ?_<;>push_cast [zg,zf,↓zK,↓zJ]
      all_goals first|(rw [show k+1+(i - k)=i+1 from by omega];done)|(rw [zHn (by omega) (by omega) (fun j h8 h9=>hall j h8 h9) (by first|exact .inl (by omega)|exact .inr (by omega))];done)|skip
      done)
    refine zU ?_
    refine hK5 _ ?_
    refine zV ?_
    refine zM zO zN [] rfl ?_
    push_cast [↓zK,↓zJ]
    repeat' apply And.intro
    all_goals try exact gB
    refine hL1 _ ⟨k - 1,⟨by omega,fun j h8 h9=>(by
      by_cases hjk:j=k - 1
      ·subst hjk;omega
      ·exact hall j (by omega) h9)⟩,by omega,?_⟩
    refine zX rfl ?_ ?_ ?_<;>push_cast [zg,zf,↓zK,↓zJ]
    all_goals(try(refine congrArg (AV.int .i64) ?_;omega))
  ·
   refine zi ?_
   have hii:i=xs.length:=by omega
   subst hii
   rw [List.take_length]
   refine hK1 _ ?_
   refine zL fun K hK=> ?_
   refine zM zO zN [] rfl ?_
   push_cast [↓zK,↓zJ]
   repeat' apply And.intro
   all_goals try exact gB
   all_goals(refine hK _ ?_;clear hK K)
   refine zW ?_
   refine⟨Or.inl rfl,?_⟩
   push_cast [za,↓zK,↓zJ]
   all_goals first|rfl|exact⟨rfl,rfl⟩|exact⟨rfl,(xT xs).symm⟩|(simp [xT];done)
def Ue (r:List Int)(s:List Plc×List Int)(u:Int):List Plc×List Int:=if ixQ (ym u r) s.1<0 then(s.1++ [⟨u,r⟩],s.2++ [(s.1.length:Int)])else(s.1,s.2++ [ixQ (ym u r) s.1])
def zp (r us:List Int)(ps:List Plc)(k:Nat):List Plc×List Int:=(us.take k).foldl (Ue r) (ps,[])
theorem zBG (r us:List Int)(ps:List Plc):zp r us ps 0=(ps,[]):=rfl
theorem zE8 {r us:List Int}{ps:List Plc}{k:Nat}(h:k<us.length):zp r us ps (k+1)=Ue r (zp r us ps k) (gi us k):=by
 unfold zp
 rw [Vw h,List.foldl_append]
 rfl
theorem vi {r us:List Int}{ps:List Plc}{k:Nat}(h:k<us.length)(h2:ixQ (ym (gi us k) r) (zp r us ps k).1<0):zp r us ps (k+1)=((zp r us ps k).1++ [⟨gi us k,r⟩],(zp r us ps k).2++ [((zp r us ps k).1.length:Int)]):=by
 rw [zE8 h];unfold Ue;rw [if_pos h2]
theorem wL {r us:List Int}{ps:List Plc}{k:Nat}(h:k<us.length)(h2: ¬ixQ (ym (gi us k) r) (zp r us ps k).1<0):zp r us ps (k+1)=((zp r us ps k).1,(zp r us ps k).2++ [ixQ (ym (gi us k) r) (zp r us ps k).1]):=by
 rw [zE8 h];unfold Ue;rw [if_neg h2]
theorem qV {r us:List Int}{ps:List Plc}: ∀{k:Nat},k≤us.length→(zp r us ps k).2.length=k∧ps.length≤(zp r us ps k).1.length∧(zp r us ps k).1.length≤ps.length+k
 |0,_=>by rw [zBG];exact⟨rfl,Nat.le_refl _,Nat.le_refl _⟩
 |k+1,h=>by
  have h1:=qV (r:=r) (us:=us) (ps:=ps) (k:=k) (by omega)
  by_cases h2:ixQ (ym (gi us k) r) (zp r us ps k).1<0
  ·rw [vi (by omega) h2];simp only [List.length_append,List.length_cons,List.length_nil];omega
  ·rw [wL (by omega) h2];simp only [List.length_append,List.length_cons,List.length_nil];omega
theorem zE7 {r us:List Int}{ps:List Plc}{k j:Nat}(hkj:k≤j)(hj:j≤us.length):(zp r us ps k).1.length≤(zp r us ps j).1.length:=by
 induction j with
 |zero=>
      have :k=0:=by omega
      subst this;exact Nat.le_refl _
 |succ j ih=>
  rcases Nat.lt_or_ge j k with h|h
  ·have :k=j+1:=by omega
   subst this;exact Nat.le_refl _
  ·have h1:=ih h (by omega)
   by_cases h2:ixQ (ym (gi us j) r) (zp r us ps j).1<0
   ·rw [vi (by omega) h2];simp only [List.length_append,List.length_cons,List.length_nil];omega
   ·rw [wL (by omega) h2];exact h1
theorem zEh (p:Plc→Bool)(ps:List Plc): -1≤ixQ p ps∧ixQ p ps<ps.length:=by unfold ixQ;split<;>omega
theorem Vn {r us:List Int}{ps:List Plc}{O:Plc→Prop}(h0: ∀p∈ps,O p)(h1: ∀u∈us,O ⟨u,r⟩): ∀{k:Nat},k≤us.length→∀p∈(zp r us ps k).1,O p
 |0,_,p,hp=>h0 p hp
 |k+1,h,p,hp=>by
  by_cases h2:ixQ (ym (gi us k) r) (zp r us ps k).1<0
  ·rw [vi (by omega) h2,List.mem_append]at hp
   rcases hp with hp|hp
   ·exact Vn h0 h1 (by omega) p hp
   ·rw [List.mem_singleton]at hp;subst hp;exact h1 _ (Qg (by omega))
  ·rw [wL (by omega) h2]at hp
   exact Vn h0 h1 (by omega) p hp
section
variable (us rc:Plc→List Int) (p0:Plc)
def stQ :Nat→List Plc
 |0=> [p0]
 |i+1=>if i<(stQ i).length then(zp (rc (gq (stQ i) i)) (us (gq (stQ i) i)) (stQ i) (us (gq (stQ i) i)).length).1 else stQ i
def kj (i k:Nat):List Plc×List Int:=zp (rc (gq (stQ us rc p0 i) i)) (us (gq (stQ us rc p0 i) i)) (stQ us rc p0 i) k
def nxQ (i:Nat):List Int:=zy (kj us rc p0 i (us (gq (stQ us rc p0 i) i)).length).2
def plQ (i:Nat):Plc:=gq (stQ us rc p0 i) i
def okQ :Bool:=decide ((stQ us rc p0 257).length≤256)
end
variable {us rc:Plc→List Int} {p0:Plc}
theorem Vt {i:Nat}(h:i<(stQ us rc p0 i).length):stQ us rc p0 (i+1)=(kj us rc p0 i (us (plQ us rc p0 i)).length).1:=by
 show(if i<(stQ us rc p0 i).length then _ else _)=_
 rw [if_pos h];rfl
theorem Kq {i:Nat}(h: ¬i<(stQ us rc p0 i).length):stQ us rc p0 (i+1)=stQ us rc p0 i:=by
 show(if i<(stQ us rc p0 i).length then _ else _)=_
 rw [if_neg h]
theorem Vs {i j:Nat}(h:i≤j):(stQ us rc p0 i).length≤(stQ us rc p0 j).length:=by
 induction j with
 |zero=>
      have :i=0:=by omega
      subst this;exact Nat.le_refl _
 |succ j ih=>
  rcases Nat.lt_or_ge j i with h1|h1
  ·have :i=j+1:=by omega
   subst this;exact Nat.le_refl _
  ·have h2:=ih h1
   by_cases h3:j<(stQ us rc p0 j).length
   ·rw [Vt h3]
    have :=(qV (r:=rc (gq (stQ us rc p0 j) j)) (us:=us (gq (stQ us rc p0 j) j)) (ps:=stQ us rc p0 j) (Nat.le_refl _)).2.1
    exact Nat.le_trans h2 this
   ·rw [Kq h3];exact h2
theorem Vu {i:Nat}(h: ¬i<(stQ us rc p0 i).length){j:Nat}(hj:i≤j):stQ us rc p0 j=stQ us rc p0 i:=by
 induction j with
 |zero=>
      have :i=0:=by omega
      subst this;rfl
 |succ j ih=>
  rcases Nat.lt_or_ge j i with h1|h1
  ·have :i=j+1:=by omega
   subst this;rfl
  ·have h2:=ih h1
   rw [Kq (by rw [h2];omega),h2]
theorem zH2 {i:Nat}(hi:i≤256)(h: ¬i<(stQ us rc p0 i).length):okQ us rc p0=true∧stQ us rc p0 257=stQ us rc p0 i:=by
 have h1:=Vu h (j:=257) (by omega)
 unfold okQ
 rw [h1]
 exact⟨decide_eq_true (by omega),rfl⟩
theorem zEw {i:Nat}(hi:i≤256)(h:256<(stQ us rc p0 (i+1)).length):okQ us rc p0=false:=by
 have h1:=Vs (us:=us) (rc:=rc) (p0:=p0) (i:=i+1) (j:=257) (by omega)
 unfold okQ
 exact decide_eq_false (by omega)
theorem zH3 {i k:Nat}(hi:i≤256)(hl:i<(stQ us rc p0 i).length)(hk:k<(us (plQ us rc p0 i)).length)(h2:ixQ (ym (gi (us (plQ us rc p0 i)) k) (rc (plQ us rc p0 i))) (kj us rc p0 i k).1<0)(h:256≤(kj us rc p0 i k).1.length):okQ us rc p0=false:=by
 refine zEw hi ?_
 rw [Vt hl]
 have h1:=zE7 (r:=rc (plQ us rc p0 i)) (us:=us (plQ us rc p0 i)) (ps:=stQ us rc p0 i) (k:=k+1) (j:=(us (plQ us rc p0 i)).length) (by omega) (Nat.le_refl _)
 have h3:=vi (r:=rc (plQ us rc p0 i)) (us:=us (plQ us rc p0 i)) (ps:=stQ us rc p0 i) hk h2
 rw [h3]at h1
 simp only [List.length_append,List.length_cons,List.length_nil]at h1
 have h4:(zp (rc (plQ us rc p0 i)) (us (plQ us rc p0 i)) (stQ us rc p0 i) k).1.length=(kj us rc p0 i k).1.length:=rfl
 have h5:(zp (rc (plQ us rc p0 i)) (us (plQ us rc p0 i)) (stQ us rc p0 i) (us (plQ us rc p0 i)).length).1.length=(kj us rc p0 i (us (plQ us rc p0 i)).length).1.length:=rfl
 omega
theorem Jc {O:Plc→Prop}(h0:O p0)(h1: ∀p,O p→∀u∈us p,O ⟨u,rc p⟩): ∀i,∀p∈stQ us rc p0 i,O p
 |0,p,hp=>by rw [show stQ us rc p0 0= [p0]from rfl,List.mem_singleton]at hp;subst hp;exact h0
 |i+1,p,hp=>by
  by_cases h:i<(stQ us rc p0 i).length
  ·rw [Vt h]at hp
   refine Vn (O:=O) (Jc h0 h1 i) (fun u hu=>h1 _ (Jc h0 h1 i _ (YQ h)) u hu) (Nat.le_refl _) p hp
  ·rw [Kq h]at hp
   exact Jc h0 h1 i p hp
end Go.Proofs.YthepmdkpbjfdcaaGreat
