/- slices.Compact; what is met by a lasso; good lassos -/
import Derived.Test.YtipplkjdmdlhpaaVazrc
import Derived.Test.YtipplkjdmdlhpaaB11zrc
import Derived.Test.YtipplkjdmdlhpaaB12zrc
import Derived.Test.YtipplkjdmdlhpaaB10zrc
import Derived.Test.YtipplkjdmdlhpaaB8zrc
namespace Go.Proofs.Ytipplkjdmdlhpaa
open Nat renaming reduceMod → zA, reduceMul → zB, reduceDiv → zC, reduceAdd → zD, reduceSub → zE, reduceEqDiff → zF, reduceBEq → zG, reduceLT → zH, reduceLeDiff → zI
open Go.RowKit
set_option linter.unusedVariables false
set_option linter.unusedSimpArgs false
def wV (xs:List Int):Nat→List Int
 |0=> []
 |j+1=>if 1≤j∧gi xs j=gi xs (j - 1)then wV xs j else wV xs j++ [gi xs j]
theorem jJ {xs:List Int}{j:Nat}(h:1≤j)(h2:gi xs j=gi xs (j - 1)):wV xs (j+1)=wV xs j:=if_pos ⟨h,h2⟩
theorem WO {xs:List Int}{j:Nat}(h2:1≤j→¬gi xs j=gi xs (j - 1)):wV xs (j+1)=wV xs j++ [gi xs j]:=if_neg fun h=>h2 h.1 h.2
def QR (xs:List Int):List Int:=wV xs xs.length
theorem zBT (xs:List Int): ∀j,(wV xs j).length≤j
 |0=>Nat.le_refl _
 |j+1=>by
  have :=zBT xs j
  unfold wV
  split
  ·omega
  ·rw [List.length_append,List.length_singleton];omega
theorem zDQ {xs:List Int}(h:1≤xs.length):wV xs 1=xs.take 1:=by
 rw [WO (by omega),show xs.take 1=xs.take 0++ [gi xs 0]from Qx (by omega)]
 rfl
theorem zDR {xs:List Int}(h:xs.length<2):QR xs=xs:=by
 unfold QR
 rcases Nat.lt_or_ge xs.length 1 with h1|h1
 ·have e:xs= []:=List.eq_nil_of_length_eq_zero (by omega)
  subst e
  rfl
 ·have e:xs.length=1:=by omega
  rw [e,zDQ h1,←e,List.take_length]
theorem UK {xs:List Int}: ∀j,j≤xs.length→∀x,x∈wV xs j↔∃i,i<j∧gi xs i=x
 |0,_,x=>by simp [wV]
 |j+1,hj,x=>by
  have ih:=UK (xs:=xs) j (by omega) x
  by_cases h:1≤j∧gi xs j=gi xs (j - 1)
  ·rw [jJ h.1 h.2,ih]
   constructor
   ·rintro⟨i,hi,e⟩;exact⟨i,by omega,e⟩
   ·rintro⟨i,hi,e⟩
    by_cases e2:i=j
    ·subst e2;exact⟨i - 1,by omega,by rw [←h.2];exact e⟩
    ·exact⟨i,by omega,e⟩
  ·rw [WO (fun h1 h2=>h ⟨h1,h2⟩),List.mem_append,List.mem_singleton,ih]
   constructor
   ·rintro(⟨i,hi,e⟩|rfl)
    ·exact⟨i,by omega,e⟩
    ·exact⟨j,by omega,rfl⟩
   ·rintro⟨i,hi,e⟩
    by_cases e2:i=j
    ·subst e2;exact .inr e.symm
    ·exact .inl ⟨i,by omega,e⟩
theorem zBY {r:List Int}{i:Nat}(h:i<r.length):gi r i=r[i]:=by
 unfold gi
 rw [List.getD_eq_getElem?_getD,List.getElem?_eq_getElem h]
 rfl
theorem zER {ys:List Int}{m:Nat}(h:m<ys.length)(x:Int):(ys.set m x).take (m+1)=ys.take m++ [x]:=by
 rw [List.take_add_one,List.take_set_of_le (Nat.le_refl _),List.getElem?_set_self h]
 rfl
theorem zGf {ys:List Int}{m i:Nat}(h: ¬m=i)(x:Int):gi (ys.set m x) i=gi ys i:=by
 unfold gi
 rw [List.getD_eq_getElem?_getD,List.getElem?_set_ne h,List.getD_eq_getElem?_getD]
def mbL (l:Ls):List Int:=QR (yH l.loop)
theorem zIF (l:Ls):(mbL l).length≤l.loop.length:=by
 have :=zBT (yH l.loop) (yH l.loop).length
 rw [xH]at this
 unfold mbL QR
 rw [xH]
 exact this
theorem zGu (l:Ls)(x:Int):x∈mbL l↔x∈l.loop:=by
 unfold mbL QR
 rw [UK _ (Nat.le_refl _),←(qp l.loop).mem_iff]
 constructor
 ·rintro⟨i,hi,e⟩
  rw [←e,zBY hi]
  exact List.getElem_mem hi
 ·intro h
  obtain⟨i,hi,e⟩:=List.mem_iff_getElem.1 h
  exact⟨i,hi,by rw [zBY hi];exact e⟩
set_option pp.deepTerms true
set_option pp.maxSteps 1000000
set_option maxRecDepth 20000 in
set_option maxHeartbeats 4000000 in
theorem zB4 (xs:List Int)(hl:xs.length≤1048576):FnG Try.prog tyT 80 [.c (DI xs)] [0] [] [.c (DI (QR xs))]:=by
 refine zC3 (fn:=Try.f80) (rs:= [.tmp 2]) (own:= [0]) (outs:= []) zQ zN Try.func80 (by kernel_rfl) rfl rfl (by rw [Try.ntmps80];exact Nat.le_of_ble_eq_true rfl) rfl (by simp only [szA,List.mem_cons,List.not_mem_nil,or_false,forall_eq_or_imp,forall_eq,VT.cells,szL];try decide) ?_
 rw [Try.ntmps80]
 simp only [push_cast,↓zK,↓zJ,↓reduceIte,zA,zB,zC,zD,zE,zF,zG,zH,zI,reduceCtorEq]
 refine zL fun K hK=> ?_
 refine zM zQ zN [] rfl ?_
 all_goals simp only [push_cast,↓zK,↓zJ,↓reduceIte,zA,zB,zC,zD,zE,zF,zG,zH,zI,reduceCtorEq]
 all_goals repeat'(first|(apply zO<;>(intro hg;(try simp only [push_cast]at hg)))|apply And.intro|(intro hg;(try simp only [push_cast]at hg)))
 all_goals first|exact gA|(rw [yq];done)|(show yV (.int .i64) (dI _) _;rw [xS];omega)|skip
 all_goals first|(refine hK _ ?_;clear hK K)|(simp only [push_cast];done)
 refine zL fun K1 hK1=> ?_
 refine jz ?_
 simp only [push_cast,↓zK,↓zJ,↓reduceIte,zA,zB,zC,zD,zE,zF,zG,zH,zI,reduceCtorEq]
 refine zL fun K hK=> ?_
 refine zM zQ zN [] rfl ?_
 all_goals simp only [push_cast,↓zK,↓zJ,↓reduceIte,zA,zB,zC,zD,zE,zF,zG,zH,zI,reduceCtorEq]
 all_goals repeat'(first|(apply zO<;>(intro hg;(try simp only [push_cast]at hg)))|apply And.intro|(intro hg;(try simp only [push_cast]at hg)))
 all_goals first|exact gA|(rw [yq];done)|(show yV (.int .i64) (dI _) _;rw [xS];omega)|skip
 all_goals first|(refine hK _ ?_;clear hK K)|(simp only [push_cast];done)
 refine zV rfl (fun hc=> ?_) (fun hc=> ?_)<;>(try simp only [push_cast]at hc)
 ·
  refine zL fun K hK=> ?_
  refine zM zQ zN [] rfl ?_
  all_goals simp only [push_cast,↓zK,↓zJ,↓reduceIte,zA,zB,zC,zD,zE,zF,zG,zH,zI,reduceCtorEq]
  all_goals repeat'(first|(apply zO<;>(intro hg;(try simp only [push_cast]at hg)))|apply And.intro|(intro hg;(try simp only [push_cast]at hg)))
  all_goals first|exact gA|(rw [yq];done)|(show yV (.int .i64) (dI _) _;rw [xS];omega)|skip
  all_goals first|(refine hK _ ?_;clear hK K)|(simp only [push_cast];done)
  refine zZ ?_
  (try simp only [zR,zT])
  refine⟨Or.inl rfl,?_⟩
  simp only [Xg,Zk,yF,ye,push_cast,↓zK,↓zJ,↓reduceIte,zA,zB,zC,zD,zE,zF,zG,zH,zI,reduceCtorEq]
  rw [zDR (by omega)]
  exact⟨rfl,rfl⟩
 ·
  refine zX ?_
  (try simp only [zR,zT,reduceIte,zF]);refine hK1 _ ?_
  refine zL fun K2 hK2=> ?_
  refine zL fun K hK=> ?_
  refine zM zQ zN [] rfl ?_
  all_goals simp only [push_cast,↓zK,↓zJ,↓reduceIte,zA,zB,zC,zD,zE,zF,zG,zH,zI,reduceCtorEq]
  all_goals repeat'(first|(apply zO<;>(intro hg;(try simp only [push_cast]at hg)))|apply And.intro|(intro hg;(try simp only [push_cast]at hg)))
  all_goals first|exact gA|(rw [yq];done)|(show yV (.int .i64) (dI _) _;rw [xS];omega)|skip
  all_goals first|(refine hK _ ?_;clear hK K)|(simp only [push_cast];done)
  refine zW ?_
  refine zk [2,3,4,5,10,11,12,13,14,15,16,17,18,19,20,21,22,23,24,25,26,27,28,29,30,31,32,33,34,35,36,37,38,39,40,41,42,43,44,45,46,47,48,49,50,51,52,53,54,55,56,57,58,59] [] (fun(k:Nat)=> [(3, .int .i64 k)]) (fun k=> []) (fun k=> []) (fun k=>1≤k∧k≤xs.length∧wV xs k=xs.take k) (fun k=>xs.length - k) 1 ?_ ⟨Nat.le_refl _,by omega,zDQ (by omega)⟩ ?_
  ·
   refine zb rfl ?_ ?_ ?_<;>simp only [zi,zh,push_cast,↓zK,↓zJ,↓reduceIte,zA,zB,zC,zD,zE,zF,zG,zH,zI,reduceCtorEq]
  ·rintro k ⟨hk1,hk,hck⟩ KL0 hL0
   simp only [push_cast,↓zK,↓zJ,↓reduceIte,zA,zB,zC,zD,zE,zF,zG,zH,zI,reduceCtorEq]
   refine zL fun K3 hK3=> ?_
   refine zL fun K hK=> ?_
   refine zM zQ zN [] rfl ?_
   all_goals simp only [push_cast,↓zK,↓zJ,↓reduceIte,zA,zB,zC,zD,zE,zF,zG,zH,zI,reduceCtorEq]
   all_goals repeat'(first|(apply zO<;>(intro hg;(try simp only [push_cast]at hg)))|apply And.intro|(intro hg;(try simp only [push_cast]at hg)))
   all_goals first|exact gA|(rw [yq];done)|(show yV (.int .i64) (dI _) _;rw [xS];omega)|skip
   all_goals first|(refine hK _ ?_;clear hK K)|(simp only [push_cast];done)
   refine zV rfl (fun hc=> ?_) (fun hc=> ?_)<;>(try simp only [push_cast]at hc)
   ·
    refine zX ?_
    (try simp only [zR,zT,reduceIte,zF]);refine hK3 _ ?_
    refine zL fun K4 hK4=> ?_
    refine zW ?_
    refine zL fun K hK=> ?_
    refine yJ false zQ zN xC ?_ rfl ?_
    ·kernel_rfl
    intro E hE
    all_goals simp only [push_cast,↓zK,↓zJ,↓reduceIte,zA,zB,zC,zD,zE,zF,zG,zH,zI,reduceCtorEq]
    all_goals repeat'(first|(apply zO<;>(intro hg;(try simp only [push_cast]at hg)))|apply And.intro|(intro hg;(try simp only [push_cast]at hg)))
    all_goals first|exact gA|(refine hE _ _ ?_ ?_;kernel_rfl)|(rw [yq];done)|(show yV (.int .i64) (dI _) _;rw [xS];omega)|skip
    all_goals clear hE E
    all_goals first|(refine hK _ ?_;clear hK K)|(simp only [push_cast];done)
    refine zV rfl (fun hc=> ?_) (fun hc=> ?_)<;>(try simp only [push_cast]at hc)
    ·
     refine zL fun K hK=> ?_
     refine zM zQ zN [64] rfl ?_
     simp only [push_cast,↓zK,↓zJ,↓reduceIte,zA,zB,zC,zD,zE,zF,zG,zH,zI,reduceCtorEq]
     repeat' apply And.intro
     all_goals try exact gB
     all_goals first|(refine hK _ ?_;clear hK K)|(simp only [push_cast];done)
     refine zL fun K5 hK5=> ?_
     refine zL fun K hK=> ?_
     refine zM zQ zN [] rfl ?_
     all_goals simp only [push_cast,↓zK,↓zJ,↓reduceIte,zA,zB,zC,zD,zE,zF,zG,zH,zI,reduceCtorEq]
     all_goals repeat'(first|(apply zO<;>(intro hg;(try simp only [push_cast]at hg)))|apply And.intro|(intro hg;(try simp only [push_cast]at hg)))
     all_goals first|exact gA|(rw [yq];done)|(show yV (.int .i64) (dI _) _;rw [xS];omega)|skip
     all_goals first|(refine hK _ ?_;clear hK K)|(simp only [push_cast];done)
     refine zW ?_
     refine zk [3,5,29,30,31,32,33,34,35,36,37,38,39,40,41,42,43,44,45,46,47,48,49,50,51,52,53] [0] (fun(p:List Int×Nat×Nat)=> [(3, .int .i64 p.2.1),(5, .int .i64 p.2.2)]) (fun p=> []) (fun p=> [(0,⟨.ex,2,dI p.1,none⟩)]) (fun p=>p.1.length=xs.length∧k≤p.2.1∧p.2.1<k+p.2.2∧k+p.2.2≤xs.length∧1≤p.2.2∧p.1.take p.2.1=wV xs (k+p.2.2)∧∀i,k+p.2.2≤i+1→gi p.1 i=gi xs i) (fun p=>xs.length - k - p.2.2) (xs,k,1) ?_ ⟨rfl,Nat.le_refl _,Nat.lt_succ_self _,by dsimp only;omega,Nat.le_refl _,by dsimp only;rw [jJ hk1 (by assumption)];exact hck.symm,fun _ _=>rfl⟩ ?_
     ·
      refine zb rfl ?_ ?_ ?_<;>simp only [zi,zh,push_cast,↓zK,↓zJ,↓reduceIte,zA,zB,zC,zD,zE,zF,zG,zH,zI,reduceCtorEq]
     ·rintro⟨ys,m,j⟩ ⟨g1,g2,g3,g4,g5,g6,g7⟩ KL1 hL1
      dsimp only at g1 g2 g3 g4 g5 g6 g7
      simp only [push_cast,↓zK,↓zJ,↓reduceIte,zA,zB,zC,zD,zE,zF,zG,zH,zI,reduceCtorEq]
      refine zL fun K6 hK6=> ?_
      refine zL fun K hK=> ?_
      refine zM zQ zN [] rfl ?_
      all_goals simp only [push_cast,↓zK,↓zJ,↓reduceIte,zA,zB,zC,zD,zE,zF,zG,zH,zI,reduceCtorEq]
      all_goals repeat'(first|(apply zO<;>(intro hg;(try simp only [push_cast]at hg)))|apply And.intro|(intro hg;(try simp only [push_cast]at hg)))
      all_goals first|exact gA|(rw [yq];done)|(show yV (.int .i64) (dI _) _;rw [xS];omega)|skip
      all_goals first|(refine hK _ ?_;clear hK K)|(simp only [push_cast];done)
      refine zV rfl (fun hc=> ?_) (fun hc=> ?_)<;>(try simp only [push_cast]at hc)
      ·
       refine zX ?_
       (try simp only [zR,zT,reduceIte,zF]);refine hK6 _ ?_
       refine zL fun K7 hK7=> ?_
       refine zW ?_
       refine zL fun K hK=> ?_
       refine yJ false zQ zN xC ?_ rfl ?_
       ·kernel_rfl
       intro E hE
       all_goals simp only [push_cast,↓zK,↓zJ,↓reduceIte,zA,zB,zC,zD,zE,zF,zG,zH,zI,reduceCtorEq]
       all_goals repeat'(first|(apply zO<;>(intro hg;(try simp only [push_cast]at hg)))|apply And.intro|(intro hg;(try simp only [push_cast]at hg)))
       all_goals first|exact gA|(refine hE _ _ ?_ ?_;kernel_rfl)|(rw [yq];done)|(show yV (.int .i64) (dI _) _;rw [xS];omega)|skip
       all_goals clear hE E
       all_goals first|(refine hK _ ?_;clear hK K)|(simp only [push_cast];done)
       refine zV rfl (fun hc=> ?_) (fun hc=> ?_)<;>(try simp only [push_cast]at hc)
       ·
        refine zL fun K hK=> ?_
        refine zM zQ zN [] rfl ?_
        all_goals simp only [push_cast,↓zK,↓zJ,↓reduceIte,zA,zB,zC,zD,zE,zF,zG,zH,zI,reduceCtorEq]
        all_goals repeat'(first|(apply zO<;>(intro hg;(try simp only [push_cast]at hg)))|apply And.intro|(intro hg;(try simp only [push_cast]at hg)))
        all_goals first|exact gA|(rw [yq];done)|(show yV (.int .i64) (dI _) _;rw [xS];omega)|skip
        all_goals first|(refine hK _ ?_;clear hK K)|(simp only [push_cast];done)
        refine zM zQ zN [] rfl ?_
        all_goals simp only [push_cast,↓zK,↓zJ,↓reduceIte,zA,zB,zC,zD,zE,zF,zG,zH,zI,reduceCtorEq]
        all_goals repeat'(first|(apply zO<;>(intro hg;(try simp only [push_cast]at hg)))|apply And.intro|(intro hg;(try simp only [push_cast]at hg)))
        all_goals first|exact gA|(rw [yq];done)|(show yV (.int .i64) (dI _) _;rw [xS];omega)|skip
        (try simp only [zR,zT,reduceIte,zF]);refine hK7 _ ?_
        refine zM zQ zN [] rfl ?_
        all_goals simp only [push_cast,↓zK,↓zJ,↓reduceIte,zA,zB,zC,zD,zE,zF,zG,zH,zI,reduceCtorEq]
        all_goals repeat'(first|(apply zO<;>(intro hg;(try simp only [push_cast]at hg)))|apply And.intro|(intro hg;(try simp only [push_cast]at hg)))
        all_goals first|exact gA|(rw [yq];done)|(show yV (.int .i64) (dI _) _;rw [xS];omega)|skip
        have hne: ¬gi ys (k+j)=gi ys (k+j - 1):=by rw [show k+j - 1=k+(j - 1) by omega];exact hc
        refine hL1 _ ⟨(ys.set m (gi ys (k+j)),m+1,j+1),⟨by dsimp only;rw [List.length_set];exact g1,by dsimp only;omega,by dsimp only;omega,by dsimp only;omega,by dsimp only;omega,(by dsimp only;rw [zER (by omega),g6,g7 (k+j) (by omega),show k+(j+1)=k+j+1 from rfl,WO (fun _=>by rw [←g7 (k+j) (by omega),←g7 (k+j - 1) (by omega)];exact hne)]),fun i hi=>(by dsimp only at hi⊢;rw [zGf (by omega)];exact g7 i (by omega))⟩,by dsimp only;omega,?_⟩
        refine zb rfl ?_ ?_ ?_<;>simp only [zi,zh,push_cast,↓zK,↓zJ,↓reduceIte,zA,zB,zC,zD,zE,zF,zG,zH,zI,reduceCtorEq]
       ·
        refine zX ?_
        (try simp only [zR,zT,reduceIte,zF]);refine hK7 _ ?_
        refine zM zQ zN [] rfl ?_
        all_goals simp only [push_cast,↓zK,↓zJ,↓reduceIte,zA,zB,zC,zD,zE,zF,zG,zH,zI,reduceCtorEq]
        all_goals repeat'(first|(apply zO<;>(intro hg;(try simp only [push_cast]at hg)))|apply And.intro|(intro hg;(try simp only [push_cast]at hg)))
        all_goals first|exact gA|(rw [yq];done)|(show yV (.int .i64) (dI _) _;rw [xS];omega)|skip
        have heq:gi ys (k+j)=gi ys (k+j - 1):=by rw [show k+j - 1=k+(j - 1) by omega];exact hc
        refine hL1 _ ⟨(ys,m,j+1),⟨g1,g2,by dsimp only;omega,by dsimp only;omega,by dsimp only;omega,(by dsimp only;rw [g6,show k+(j+1)=k+j+1 from rfl,jJ (by omega) (by rw [←g7 (k+j) (by omega),←g7 (k+j - 1) (by omega)];exact heq)]),fun i hi=>g7 i (by dsimp only at hi;omega)⟩,by dsimp only;omega,?_⟩
        refine zb rfl ?_ ?_ ?_<;>simp only [zi,zh,push_cast,↓zK,↓zJ,↓reduceIte,zA,zB,zC,zD,zE,zF,zG,zH,zI,reduceCtorEq]
      ·
       refine zn ?_
       (try simp only [zR,zT,reduceIte,zF]);refine hK5 _ ?_
       refine zL fun K hK=> ?_
       refine UA (fun o K st=>o.dst=none∧aClr tyT o K st) (zCB zQ) none zQ zN [] rfl ?_
       all_goals simp only [push_cast,↓zK,↓zJ,↓reduceIte,zA,zB,zC,zD,zE,zF,zG,zH,zI,reduceCtorEq]
       all_goals repeat'(first|(apply zO<;>(intro hg;(try simp only [push_cast]at hg)))|apply And.intro|(intro hg;(try simp only [push_cast]at hg)))
       all_goals first|exact gA|(rw [yq];done)|(show yV (.int .i64) (dI _) _;rw [xS];omega)|skip
       all_goals first|(refine hK _ ?_;clear hK K)|(simp only [push_cast];done)
       refine zL fun K hK=> ?_
       refine zM zQ zN [] rfl ?_
       all_goals simp only [push_cast,↓zK,↓zJ,↓reduceIte,zA,zB,zC,zD,zE,zF,zG,zH,zI,reduceCtorEq]
       all_goals repeat'(first|(apply zO<;>(intro hg;(try simp only [push_cast]at hg)))|apply And.intro|(intro hg;(try simp only [push_cast]at hg)))
       all_goals first|exact gA|(rw [yq];done)|(show yV (.int .i64) (dI _) _;rw [xS];omega)|skip
       all_goals first|(refine hK _ ?_;clear hK K)|(simp only [push_cast];done)
       refine zEw 2 4096 (by show 2<61;decide) rfl rfl rfl (by simp [yq]) ?_
       simp only [push_cast,↓zK,↓zJ,↓reduceIte,zA,zB,zC,zD,zE,zF,zG,zH,zI,reduceCtorEq]
       refine zZ ?_
       (try simp only [zR,zT])
       refine⟨Or.inl rfl,?_⟩
       simp only [Xg,Zk,yF,ye,push_cast,↓zK,↓zJ,↓reduceIte,zA,zB,zC,zD,zE,zF,zG,zH,zI,reduceCtorEq]
       have hj:k+j=xs.length:=by omega
       have hml:(ys.take m).length=m:=by rw [List.length_take];omega
       have e:QR xs=ys.take m:=by
        show wV xs xs.length=_
        rw [←hj];exact g6.symm
       refine⟨?_,by rw [e,hml]⟩
       rw [e,List.append_assoc,List.take_append_of_le_length (by omega),List.take_of_length_le (by omega)]
    ·
     refine zX ?_
     (try simp only [zR,zT,reduceIte,zF]);refine hK4 _ ?_
     refine zM zQ zN [] rfl ?_
     all_goals simp only [push_cast,↓zK,↓zJ,↓reduceIte,zA,zB,zC,zD,zE,zF,zG,zH,zI,reduceCtorEq]
     all_goals repeat'(first|(apply zO<;>(intro hg;(try simp only [push_cast]at hg)))|apply And.intro|(intro hg;(try simp only [push_cast]at hg)))
     all_goals first|exact gA|(rw [yq];done)|(show yV (.int .i64) (dI _) _;rw [xS];omega)|skip
     refine hL0 _ ⟨k+1,⟨by omega,by omega,by rw [WO (fun _=>by assumption),hck,←Qx (by omega)]⟩,by omega,?_⟩
     refine zb rfl ?_ ?_ ?_<;>simp only [zi,zh,push_cast,↓zK,↓zJ,↓reduceIte,zA,zB,zC,zD,zE,zF,zG,zH,zI,reduceCtorEq]
   ·
    refine zn ?_
    have hkk:k=xs.length:=by omega
    subst hkk
    (try simp only [zR,zT,reduceIte,zF]);refine hK2 _ ?_
    refine zL fun K hK=> ?_
    refine zM zQ zN [] rfl ?_
    all_goals simp only [push_cast,↓zK,↓zJ,↓reduceIte,zA,zB,zC,zD,zE,zF,zG,zH,zI,reduceCtorEq]
    all_goals repeat'(first|(apply zO<;>(intro hg;(try simp only [push_cast]at hg)))|apply And.intro|(intro hg;(try simp only [push_cast]at hg)))
    all_goals first|exact gA|(rw [yq];done)|(show yV (.int .i64) (dI _) _;rw [xS];omega)|skip
    all_goals first|(refine hK _ ?_;clear hK K)|(simp only [push_cast];done)
    refine zZ ?_
    (try simp only [zR,zT])
    refine⟨Or.inl rfl,?_⟩
    simp only [Xg,Zk,yF,ye,push_cast,↓zK,↓zJ,↓reduceIte,zA,zB,zC,zD,zE,zF,zG,zH,zI,reduceCtorEq]
    rw [show QR xs=xs from hck.trans List.take_length]
    exact⟨rfl,rfl⟩
set_option maxRecDepth 20000 in
set_option maxHeartbeats 4000000 in
theorem zFF (l:Ls)(hl:l.Ln 1048576):Fn Try.prog tyT 51 [.agg (dLs l)] [.c (DI (mbL l))]:=by
 have h1:=hl.loop
 unfold LnI at h1
 have hS:=zBK l.loop h1
 have hsl:=xH l.loop
 have hC:FnG Try.prog tyT 80 [.c (DI (List.take l.loop.length (yH l.loop)))] [0] [] [.c (DI (QR (yH l.loop)))]:=by rw [List.take_of_length_le (l:=yH l.loop) (by omega)];exact zB4 (yH l.loop) (by omega)
 unfold dLs
 refine yG (fn:=Try.f51) (ts:= [2]) Try.func51 (by kernel_rfl) rfl rfl (by rw [Try.ntmps51];exact Nat.le_of_ble_eq_true rfl) rfl (by simp only [szA,List.mem_cons,List.not_mem_nil,or_false,forall_eq_or_imp,forall_eq,VT.cells,szL];try decide) ?_
 rw [Try.ntmps51]
 simp only [push_cast,↓zK,↓zJ,↓reduceIte,zA,zB,zC,zD,zE,zF,zG,zH,zI,reduceCtorEq]
 refine zL fun K hK=> ?_
 refine zM zQ zN [] rfl ?_
 simp only [push_cast,↓zK,↓zJ,↓reduceIte,zA,zB,zC,zD,zE,zF,zG,zH,zI,reduceCtorEq]
 repeat' apply And.intro
 all_goals try exact gB
 all_goals first|(refine hK _ ?_;clear hK K)|(simp only [push_cast];done)
 refine zL fun K hK=> ?_
 refine zM zQ zN [] rfl ?_
 simp only [push_cast,↓zK,↓zJ,↓reduceIte,zA,zB,zC,zD,zE,zF,zG,zH,zI,reduceCtorEq]
 repeat' apply And.intro
 all_goals try exact gB
 all_goals first|(refine hK _ ?_;clear hK K)|(simp only [push_cast];done)
 refine zL fun K hK=> ?_
 refine Ws 9 [0] [(0,2,dI (yH l.loop))] zQ zN [] rfl ?_
 simp only [push_cast,↓zK,↓zJ,↓reduceIte,zA,zB,zC,zD,zE,zF,zG,zH,zI,reduceCtorEq]
 all_goals repeat'(first|(apply zO<;>(intro hg;(try simp only [push_cast]at hg)))|(refine⟨_,hS,?_⟩;simp only [push_cast,↓zK,↓zJ,↓reduceIte,zA,zB,zC,zD,zE,zF,zG,zH,zI,reduceCtorEq])|apply And.intro|(intro hg;(try simp only [push_cast]at hg)))
 all_goals try exact gA
 all_goals first|(refine hK _ ?_;clear hK K)|(simp only [push_cast];done)
 refine zL fun K hK=> ?_
 refine Ws 11 [0] [] zQ zN [] rfl ?_
 simp only [push_cast,↓zK,↓zJ,↓reduceIte,zA,zB,zC,zD,zE,zF,zG,zH,zI,reduceCtorEq]
 all_goals repeat'(first|(apply zO<;>(intro hg;(try simp only [push_cast]at hg)))|(refine⟨_,hC,?_⟩;simp only [push_cast,↓zK,↓zJ,↓reduceIte,zA,zB,zC,zD,zE,zF,zG,zH,zI,reduceCtorEq])|apply And.intro|(intro hg;(try simp only [push_cast]at hg)))
 all_goals try exact gA
 all_goals first|(refine hK _ ?_;clear hK K)|(simp only [push_cast];done)
 refine zZ ?_
 (try simp only [zR,zT])
 refine⟨Or.inl rfl,?_⟩
 simp only [zf,push_cast,↓zK,↓zJ,↓reduceIte,zA,zB,zC,zD,zE,zF,zG,zH,zI,reduceCtorEq]
 exact⟨rfl,rfl⟩
set_option maxRecDepth 20000 in
set_option maxHeartbeats 4000000 in
theorem uT (a:Ar)(ha:a.Ln 1048576)(hok:zv a=true)(ps:List Pr)(hp:PLn 1048576 ps)(har:arB ps (a.owner.length:Int)=true)(l:Ls)(hl:l.Ln 1048576)(hla:xj a l=true):Fn Try.prog tyT 19 [.agg (dAr a), .c (.lst 64 (dII (ilv ps))), .agg (dLs l)] [.c (.bool (decide ((bkN ps (mbL l) ps.length).length=0)))]:=by
 have hA:=XF a ha
 rw [hok]at hA
 have hI:=KU a l ha hl hok
 rw [hla]at hI
 have hZ:=jh a
 have hR:=Wo ps hp (a.owner.length:Int)
 rw [har]at hR
 have hal:=(yS hok).2.1
 have hM:=zFF l hl
 have hml:=zIF l
 have hll:=(vU hla).2.2
 have hpf:=zED (ps:=ps) (n:=(a.owner.length:Int)) (by rw [Qr (by omega)];exact har)
 have hB:=zAl ps hp (a.owner.length:Int) hpf.2.2 (mbL l) (by omega)
 have hbl:=zDN ps (mbL l) ps.length
 have hli:=xY ps
 have hpl:=hp.1
 unfold dAr at hA hI hZ
 unfold dLs at hI hM
 unfold dAr dLs
 refine yG (fn:=Try.f19) (ts:= [6]) Try.func19 (by kernel_rfl) rfl rfl (by rw [Try.ntmps19];exact Nat.le_of_ble_eq_true rfl) rfl (by simp only [szA,List.mem_cons,List.not_mem_nil,or_false,forall_eq_or_imp,forall_eq,VT.cells,szL];try decide) ?_
 rw [Try.ntmps19]
 simp only [push_cast,↓zK,↓zJ,↓reduceIte,zA,zB,zC,zD,zE,zF,zG,zH,zI,reduceCtorEq]
 refine zL fun K hK=> ?_
 refine zM zQ zN [] rfl ?_
 simp only [push_cast,↓zK,↓zJ,↓reduceIte,zA,zB,zC,zD,zE,zF,zG,zH,zI,reduceCtorEq]
 repeat' apply And.intro
 all_goals try exact gB
 all_goals first|(refine hK _ ?_;clear hK K)|(simp only [push_cast];done)
 refine zL fun K1 hK1=> ?_
 refine zL fun K hK=> ?_
 refine ze false zQ zN ?_ rfl ?_
 ·kernel_rfl
 all_goals refine zj 2 fun K9 hK9=> ?_
 all_goals simp only [push_cast,↓zK,↓zJ,↓reduceIte,zA,zB,zC,zD,zE,zF,zG,zH,zI,reduceCtorEq]
 all_goals repeat'(first|(apply zO<;>(intro hg;(try simp only [push_cast]at hg)))|(refine⟨_,hA,?_⟩;simp only [push_cast,↓zK,↓zJ,↓reduceIte,zA,zB,zC,zD,zE,zF,zG,zH,zI,reduceCtorEq])|apply And.intro|(intro hg;(try simp only [push_cast]at hg)))
 all_goals try exact gA
 all_goals first|(refine hK9 _ ?_;clear hK9 K9)|(simp only [push_cast];done)
 all_goals refine zj 5 fun K9 hK9=> ?_
 all_goals simp only [push_cast,↓zK,↓zJ,↓reduceIte,zA,zB,zC,zD,zE,zF,zG,zH,zI,reduceCtorEq]
 all_goals repeat'(first|(apply zO<;>(intro hg;(try simp only [push_cast]at hg)))|(refine⟨_,hI,?_⟩;simp only [push_cast,↓zK,↓zJ,↓reduceIte,zA,zB,zC,zD,zE,zF,zG,zH,zI,reduceCtorEq])|apply And.intro|(intro hg;(try simp only [push_cast]at hg)))
 all_goals try exact gA
 all_goals first|(refine hK9 _ ?_;clear hK9 K9)|(simp only [push_cast];done)
 all_goals refine zj 6 fun K9 hK9=> ?_
 all_goals simp only [push_cast,↓zK,↓zJ,↓reduceIte,zA,zB,zC,zD,zE,zF,zG,zH,zI,reduceCtorEq]
 all_goals repeat'(first|(apply zO<;>(intro hg;(try simp only [push_cast]at hg)))|(refine⟨_,hZ,?_⟩;simp only [push_cast,↓zK,↓zJ,↓reduceIte,zA,zB,zC,zD,zE,zF,zG,zH,zI,reduceCtorEq])|apply And.intro|(intro hg;(try simp only [push_cast]at hg)))
 all_goals try exact gA
 all_goals first|(refine hK9 _ ?_;clear hK9 K9)|(simp only [push_cast];done)
 all_goals refine zj 1 fun K9 hK9=> ?_
 all_goals simp only [push_cast,↓zK,↓zJ,↓reduceIte,zA,zB,zC,zD,zE,zF,zG,zH,zI,reduceCtorEq]
 all_goals repeat'(first|(apply zO<;>(intro hg;(try simp only [push_cast]at hg)))|(refine⟨_,hR,?_⟩;simp only [push_cast,↓zK,↓zJ,↓reduceIte,zA,zB,zC,zD,zE,zF,zG,zH,zI,reduceCtorEq])|apply And.intro|(intro hg;(try simp only [push_cast]at hg)))
 all_goals try exact gA
 all_goals first|(refine hK9 _ ?_;clear hK9 K9)|(simp only [push_cast];done)
 all_goals simp only [push_cast,↓zK,↓zJ,↓reduceIte,zA,zB,zC,zD,zE,zF,zG,zH,zI,reduceCtorEq]
 all_goals repeat'(first|(apply zO<;>(intro hg;(try simp only [push_cast]at hg)))|(refine⟨_,hA,?_⟩;simp only [push_cast,↓zK,↓zJ,↓reduceIte,zA,zB,zC,zD,zE,zF,zG,zH,zI,reduceCtorEq])|(refine⟨_,hI,?_⟩;simp only [push_cast,↓zK,↓zJ,↓reduceIte,zA,zB,zC,zD,zE,zF,zG,zH,zI,reduceCtorEq])|(refine⟨_,hZ,?_⟩;simp only [push_cast,↓zK,↓zJ,↓reduceIte,zA,zB,zC,zD,zE,zF,zG,zH,zI,reduceCtorEq])|(refine⟨_,hR,?_⟩;simp only [push_cast,↓zK,↓zJ,↓reduceIte,zA,zB,zC,zD,zE,zF,zG,zH,zI,reduceCtorEq])|apply And.intro|(intro hg;(try simp only [push_cast]at hg)))
 all_goals try exact gA
 all_goals first|(refine hK _ ?_;clear hK K)|(simp only [push_cast];done)
 all_goals(
   refine zV rfl (fun hc=> ?_) (fun hc=> ?_)
   skip
   ·exfalso;first|(cases hc;done)|(simp only [push_cast]at hc;done)|(simp only [push_cast]at hc;omega)|omega
   refine zX ?_
   (try simp only [zR,zT,reduceIte,zF]);refine hK1 _ ?_
   refine zL fun K hK=> ?_
   refine zM zQ zN [] rfl ?_
   all_goals refine yC 3 fun K9 hK9=> ?_
   all_goals simp only [push_cast,↓zK,↓zJ,↓reduceIte,zA,zB,zC,zD,zE,zF,zG,zH,zI,reduceCtorEq]
   all_goals repeat'(first|(apply zO<;>(intro hg;(try simp only [push_cast]at hg)))|(refine⟨_,hM,?_⟩;simp only [push_cast,↓zK,↓zJ,↓reduceIte,zA,zB,zC,zD,zE,zF,zG,zH,zI,reduceCtorEq])|apply And.intro|(intro hg;(try simp only [push_cast]at hg)))
   all_goals try exact gA
   all_goals first|(refine hK9 _ ?_;clear hK9 K9)|(simp only [push_cast];done)
   all_goals refine yC 1 fun K9 hK9=> ?_
   all_goals simp only [push_cast,↓zK,↓zJ,↓reduceIte,zA,zB,zC,zD,zE,zF,zG,zH,zI,reduceCtorEq]
   all_goals repeat'(first|(apply zO<;>(intro hg;(try simp only [push_cast]at hg)))|(refine⟨_,hB,?_⟩;simp only [push_cast,↓zK,↓zJ,↓reduceIte,zA,zB,zC,zD,zE,zF,zG,zH,zI,reduceCtorEq])|apply And.intro|(intro hg;(try simp only [push_cast]at hg)))
   all_goals try exact gA
   all_goals first|(refine hK9 _ ?_;clear hK9 K9)|(simp only [push_cast];done)
   all_goals simp only [push_cast,↓zK,↓zJ,↓reduceIte,zA,zB,zC,zD,zE,zF,zG,zH,zI,reduceCtorEq]
   all_goals repeat'(first|(apply zO<;>(intro hg;(try simp only [push_cast]at hg)))|(refine⟨_,hM,?_⟩;simp only [push_cast,↓zK,↓zJ,↓reduceIte,zA,zB,zC,zD,zE,zF,zG,zH,zI,reduceCtorEq])|(refine⟨_,hB,?_⟩;simp only [push_cast,↓zK,↓zJ,↓reduceIte,zA,zB,zC,zD,zE,zF,zG,zH,zI,reduceCtorEq])|apply And.intro|(intro hg;(try simp only [push_cast]at hg)))
   all_goals try exact gA
   all_goals first|(refine hK _ ?_;clear hK K)|(simp only [push_cast];done)
   refine zZ ?_
   (try simp only [zR,zT])
   refine⟨Or.inl rfl,?_⟩
   simp only [zf,push_cast,↓zK,↓zJ,↓reduceIte,zA,zB,zC,zD,zE,zF,zG,zH,zI,reduceCtorEq]
   all_goals(rw [Bool.eq_iff_iff,beq_iff_eq,decide_eq_true_eq];omega))
def gvB (ps:List Pr)(r:List Int)(v:Int)(i:Nat):Bool:=zt (gp ps (gi r i).toNat).give v
def nrF (ps:List Pr)(r:List Int)(v:Int):Nat→List Int
 |0=> []
 |i+1=>if gvB ps r v i=true then nrF ps r v i++ [gi r i]else nrF ps r v i
def nrR (ps:List Pr)(r:List Int)(v:Int):Nat→List Int
 |0=> []
 |i+1=>if gvB ps r v i=true then nrR ps r v i else nrR ps r v i++ [gi r i]
theorem Wc {ps:List Pr}{r:List Int}{v:Int}{i:Nat}(h:gvB ps r v i=true):nrF ps r v (i+1)=nrF ps r v i++ [gi r i]:=if_pos h
theorem Kd {ps:List Pr}{r:List Int}{v:Int}{i:Nat}(h:gvB ps r v i=false):nrF ps r v (i+1)=nrF ps r v i:=if_neg (by rw [h];decide)
theorem Wd {ps:List Pr}{r:List Int}{v:Int}{i:Nat}(h:gvB ps r v i=true):nrR ps r v (i+1)=nrR ps r v i:=if_pos h
theorem Ke {ps:List Pr}{r:List Int}{v:Int}{i:Nat}(h:gvB ps r v i=false):nrR ps r v (i+1)=nrR ps r v i++ [gi r i]:=if_neg (by rw [h];decide)
theorem Uq (ps:List Pr)(r:List Int)(v:Int): ∀i,(nrF ps r v i).length+(nrR ps r v i).length=i
 |0=>rfl
 |i+1=>by
  have h:=Uq ps r v i
  cases hb:gvB ps r v i with
  |true=>rw [Wc hb,Wd hb,List.length_append,List.length_singleton];omega
  |false=>rw [Kd hb,Ke hb,List.length_append,List.length_singleton];omega
set_option maxRecDepth 20000 in
set_option maxHeartbeats 4000000 in
theorem zAs (ps:List Pr)(ha:PLn 1048576 ps)(r:List Int)(hr:r.length≤1048576)(hrr: ∀i,i<r.length→0≤gi r i∧gi r i<(ps.length:Int))(v:Int):Fn Try.prog tyT 70 [.c (.lst 64 (dII (ilv ps))), .c (DI r), .c (.int .i64 v)] [.c (DI (nrF ps r v r.length++nrR ps r v r.length))]:=by
 have hl:=ha.1
 have hg:=fun k=>QV ha k
 have hgg: ∀k,(gp ps k).give.length≤1048576:=fun k=>(hg k).give
 have hli:=xY ps
 have hnl:=Uq ps r v
 refine yG (fn:=Try.f70) (ts:= [6]) Try.func70 (by kernel_rfl) rfl rfl (by rw [Try.ntmps70];exact Nat.le_of_ble_eq_true rfl) rfl (by simp only [szA,List.mem_cons,List.not_mem_nil,or_false,forall_eq_or_imp,forall_eq,VT.cells,szL];try decide) ?_
 rw [Try.ntmps70]
 simp only [push_cast,↓zK,↓zJ,↓reduceIte,zA,zB,zC,zD,zE,zF,zG,zH,zI,reduceCtorEq]
 refine zL fun K hK=> ?_
 refine zM zQ zN [] rfl ?_
 all_goals simp only [push_cast,↓zK,↓zJ,↓reduceIte,zA,zB,zC,zD,zE,zF,zG,zH,zI,reduceCtorEq]
 all_goals repeat'(first|(apply zO<;>(intro hg;(try simp only [push_cast]at hg)))|apply And.intro|(intro hg;(try simp only [push_cast]at hg)))
 all_goals first|exact gA|(exact zP (by simp only [push_cast];omega))|(exact zP (by omega))|skip
 all_goals first|(refine hK _ ?_;clear hK K)|(simp only [push_cast];done)
 refine zL fun K hK=> ?_
 refine zM zQ zN [] rfl ?_
 all_goals simp only [push_cast,↓zK,↓zJ,↓reduceIte,zA,zB,zC,zD,zE,zF,zG,zH,zI,reduceCtorEq]
 all_goals repeat'(first|(apply zO<;>(intro hg;(try simp only [push_cast]at hg)))|apply And.intro|(intro hg;(try simp only [push_cast]at hg)))
 all_goals first|exact gA|(exact zP (by simp only [push_cast];omega))|(exact zP (by omega))|skip
 all_goals first|(refine hK _ ?_;clear hK K)|(simp only [push_cast];done)
 refine zL fun K1 hK1=> ?_
 refine zL fun K hK=> ?_
 refine zM zQ zN [] rfl ?_
 all_goals simp only [push_cast,↓zK,↓zJ,↓reduceIte,zA,zB,zC,zD,zE,zF,zG,zH,zI,reduceCtorEq]
 all_goals repeat'(first|(apply zO<;>(intro hg;(try simp only [push_cast]at hg)))|apply And.intro|(intro hg;(try simp only [push_cast]at hg)))
 all_goals first|exact gA|(exact zP (by simp only [push_cast];omega))|(exact zP (by omega))|skip
 all_goals first|(refine hK _ ?_;clear hK K)|(simp only [push_cast];done)
 refine zW ?_
 refine zk [7,8,10,15,16,17,18,19,20,21,22,23,24,25,26,27,28,29,30,31,32,33,34] [112,128] (fun(k:Nat)=> [(15, .int .i64 k),(7, .sl 112 [] 0 (nrF ps r v k).length 2),(8, .sl 128 [] 0 (nrR ps r v k).length 2)]) (fun k=> []) (fun k=> [(112,⟨.ex,2,dI (nrF ps r v k),none⟩),(128,⟨.ex,2,dI (nrR ps r v k),none⟩)]) (fun k=>k≤r.length) (fun k=>r.length - k) 0 ?_ (by omega) ?_
 ·
  rw [show nrF ps r v 0= []from rfl,show nrR ps r v 0= []from rfl,show dI ([]:List Int)= []from rfl]
  refine zb rfl ?_ ?_ ?_<;>simp only [zi,zh,push_cast,↓zK,↓zJ,↓reduceIte,zA,zB,zC,zD,zE,zF,zG,zH,zI,reduceCtorEq]
 ·rintro k hk KL0 hL0
  simp only [push_cast,↓zK,↓zJ,↓reduceIte,zA,zB,zC,zD,zE,zF,zG,zH,zI,reduceCtorEq]
  refine zL fun K hK=> ?_
  refine zM zQ zN [] rfl ?_
  all_goals simp only [push_cast,↓zK,↓zJ,↓reduceIte,zA,zB,zC,zD,zE,zF,zG,zH,zI,reduceCtorEq]
  all_goals repeat'(first|(apply zO<;>(intro hg;(try simp only [push_cast]at hg)))|apply And.intro|(intro hg;(try simp only [push_cast]at hg)))
  all_goals first|exact gA|(exact zP (by simp only [push_cast];omega))|(exact zP (by omega))|skip
  all_goals first|(refine hK _ ?_;clear hK K)|(simp only [push_cast];done)
  refine zL fun K2 hK2=> ?_
  refine zV rfl (fun hc=> ?_) (fun hc=> ?_)<;>(try simp only [push_cast]at hc)
  ·
   refine zX ?_
   (try simp only [zR,zT,reduceIte,zF]);refine hK2 _ ?_
   refine zL fun K3 hK3=> ?_
   refine zW ?_
   have hrk:=hrr k (by omega)
   have hnk:=hnl k
   refine zL fun K hK=> ?_
   refine zM zQ zN [] rfl ?_
   all_goals simp only [push_cast,↓zK,↓zJ,↓reduceIte,zA,zB,zC,zD,zE,zF,zG,zH,zI,reduceCtorEq]
   all_goals repeat'(first|(apply zO<;>(intro hg;(try simp only [push_cast]at hg)))|apply And.intro|(intro hg;(try simp only [push_cast]at hg)))
   all_goals first|exact gA|(exact zP (by simp only [push_cast];omega))|(exact zP (by omega))|skip
   all_goals first|(refine hK _ ?_;clear hK K)|(simp only [push_cast];done)
   refine zL fun K hK=> ?_
   refine zM zQ zN [] rfl ?_
   all_goals refine yC 7 fun K9 hK9=> ?_
   all_goals simp only [push_cast,↓zK,↓zJ,↓reduceIte,zA,zB,zC,zD,zE,zF,zG,zH,zI,reduceCtorEq]
   all_goals repeat'(first|(apply zO<;>(intro hg;(try simp only [push_cast]at hg)))|(refine⟨_,zy (gp ps (gi r k).toNat).give v (hgg _),?_⟩;simp only [push_cast,↓zK,↓zJ,↓reduceIte,zA,zB,zC,zD,zE,zF,zG,zH,zI,reduceCtorEq])|apply And.intro|(intro hg;(try simp only [push_cast]at hg)))
   all_goals first|exact gA|(exact zP (by simp only [push_cast];omega))|(exact zP (by omega))|skip
   all_goals first|(refine hK9 _ ?_;clear hK9 K9)|(simp only [push_cast];done)
   all_goals simp only [push_cast,↓zK,↓zJ,↓reduceIte,zA,zB,zC,zD,zE,zF,zG,zH,zI,reduceCtorEq]
   all_goals repeat'(first|(apply zO<;>(intro hg;(try simp only [push_cast]at hg)))|(refine⟨_,zy (gp ps (gi r k).toNat).give v (hgg _),?_⟩;simp only [push_cast,↓zK,↓zJ,↓reduceIte,zA,zB,zC,zD,zE,zF,zG,zH,zI,reduceCtorEq])|apply And.intro|(intro hg;(try simp only [push_cast]at hg)))
   all_goals first|exact gA|(exact zP (by simp only [push_cast];omega))|(exact zP (by omega))|skip
   all_goals first|(refine hK _ ?_;clear hK K)|(simp only [push_cast];done)
   refine zV rfl (fun hc=> ?_) (fun hc=> ?_)<;>(try simp only [push_cast]at hc)
   ·
    refine zM zQ zN [] rfl ?_
    all_goals simp only [push_cast,↓zK,↓zJ,↓reduceIte,zA,zB,zC,zD,zE,zF,zG,zH,zI,reduceCtorEq]
    all_goals repeat'(first|(apply zO<;>(intro hg;(try simp only [push_cast]at hg)))|apply And.intro|(intro hg;(try simp only [push_cast]at hg)))
    all_goals first|exact gA|(exact zP (by simp only [push_cast];omega))|(exact zP (by omega))|skip
    (try simp only [zR,zT,reduceIte,zF]);refine hK3 _ ?_
    refine zM zQ zN [] rfl ?_
    all_goals simp only [push_cast,↓zK,↓zJ,↓reduceIte,zA,zB,zC,zD,zE,zF,zG,zH,zI,reduceCtorEq]
    all_goals repeat'(first|(apply zO<;>(intro hg;(try simp only [push_cast]at hg)))|apply And.intro|(intro hg;(try simp only [push_cast]at hg)))
    all_goals first|exact gA|(exact zP (by simp only [push_cast];omega))|(exact zP (by omega))|skip
    refine hL0 _ ⟨k+1,by omega,by omega,?_⟩
    rw [Wc (by unfold gvB;with_reducible assumption),Wd (by unfold gvB;with_reducible assumption)]
    refine zb rfl ?_ ?_ ?_<;>simp only [zi,zh,push_cast,↓zK,↓zJ,↓reduceIte,zA,zB,zC,zD,zE,zF,zG,zH,zI,reduceCtorEq]
    all_goals(try(rw [List.length_append];rfl))
   ·
    refine zM zQ zN [] rfl ?_
    all_goals simp only [push_cast,↓zK,↓zJ,↓reduceIte,zA,zB,zC,zD,zE,zF,zG,zH,zI,reduceCtorEq]
    all_goals repeat'(first|(apply zO<;>(intro hg;(try simp only [push_cast]at hg)))|apply And.intro|(intro hg;(try simp only [push_cast]at hg)))
    all_goals first|exact gA|(exact zP (by simp only [push_cast];omega))|(exact zP (by omega))|skip
    (try simp only [zR,zT,reduceIte,zF]);refine hK3 _ ?_
    refine zM zQ zN [] rfl ?_
    all_goals simp only [push_cast,↓zK,↓zJ,↓reduceIte,zA,zB,zC,zD,zE,zF,zG,zH,zI,reduceCtorEq]
    all_goals repeat'(first|(apply zO<;>(intro hg;(try simp only [push_cast]at hg)))|apply And.intro|(intro hg;(try simp only [push_cast]at hg)))
    all_goals first|exact gA|(exact zP (by simp only [push_cast];omega))|(exact zP (by omega))|skip
    refine hL0 _ ⟨k+1,by omega,by omega,?_⟩
    rw [Kd (by unfold gvB;with_reducible assumption),Ke (by unfold gvB;with_reducible assumption)]
    refine zb rfl ?_ ?_ ?_<;>simp only [zi,zh,push_cast,↓zK,↓zJ,↓reduceIte,zA,zB,zC,zD,zE,zF,zG,zH,zI,reduceCtorEq]
    all_goals(try(rw [List.length_append];rfl))
  ·
   refine zn ?_
   have hkk:k=r.length:=by omega
   subst hkk
   have hnk9:=hnl r.length
   (try simp only [zR,zT,reduceIte,zF]);refine hK1 _ ?_
   refine zL fun K hK=> ?_
   refine zM zQ zN [] rfl ?_
   all_goals simp only [push_cast,↓zK,↓zJ,↓reduceIte,zA,zB,zC,zD,zE,zF,zG,zH,zI,reduceCtorEq]
   all_goals repeat'(first|(apply zO<;>(intro hg;(try simp only [push_cast]at hg)))|apply And.intro|(intro hg;(try simp only [push_cast]at hg)))
   all_goals first|exact gA|(exact zP (by simp only [push_cast];omega))|(exact zP (by omega))|skip
   all_goals first|(refine hK _ ?_;clear hK K)|(simp only [push_cast];done)
   refine zZ ?_
   (try simp only [zR,zT])
   refine⟨Or.inl rfl,?_⟩
   simp only [zf,push_cast,↓zK,↓zJ,↓reduceIte,zA,zB,zC,zD,zE,zF,zG,zH,zI,reduceCtorEq]
   first|exact List.length_append.symm|exact⟨rfl,List.length_append.symm⟩|skip
def akB (ps:List Pr)(r:List Int)(v:Int)(i:Nat):Bool:=zt (gp ps (gi r i).toNat).ask v
def akI (ps:List Pr)(r:List Int)(v:Int):Nat→Int
 |0=> -1
 |i+1=>if akB ps r v i=true then(i:Int)else akI ps r v i
def gvI (ps:List Pr)(r:List Int)(v:Int):Nat→Int
 |0=> -1
 |i+1=>if gvB ps r v i=true then(i:Int)else gvI ps r v i
theorem ZC {ps:List Pr}{r:List Int}{v:Int}{i:Nat}(h:akB ps r v i=true):akI ps r v (i+1)=i:=if_pos h
theorem YT {ps:List Pr}{r:List Int}{v:Int}{i:Nat}(h:akB ps r v i=false):akI ps r v (i+1)=akI ps r v i:=if_neg (by rw [h];decide)
theorem ZJ {ps:List Pr}{r:List Int}{v:Int}{i:Nat}(h:gvB ps r v i=true):gvI ps r v (i+1)=i:=if_pos h
theorem YX {ps:List Pr}{r:List Int}{v:Int}{i:Nat}(h:gvB ps r v i=false):gvI ps r v (i+1)=gvI ps r v i:=if_neg (by rw [h];decide)
theorem KA (ps:List Pr)(r:List Int)(v:Int): ∀i,-1≤akI ps r v i∧akI ps r v i<i
 |0=>by show(-1:Int)≤ -1∧(-1:Int)<0;omega
 |i+1=>by
  have h:=KA ps r v i
  cases hb:akB ps r v i with
  |true=>rw [ZC hb];omega
  |false=>rw [YT hb];omega
theorem Vg (ps:List Pr)(r:List Int)(v:Int): ∀i,-1≤gvI ps r v i∧gvI ps r v i<i
 |0=>by show(-1:Int)≤ -1∧(-1:Int)<0;omega
 |i+1=>by
  have h:=Vg ps r v i
  cases hb:gvB ps r v i with
  |true=>rw [ZJ hb];omega
  |false=>rw [YX hb];omega
def prV (a g:Int):Int:=if a<0∧g<0 then 0 else if g<a then 2*a+1 else 2*g+2
set_option maxRecDepth 20000 in
set_option maxHeartbeats 4000000 in
theorem zA2 (ps:List Pr)(ha:PLn 1048576 ps)(r:List Int)(hr:r.length≤1048576)(hrr: ∀i,i<r.length→0≤gi r i∧gi r i<(ps.length:Int))(v:Int):Fn Try.prog tyT 72 [.c (.lst 64 (dII (ilv ps))), .c (DI r), .c (.int .i64 v)] [.c (.int .i64 (prV (akI ps r v r.length) (gvI ps r v r.length)))]:=by
 have hl:=ha.1
 have hg:=fun k=>QV ha k
 have hga: ∀k,(gp ps k).ask.length≤1048576:=fun k=>(hg k).ask
 have hgg: ∀k,(gp ps k).give.length≤1048576:=fun k=>(hg k).give
 have hli:=xY ps
 have har:=KA ps r v
 have hgr:=Vg ps r v
 refine yG (fn:=Try.f72) (ts:= [6]) Try.func72 (by kernel_rfl) rfl rfl (by rw [Try.ntmps72];exact Nat.le_of_ble_eq_true rfl) rfl (by simp only [szA,List.mem_cons,List.not_mem_nil,or_false,forall_eq_or_imp,forall_eq,VT.cells,szL];try decide) ?_
 rw [Try.ntmps72]
 simp only [push_cast,↓zK,↓zJ,↓reduceIte,zA,zB,zC,zD,zE,zF,zG,zH,zI,reduceCtorEq]
 refine zL fun K hK=> ?_
 refine zM zQ zN [] rfl ?_
 all_goals simp only [push_cast,↓zK,↓zJ,↓reduceIte,zA,zB,zC,zD,zE,zF,zG,zH,zI,reduceCtorEq]
 all_goals repeat'(first|(apply zO<;>(intro hg;(try simp only [push_cast]at hg)))|apply And.intro|(intro hg;(try simp only [push_cast]at hg)))
 all_goals first|exact gA|(exact zP (by simp only [push_cast];omega))|(exact zP (by omega))|skip
 all_goals first|(refine hK _ ?_;clear hK K)|(simp only [push_cast];done)
 refine zL fun K hK=> ?_
 refine zM zQ zN [] rfl ?_
 all_goals simp only [push_cast,↓zK,↓zJ,↓reduceIte,zA,zB,zC,zD,zE,zF,zG,zH,zI,reduceCtorEq]
 all_goals repeat'(first|(apply zO<;>(intro hg;(try simp only [push_cast]at hg)))|apply And.intro|(intro hg;(try simp only [push_cast]at hg)))
 all_goals first|exact gA|(exact zP (by simp only [push_cast];omega))|(exact zP (by omega))|skip
 all_goals first|(refine hK _ ?_;clear hK K)|(simp only [push_cast];done)
 refine zL fun K1 hK1=> ?_
 refine zL fun K hK=> ?_
 refine zM zQ zN [] rfl ?_
 all_goals simp only [push_cast,↓zK,↓zJ,↓reduceIte,zA,zB,zC,zD,zE,zF,zG,zH,zI,reduceCtorEq]
 all_goals repeat'(first|(apply zO<;>(intro hg;(try simp only [push_cast]at hg)))|apply And.intro|(intro hg;(try simp only [push_cast]at hg)))
 all_goals first|exact gA|(exact zP (by simp only [push_cast];omega))|(exact zP (by omega))|skip
 all_goals first|(refine hK _ ?_;clear hK K)|(simp only [push_cast];done)
 refine zW ?_
 refine zk [7,8,9,10,13,14,15,16,17,18,19,20,21,22,23,24,25,26,27,28,29,30,31,32,33,34] [] (fun(k:Nat)=> [(13, .int .i64 k),(7, .int .i64 (akI ps r v k)),(8, .int .i64 (gvI ps r v k))]) (fun k=> []) (fun k=> []) (fun k=>k≤r.length) (fun k=>r.length - k) 0 ?_ (by omega) ?_
 ·
  rw [show akI ps r v 0= -1 from rfl,show gvI ps r v 0= -1 from rfl]
  refine zb rfl ?_ ?_ ?_<;>simp only [zi,zh,push_cast,↓zK,↓zJ,↓reduceIte,zA,zB,zC,zD,zE,zF,zG,zH,zI,reduceCtorEq]
 ·rintro k hk KL0 hL0
  simp only [push_cast,↓zK,↓zJ,↓reduceIte,zA,zB,zC,zD,zE,zF,zG,zH,zI,reduceCtorEq]
  refine zL fun K hK=> ?_
  refine zM zQ zN [] rfl ?_
  all_goals simp only [push_cast,↓zK,↓zJ,↓reduceIte,zA,zB,zC,zD,zE,zF,zG,zH,zI,reduceCtorEq]
  all_goals repeat'(first|(apply zO<;>(intro hg;(try simp only [push_cast]at hg)))|apply And.intro|(intro hg;(try simp only [push_cast]at hg)))
  all_goals first|exact gA|(exact zP (by simp only [push_cast];omega))|(exact zP (by omega))|skip
  all_goals first|(refine hK _ ?_;clear hK K)|(simp only [push_cast];done)
  refine zL fun K2 hK2=> ?_
  refine zV rfl (fun hc=> ?_) (fun hc=> ?_)<;>(try simp only [push_cast]at hc)
  ·
   refine zX ?_
   (try simp only [zR,zT,reduceIte,zF]);refine hK2 _ ?_
   refine zL fun K3 hK3=> ?_
   refine zW ?_
   have hrk:=hrr k (by omega)
   refine zL fun K hK=> ?_
   refine zM zQ zN [] rfl ?_
   all_goals simp only [push_cast,↓zK,↓zJ,↓reduceIte,zA,zB,zC,zD,zE,zF,zG,zH,zI,reduceCtorEq]
   all_goals repeat'(first|(apply zO<;>(intro hg;(try simp only [push_cast]at hg)))|apply And.intro|(intro hg;(try simp only [push_cast]at hg)))
   all_goals first|exact gA|(exact zP (by simp only [push_cast];omega))|(exact zP (by omega))|skip
   all_goals first|(refine hK _ ?_;clear hK K)|(simp only [push_cast];done)
   refine zL fun K4 hK4=> ?_
   refine zL fun K hK=> ?_
   refine zM zQ zN [] rfl ?_
   all_goals refine yC 7 fun K9 hK9=> ?_
   all_goals simp only [push_cast,↓zK,↓zJ,↓reduceIte,zA,zB,zC,zD,zE,zF,zG,zH,zI,reduceCtorEq]
   all_goals repeat'(first|(apply zO<;>(intro hg;(try simp only [push_cast]at hg)))|(refine⟨_,zy (gp ps (gi r k).toNat).ask v (hga _),?_⟩;simp only [push_cast,↓zK,↓zJ,↓reduceIte,zA,zB,zC,zD,zE,zF,zG,zH,zI,reduceCtorEq])|apply And.intro|(intro hg;(try simp only [push_cast]at hg)))
   all_goals first|exact gA|(exact zP (by simp only [push_cast];omega))|(exact zP (by omega))|skip
   all_goals first|(refine hK9 _ ?_;clear hK9 K9)|(simp only [push_cast];done)
   all_goals simp only [push_cast,↓zK,↓zJ,↓reduceIte,zA,zB,zC,zD,zE,zF,zG,zH,zI,reduceCtorEq]
   all_goals repeat'(first|(apply zO<;>(intro hg;(try simp only [push_cast]at hg)))|(refine⟨_,zy (gp ps (gi r k).toNat).ask v (hga _),?_⟩;simp only [push_cast,↓zK,↓zJ,↓reduceIte,zA,zB,zC,zD,zE,zF,zG,zH,zI,reduceCtorEq])|apply And.intro|(intro hg;(try simp only [push_cast]at hg)))
   all_goals first|exact gA|(exact zP (by simp only [push_cast];omega))|(exact zP (by omega))|skip
   all_goals first|(refine hK _ ?_;clear hK K)|(simp only [push_cast];done)
   refine zV rfl (fun hc=> ?_) (fun hc=> ?_)<;>(try simp only [push_cast]at hc)
   ·
    refine zM zQ zN [] rfl ?_
    all_goals simp only [push_cast,↓zK,↓zJ,↓reduceIte,zA,zB,zC,zD,zE,zF,zG,zH,zI,reduceCtorEq]
    all_goals repeat'(first|(apply zO<;>(intro hg;(try simp only [push_cast]at hg)))|apply And.intro|(intro hg;(try simp only [push_cast]at hg)))
    all_goals first|exact gA|(exact zP (by simp only [push_cast];omega))|(exact zP (by omega))|skip
    (try simp only [zR,zT,reduceIte,zF]);refine hK4 _ ?_
    refine zL fun K hK=> ?_
    refine zM zQ zN [] rfl ?_
    all_goals refine yC 7 fun K9 hK9=> ?_
    all_goals simp only [push_cast,↓zK,↓zJ,↓reduceIte,zA,zB,zC,zD,zE,zF,zG,zH,zI,reduceCtorEq]
    all_goals repeat'(first|(apply zO<;>(intro hg;(try simp only [push_cast]at hg)))|(refine⟨_,zy (gp ps (gi r k).toNat).give v (hgg _),?_⟩;simp only [push_cast,↓zK,↓zJ,↓reduceIte,zA,zB,zC,zD,zE,zF,zG,zH,zI,reduceCtorEq])|apply And.intro|(intro hg;(try simp only [push_cast]at hg)))
    all_goals first|exact gA|(exact zP (by simp only [push_cast];omega))|(exact zP (by omega))|skip
    all_goals first|(refine hK9 _ ?_;clear hK9 K9)|(simp only [push_cast];done)
    all_goals simp only [push_cast,↓zK,↓zJ,↓reduceIte,zA,zB,zC,zD,zE,zF,zG,zH,zI,reduceCtorEq]
    all_goals repeat'(first|(apply zO<;>(intro hg;(try simp only [push_cast]at hg)))|(refine⟨_,zy (gp ps (gi r k).toNat).give v (hgg _),?_⟩;simp only [push_cast,↓zK,↓zJ,↓reduceIte,zA,zB,zC,zD,zE,zF,zG,zH,zI,reduceCtorEq])|apply And.intro|(intro hg;(try simp only [push_cast]at hg)))
    all_goals first|exact gA|(exact zP (by simp only [push_cast];omega))|(exact zP (by omega))|skip
    all_goals first|(refine hK _ ?_;clear hK K)|(simp only [push_cast];done)
    refine zV rfl (fun hc=> ?_) (fun hc=> ?_)<;>(try simp only [push_cast]at hc)
    ·
     refine zM zQ zN [] rfl ?_
     all_goals simp only [push_cast,↓zK,↓zJ,↓reduceIte,zA,zB,zC,zD,zE,zF,zG,zH,zI,reduceCtorEq]
     all_goals repeat'(first|(apply zO<;>(intro hg;(try simp only [push_cast]at hg)))|apply And.intro|(intro hg;(try simp only [push_cast]at hg)))
     all_goals first|exact gA|(exact zP (by simp only [push_cast];omega))|(exact zP (by omega))|skip
     (try simp only [zR,zT,reduceIte,zF]);refine hK3 _ ?_
     refine zM zQ zN [] rfl ?_
     all_goals simp only [push_cast,↓zK,↓zJ,↓reduceIte,zA,zB,zC,zD,zE,zF,zG,zH,zI,reduceCtorEq]
     all_goals repeat'(first|(apply zO<;>(intro hg;(try simp only [push_cast]at hg)))|apply And.intro|(intro hg;(try simp only [push_cast]at hg)))
     all_goals first|exact gA|(exact zP (by simp only [push_cast];omega))|(exact zP (by omega))|skip
     refine hL0 _ ⟨k+1,by omega,by omega,?_⟩
     rw [ZC (by unfold akB;with_reducible assumption),ZJ (by unfold gvB;with_reducible assumption)]
     refine zb rfl ?_ ?_ ?_<;>simp only [zi,zh,push_cast,↓zK,↓zJ,↓reduceIte,zA,zB,zC,zD,zE,zF,zG,zH,zI,reduceCtorEq]
    ·
     refine zX ?_
     (try simp only [zR,zT,reduceIte,zF]);refine hK3 _ ?_
     refine zM zQ zN [] rfl ?_
     all_goals simp only [push_cast,↓zK,↓zJ,↓reduceIte,zA,zB,zC,zD,zE,zF,zG,zH,zI,reduceCtorEq]
     all_goals repeat'(first|(apply zO<;>(intro hg;(try simp only [push_cast]at hg)))|apply And.intro|(intro hg;(try simp only [push_cast]at hg)))
     all_goals first|exact gA|(exact zP (by simp only [push_cast];omega))|(exact zP (by omega))|skip
     refine hL0 _ ⟨k+1,by omega,by omega,?_⟩
     rw [ZC (by unfold akB;with_reducible assumption),YX (by unfold gvB;with_reducible assumption)]
     refine zb rfl ?_ ?_ ?_<;>simp only [zi,zh,push_cast,↓zK,↓zJ,↓reduceIte,zA,zB,zC,zD,zE,zF,zG,zH,zI,reduceCtorEq]
   ·
    refine zX ?_
    (try simp only [zR,zT,reduceIte,zF]);refine hK4 _ ?_
    refine zL fun K hK=> ?_
    refine zM zQ zN [] rfl ?_
    all_goals refine yC 7 fun K9 hK9=> ?_
    all_goals simp only [push_cast,↓zK,↓zJ,↓reduceIte,zA,zB,zC,zD,zE,zF,zG,zH,zI,reduceCtorEq]
    all_goals repeat'(first|(apply zO<;>(intro hg;(try simp only [push_cast]at hg)))|(refine⟨_,zy (gp ps (gi r k).toNat).give v (hgg _),?_⟩;simp only [push_cast,↓zK,↓zJ,↓reduceIte,zA,zB,zC,zD,zE,zF,zG,zH,zI,reduceCtorEq])|apply And.intro|(intro hg;(try simp only [push_cast]at hg)))
    all_goals first|exact gA|(exact zP (by simp only [push_cast];omega))|(exact zP (by omega))|skip
    all_goals first|(refine hK9 _ ?_;clear hK9 K9)|(simp only [push_cast];done)
    all_goals simp only [push_cast,↓zK,↓zJ,↓reduceIte,zA,zB,zC,zD,zE,zF,zG,zH,zI,reduceCtorEq]
    all_goals repeat'(first|(apply zO<;>(intro hg;(try simp only [push_cast]at hg)))|(refine⟨_,zy (gp ps (gi r k).toNat).give v (hgg _),?_⟩;simp only [push_cast,↓zK,↓zJ,↓reduceIte,zA,zB,zC,zD,zE,zF,zG,zH,zI,reduceCtorEq])|apply And.intro|(intro hg;(try simp only [push_cast]at hg)))
    all_goals first|exact gA|(exact zP (by simp only [push_cast];omega))|(exact zP (by omega))|skip
    all_goals first|(refine hK _ ?_;clear hK K)|(simp only [push_cast];done)
    refine zV rfl (fun hc=> ?_) (fun hc=> ?_)<;>(try simp only [push_cast]at hc)
    ·
     refine zM zQ zN [] rfl ?_
     all_goals simp only [push_cast,↓zK,↓zJ,↓reduceIte,zA,zB,zC,zD,zE,zF,zG,zH,zI,reduceCtorEq]
     all_goals repeat'(first|(apply zO<;>(intro hg;(try simp only [push_cast]at hg)))|apply And.intro|(intro hg;(try simp only [push_cast]at hg)))
     all_goals first|exact gA|(exact zP (by simp only [push_cast];omega))|(exact zP (by omega))|skip
     (try simp only [zR,zT,reduceIte,zF]);refine hK3 _ ?_
     refine zM zQ zN [] rfl ?_
     all_goals simp only [push_cast,↓zK,↓zJ,↓reduceIte,zA,zB,zC,zD,zE,zF,zG,zH,zI,reduceCtorEq]
     all_goals repeat'(first|(apply zO<;>(intro hg;(try simp only [push_cast]at hg)))|apply And.intro|(intro hg;(try simp only [push_cast]at hg)))
     all_goals first|exact gA|(exact zP (by simp only [push_cast];omega))|(exact zP (by omega))|skip
     refine hL0 _ ⟨k+1,by omega,by omega,?_⟩
     rw [YT (by unfold akB;with_reducible assumption),ZJ (by unfold gvB;with_reducible assumption)]
     refine zb rfl ?_ ?_ ?_<;>simp only [zi,zh,push_cast,↓zK,↓zJ,↓reduceIte,zA,zB,zC,zD,zE,zF,zG,zH,zI,reduceCtorEq]
    ·
     refine zX ?_
     (try simp only [zR,zT,reduceIte,zF]);refine hK3 _ ?_
     refine zM zQ zN [] rfl ?_
     all_goals simp only [push_cast,↓zK,↓zJ,↓reduceIte,zA,zB,zC,zD,zE,zF,zG,zH,zI,reduceCtorEq]
     all_goals repeat'(first|(apply zO<;>(intro hg;(try simp only [push_cast]at hg)))|apply And.intro|(intro hg;(try simp only [push_cast]at hg)))
     all_goals first|exact gA|(exact zP (by simp only [push_cast];omega))|(exact zP (by omega))|skip
     refine hL0 _ ⟨k+1,by omega,by omega,?_⟩
     rw [YT (by unfold akB;with_reducible assumption),YX (by unfold gvB;with_reducible assumption)]
     refine zb rfl ?_ ?_ ?_<;>simp only [zi,zh,push_cast,↓zK,↓zJ,↓reduceIte,zA,zB,zC,zD,zE,zF,zG,zH,zI,reduceCtorEq]
  ·
   refine zn ?_
   have hkk:k=r.length:=by omega
   subst hkk
   have har9:=har r.length
   have hgr9:=hgr r.length
   (try simp only [zR,zT,reduceIte,zF]);refine hK1 _ ?_
   refine zL fun K5 hK5=> ?_
   refine zW ?_
   refine zL fun K hK=> ?_
   refine ze false zQ zN ?_ rfl ?_
   ·kernel_rfl
   all_goals simp only [push_cast,↓zK,↓zJ,↓reduceIte,zA,zB,zC,zD,zE,zF,zG,zH,zI,reduceCtorEq]
   all_goals repeat'(first|(apply zO<;>(intro hg;(try simp only [push_cast]at hg)))|apply And.intro|(intro hg;(try simp only [push_cast]at hg)))
   all_goals first|exact gA|(exact zP (by simp only [push_cast];omega))|(exact zP (by omega))|skip
   all_goals first|(refine hK _ ?_;clear hK K)|(simp only [push_cast];done)
   all_goals refine zV rfl (fun hc=> ?_) (fun hc=> ?_)
   all_goals(first|(cases hc;done)|skip)
   all_goals(try simp only [push_cast]at hc)
   all_goals first
    |(
      refine zL fun K hK=> ?_
      refine zM zQ zN [] rfl ?_
      all_goals simp only [push_cast,↓zK,↓zJ,↓reduceIte,zA,zB,zC,zD,zE,zF,zG,zH,zI,reduceCtorEq]
      all_goals repeat'(first|(apply zO<;>(intro hg;(try simp only [push_cast]at hg)))|apply And.intro|(intro hg;(try simp only [push_cast]at hg)))
      all_goals first|exact gA|(exact zP (by simp only [push_cast];omega))|(exact zP (by omega))|skip
      all_goals first|(refine hK _ ?_;clear hK K)|(simp only [push_cast];done)
      all_goals refine zV rfl (fun hc=> ?_) (fun hc=> ?_)
      all_goals(first|(cases hc;done)|skip)
      all_goals(try simp only [push_cast]at hc)
      all_goals(first|(exfalso;omega)|skip)
      all_goals first
       |(
         refine zX ?_
         (try simp only [zR,zT,reduceIte,zF]);refine hK5 _ ?_
         refine zL fun K hK=> ?_
         refine zM zQ zN [] rfl ?_
         all_goals simp only [push_cast,↓zK,↓zJ,↓reduceIte,zA,zB,zC,zD,zE,zF,zG,zH,zI,reduceCtorEq]
         all_goals repeat'(first|(apply zO<;>(intro hg;(try simp only [push_cast]at hg)))|apply And.intro|(intro hg;(try simp only [push_cast]at hg)))
         all_goals first|exact gA|(exact zP (by simp only [push_cast];omega))|(exact zP (by omega))|skip
         all_goals first|(refine hK _ ?_;clear hK K)|(simp only [push_cast];done)
         refine zZ ?_
         (try simp only [zR,zT])
         refine⟨Or.inl rfl,?_⟩
         simp only [zf,push_cast,↓zK,↓zJ,↓reduceIte,zA,zB,zC,zD,zE,zF,zG,zH,zI,reduceCtorEq]
         all_goals(unfold prV;split<;>(try split)<;>omega)
         done)
       |(
         refine zL fun K hK=> ?_
         refine zM zQ zN [] rfl ?_
         all_goals simp only [push_cast,↓zK,↓zJ,↓reduceIte,zA,zB,zC,zD,zE,zF,zG,zH,zI,reduceCtorEq]
         all_goals repeat'(first|(apply zO<;>(intro hg;(try simp only [push_cast]at hg)))|apply And.intro|(intro hg;(try simp only [push_cast]at hg)))
         all_goals first|exact gA|(exact zP (by simp only [push_cast];omega))|(exact zP (by omega))|skip
         all_goals first|(refine hK _ ?_;clear hK K)|(simp only [push_cast];done)
         refine zZ ?_
         (try simp only [zR,zT])
         refine⟨Or.inl rfl,?_⟩
         simp only [zf,push_cast,↓zK,↓zJ,↓reduceIte,zA,zB,zC,zD,zE,zF,zG,zH,zI,reduceCtorEq]
         all_goals(unfold prV;split<;>(try split)<;>omega)
         done)
      done)
    |(
      refine zL fun K hK=> ?_
      refine zM zQ zN [] rfl ?_
      all_goals simp only [push_cast,↓zK,↓zJ,↓reduceIte,zA,zB,zC,zD,zE,zF,zG,zH,zI,reduceCtorEq]
      all_goals repeat'(first|(apply zO<;>(intro hg;(try simp only [push_cast]at hg)))|apply And.intro|(intro hg;(try simp only [push_cast]at hg)))
      all_goals first|exact gA|(exact zP (by simp only [push_cast];omega))|(exact zP (by omega))|skip
      all_goals first|(refine hK _ ?_;clear hK K)|(simp only [push_cast];done)
      refine zZ ?_
      (try simp only [zR,zT])
      refine⟨Or.inl rfl,?_⟩
      simp only [zf,push_cast,↓zK,↓zJ,↓reduceIte,zA,zB,zC,zD,zE,zF,zG,zH,zI,reduceCtorEq]
      all_goals(unfold prV;split<;>(try split)<;>omega)
      done)
set_option maxRecDepth 20000 in
set_option maxHeartbeats 4000000 in
theorem zCa (ps:List Pr)(ha:PLn 1048576 ps)(r:List Int)(hr:r.length≤1048576)(hrr: ∀i,i<r.length→0≤gi r i∧gi r i<(ps.length:Int))(v:Int):Fn Try.prog tyT 38 [.c (.lst 64 (dII (ilv ps))), .c (DI r), .c (.int .i64 v)] [.c (.int .i64 (prV (akI ps r v r.length) (gvI ps r v r.length)))]:=by
 have hl:=ha.1
 have hg:=fun k=>QV ha k
 have hga: ∀k,(gp ps k).ask.length≤1048576:=fun k=>(hg k).ask
 have hgg: ∀k,(gp ps k).give.length≤1048576:=fun k=>(hg k).give
 have hli:=xY ps
 have har:=KA ps r v
 have hgr:=Vg ps r v
 refine yG (fn:=Try.f38) (ts:= [6]) Try.func38 (by kernel_rfl) rfl rfl (by rw [Try.ntmps38];exact Nat.le_of_ble_eq_true rfl) rfl (by simp only [szA,List.mem_cons,List.not_mem_nil,or_false,forall_eq_or_imp,forall_eq,VT.cells,szL];try decide) ?_
 rw [Try.ntmps38]
 simp only [push_cast,↓zK,↓zJ,↓reduceIte,zA,zB,zC,zD,zE,zF,zG,zH,zI,reduceCtorEq]
 refine zL fun K hK=> ?_
 refine zM zQ zN [] rfl ?_
 all_goals simp only [push_cast,↓zK,↓zJ,↓reduceIte,zA,zB,zC,zD,zE,zF,zG,zH,zI,reduceCtorEq]
 all_goals repeat'(first|(apply zO<;>(intro hg;(try simp only [push_cast]at hg)))|apply And.intro|(intro hg;(try simp only [push_cast]at hg)))
 all_goals first|exact gA|(exact zP (by simp only [push_cast];omega))|(exact zP (by omega))|skip
 all_goals first|(refine hK _ ?_;clear hK K)|(simp only [push_cast];done)
 refine zL fun K hK=> ?_
 refine zM zQ zN [] rfl ?_
 all_goals simp only [push_cast,↓zK,↓zJ,↓reduceIte,zA,zB,zC,zD,zE,zF,zG,zH,zI,reduceCtorEq]
 all_goals repeat'(first|(apply zO<;>(intro hg;(try simp only [push_cast]at hg)))|apply And.intro|(intro hg;(try simp only [push_cast]at hg)))
 all_goals first|exact gA|(exact zP (by simp only [push_cast];omega))|(exact zP (by omega))|skip
 all_goals first|(refine hK _ ?_;clear hK K)|(simp only [push_cast];done)
 refine zL fun K hK=> ?_
 refine zM zQ zN [] rfl ?_
 all_goals simp only [push_cast,↓zK,↓zJ,↓reduceIte,zA,zB,zC,zD,zE,zF,zG,zH,zI,reduceCtorEq]
 all_goals repeat'(first|(apply zO<;>(intro hg;(try simp only [push_cast]at hg)))|apply And.intro|(intro hg;(try simp only [push_cast]at hg)))
 all_goals first|exact gA|(exact zP (by simp only [push_cast];omega))|(exact zP (by omega))|skip
 all_goals first|(refine hK _ ?_;clear hK K)|(simp only [push_cast];done)
 refine zL fun K1 hK1=> ?_
 refine zL fun K hK=> ?_
 refine zM zQ zN [] rfl ?_
 all_goals simp only [push_cast,↓zK,↓zJ,↓reduceIte,zA,zB,zC,zD,zE,zF,zG,zH,zI,reduceCtorEq]
 all_goals repeat'(first|(apply zO<;>(intro hg;(try simp only [push_cast]at hg)))|apply And.intro|(intro hg;(try simp only [push_cast]at hg)))
 all_goals first|exact gA|(exact zP (by simp only [push_cast];omega))|(exact zP (by omega))|skip
 all_goals first|(refine hK _ ?_;clear hK K)|(simp only [push_cast];done)
 refine zW ?_
 refine zk [7,8,9,10,11,12,13,14,15,16,17,18,19,20,21,22,23,24,25,26,27,28,29,30,31,32,33,34,35,36,37] [] (fun(k:Nat)=> [(9, .int .i64 k),(7, .int .i64 (akI ps r v k)),(8, .int .i64 (gvI ps r v k))]) (fun k=> []) (fun k=> []) (fun k=>k≤r.length) (fun k=>r.length - k) 0 ?_ (by omega) ?_
 ·
  rw [show akI ps r v 0= -1 from rfl,show gvI ps r v 0= -1 from rfl]
  refine zb rfl ?_ ?_ ?_<;>simp only [zi,zh,push_cast,↓zK,↓zJ,↓reduceIte,zA,zB,zC,zD,zE,zF,zG,zH,zI,reduceCtorEq]
 ·rintro k hk KL0 hL0
  simp only [push_cast,↓zK,↓zJ,↓reduceIte,zA,zB,zC,zD,zE,zF,zG,zH,zI,reduceCtorEq]
  refine zL fun K2 hK2=> ?_
  refine zL fun K hK=> ?_
  refine zM zQ zN [] rfl ?_
  all_goals simp only [push_cast,↓zK,↓zJ,↓reduceIte,zA,zB,zC,zD,zE,zF,zG,zH,zI,reduceCtorEq]
  all_goals repeat'(first|(apply zO<;>(intro hg;(try simp only [push_cast]at hg)))|apply And.intro|(intro hg;(try simp only [push_cast]at hg)))
  all_goals first|exact gA|(exact zP (by simp only [push_cast];omega))|(exact zP (by omega))|skip
  all_goals first|(refine hK _ ?_;clear hK K)|(simp only [push_cast];done)
  refine zV rfl (fun hc=> ?_) (fun hc=> ?_)<;>(try simp only [push_cast]at hc)
  ·
   refine zX ?_
   (try simp only [zR,zT,reduceIte,zF]);refine hK2 _ ?_
   refine zL fun K3 hK3=> ?_
   refine zW ?_
   refine zL fun K4 hK4=> ?_
   have hrk:=hrr k (by omega)
   refine zL fun K hK=> ?_
   refine zM zQ zN [] rfl ?_
   all_goals refine yC 10 fun K9 hK9=> ?_
   all_goals simp only [push_cast,↓zK,↓zJ,↓reduceIte,zA,zB,zC,zD,zE,zF,zG,zH,zI,reduceCtorEq]
   all_goals repeat'(first|(apply zO<;>(intro hg;(try simp only [push_cast]at hg)))|(refine⟨_,qn (gp ps (gi r k).toNat).ask v (hga _),?_⟩;simp only [push_cast,↓zK,↓zJ,↓reduceIte,zA,zB,zC,zD,zE,zF,zG,zH,zI,reduceCtorEq])|apply And.intro|(intro hg;(try simp only [push_cast]at hg)))
   all_goals first|exact gA|(exact zP (by simp only [push_cast];omega))|(exact zP (by omega))|skip
   all_goals first|(refine hK9 _ ?_;clear hK9 K9)|(simp only [push_cast];done)
   all_goals simp only [push_cast,↓zK,↓zJ,↓reduceIte,zA,zB,zC,zD,zE,zF,zG,zH,zI,reduceCtorEq]
   all_goals repeat'(first|(apply zO<;>(intro hg;(try simp only [push_cast]at hg)))|(refine⟨_,qn (gp ps (gi r k).toNat).ask v (hga _),?_⟩;simp only [push_cast,↓zK,↓zJ,↓reduceIte,zA,zB,zC,zD,zE,zF,zG,zH,zI,reduceCtorEq])|apply And.intro|(intro hg;(try simp only [push_cast]at hg)))
   all_goals first|exact gA|(exact zP (by simp only [push_cast];omega))|(exact zP (by omega))|skip
   all_goals first|(refine hK _ ?_;clear hK K)|(simp only [push_cast];done)
   refine zV rfl (fun hc=> ?_) (fun hc=> ?_)<;>(try simp only [push_cast]at hc)
   ·
    refine zM zQ zN [] rfl ?_
    all_goals simp only [push_cast,↓zK,↓zJ,↓reduceIte,zA,zB,zC,zD,zE,zF,zG,zH,zI,reduceCtorEq]
    all_goals repeat'(first|(apply zO<;>(intro hg;(try simp only [push_cast]at hg)))|apply And.intro|(intro hg;(try simp only [push_cast]at hg)))
    all_goals first|exact gA|(exact zP (by simp only [push_cast];omega))|(exact zP (by omega))|skip
    (try simp only [zR,zT,reduceIte,zF]);refine hK4 _ ?_
    refine zL fun K hK=> ?_
    refine zM zQ zN [] rfl ?_
    all_goals refine yC 10 fun K9 hK9=> ?_
    all_goals simp only [push_cast,↓zK,↓zJ,↓reduceIte,zA,zB,zC,zD,zE,zF,zG,zH,zI,reduceCtorEq]
    all_goals repeat'(first|(apply zO<;>(intro hg;(try simp only [push_cast]at hg)))|(refine⟨_,qn (gp ps (gi r k).toNat).give v (hgg _),?_⟩;simp only [push_cast,↓zK,↓zJ,↓reduceIte,zA,zB,zC,zD,zE,zF,zG,zH,zI,reduceCtorEq])|apply And.intro|(intro hg;(try simp only [push_cast]at hg)))
    all_goals first|exact gA|(exact zP (by simp only [push_cast];omega))|(exact zP (by omega))|skip
    all_goals first|(refine hK9 _ ?_;clear hK9 K9)|(simp only [push_cast];done)
    all_goals simp only [push_cast,↓zK,↓zJ,↓reduceIte,zA,zB,zC,zD,zE,zF,zG,zH,zI,reduceCtorEq]
    all_goals repeat'(first|(apply zO<;>(intro hg;(try simp only [push_cast]at hg)))|(refine⟨_,qn (gp ps (gi r k).toNat).give v (hgg _),?_⟩;simp only [push_cast,↓zK,↓zJ,↓reduceIte,zA,zB,zC,zD,zE,zF,zG,zH,zI,reduceCtorEq])|apply And.intro|(intro hg;(try simp only [push_cast]at hg)))
    all_goals first|exact gA|(exact zP (by simp only [push_cast];omega))|(exact zP (by omega))|skip
    all_goals first|(refine hK _ ?_;clear hK K)|(simp only [push_cast];done)
    refine zV rfl (fun hc=> ?_) (fun hc=> ?_)<;>(try simp only [push_cast]at hc)
    ·
     refine zM zQ zN [] rfl ?_
     all_goals simp only [push_cast,↓zK,↓zJ,↓reduceIte,zA,zB,zC,zD,zE,zF,zG,zH,zI,reduceCtorEq]
     all_goals repeat'(first|(apply zO<;>(intro hg;(try simp only [push_cast]at hg)))|apply And.intro|(intro hg;(try simp only [push_cast]at hg)))
     all_goals first|exact gA|(exact zP (by simp only [push_cast];omega))|(exact zP (by omega))|skip
     (try simp only [zR,zT,reduceIte,zF]);refine hK3 _ ?_
     refine zM zQ zN [] rfl ?_
     all_goals simp only [push_cast,↓zK,↓zJ,↓reduceIte,zA,zB,zC,zD,zE,zF,zG,zH,zI,reduceCtorEq]
     all_goals repeat'(first|(apply zO<;>(intro hg;(try simp only [push_cast]at hg)))|apply And.intro|(intro hg;(try simp only [push_cast]at hg)))
     all_goals first|exact gA|(exact zP (by simp only [push_cast];omega))|(exact zP (by omega))|skip
     refine hL0 _ ⟨k+1,by omega,by omega,?_⟩
     rw [ZC (by unfold akB;with_reducible assumption),ZJ (by unfold gvB;with_reducible assumption)]
     refine zb rfl ?_ ?_ ?_<;>simp only [zi,zh,push_cast,↓zK,↓zJ,↓reduceIte,zA,zB,zC,zD,zE,zF,zG,zH,zI,reduceCtorEq]
    ·
     refine zX ?_
     (try simp only [zR,zT,reduceIte,zF]);refine hK3 _ ?_
     refine zM zQ zN [] rfl ?_
     all_goals simp only [push_cast,↓zK,↓zJ,↓reduceIte,zA,zB,zC,zD,zE,zF,zG,zH,zI,reduceCtorEq]
     all_goals repeat'(first|(apply zO<;>(intro hg;(try simp only [push_cast]at hg)))|apply And.intro|(intro hg;(try simp only [push_cast]at hg)))
     all_goals first|exact gA|(exact zP (by simp only [push_cast];omega))|(exact zP (by omega))|skip
     refine hL0 _ ⟨k+1,by omega,by omega,?_⟩
     rw [ZC (by unfold akB;with_reducible assumption),YX (by unfold gvB;with_reducible assumption)]
     refine zb rfl ?_ ?_ ?_<;>simp only [zi,zh,push_cast,↓zK,↓zJ,↓reduceIte,zA,zB,zC,zD,zE,zF,zG,zH,zI,reduceCtorEq]
   ·
    refine zX ?_
    (try simp only [zR,zT,reduceIte,zF]);refine hK4 _ ?_
    refine zL fun K hK=> ?_
    refine zM zQ zN [] rfl ?_
    all_goals refine yC 10 fun K9 hK9=> ?_
    all_goals simp only [push_cast,↓zK,↓zJ,↓reduceIte,zA,zB,zC,zD,zE,zF,zG,zH,zI,reduceCtorEq]
    all_goals repeat'(first|(apply zO<;>(intro hg;(try simp only [push_cast]at hg)))|(refine⟨_,qn (gp ps (gi r k).toNat).give v (hgg _),?_⟩;simp only [push_cast,↓zK,↓zJ,↓reduceIte,zA,zB,zC,zD,zE,zF,zG,zH,zI,reduceCtorEq])|apply And.intro|(intro hg;(try simp only [push_cast]at hg)))
    all_goals first|exact gA|(exact zP (by simp only [push_cast];omega))|(exact zP (by omega))|skip
    all_goals first|(refine hK9 _ ?_;clear hK9 K9)|(simp only [push_cast];done)
    all_goals simp only [push_cast,↓zK,↓zJ,↓reduceIte,zA,zB,zC,zD,zE,zF,zG,zH,zI,reduceCtorEq]
    all_goals repeat'(first|(apply zO<;>(intro hg;(try simp only [push_cast]at hg)))|(refine⟨_,qn (gp ps (gi r k).toNat).give v (hgg _),?_⟩;simp only [push_cast,↓zK,↓zJ,↓reduceIte,zA,zB,zC,zD,zE,zF,zG,zH,zI,reduceCtorEq])|apply And.intro|(intro hg;(try simp only [push_cast]at hg)))
    all_goals first|exact gA|(exact zP (by simp only [push_cast];omega))|(exact zP (by omega))|skip
    all_goals first|(refine hK _ ?_;clear hK K)|(simp only [push_cast];done)
    refine zV rfl (fun hc=> ?_) (fun hc=> ?_)<;>(try simp only [push_cast]at hc)
    ·
     refine zM zQ zN [] rfl ?_
     all_goals simp only [push_cast,↓zK,↓zJ,↓reduceIte,zA,zB,zC,zD,zE,zF,zG,zH,zI,reduceCtorEq]
     all_goals repeat'(first|(apply zO<;>(intro hg;(try simp only [push_cast]at hg)))|apply And.intro|(intro hg;(try simp only [push_cast]at hg)))
     all_goals first|exact gA|(exact zP (by simp only [push_cast];omega))|(exact zP (by omega))|skip
     (try simp only [zR,zT,reduceIte,zF]);refine hK3 _ ?_
     refine zM zQ zN [] rfl ?_
     all_goals simp only [push_cast,↓zK,↓zJ,↓reduceIte,zA,zB,zC,zD,zE,zF,zG,zH,zI,reduceCtorEq]
     all_goals repeat'(first|(apply zO<;>(intro hg;(try simp only [push_cast]at hg)))|apply And.intro|(intro hg;(try simp only [push_cast]at hg)))
     all_goals first|exact gA|(exact zP (by simp only [push_cast];omega))|(exact zP (by omega))|skip
     refine hL0 _ ⟨k+1,by omega,by omega,?_⟩
     rw [YT (by unfold akB;with_reducible assumption),ZJ (by unfold gvB;with_reducible assumption)]
     refine zb rfl ?_ ?_ ?_<;>simp only [zi,zh,push_cast,↓zK,↓zJ,↓reduceIte,zA,zB,zC,zD,zE,zF,zG,zH,zI,reduceCtorEq]
    ·
     refine zX ?_
     (try simp only [zR,zT,reduceIte,zF]);refine hK3 _ ?_
     refine zM zQ zN [] rfl ?_
     all_goals simp only [push_cast,↓zK,↓zJ,↓reduceIte,zA,zB,zC,zD,zE,zF,zG,zH,zI,reduceCtorEq]
     all_goals repeat'(first|(apply zO<;>(intro hg;(try simp only [push_cast]at hg)))|apply And.intro|(intro hg;(try simp only [push_cast]at hg)))
     all_goals first|exact gA|(exact zP (by simp only [push_cast];omega))|(exact zP (by omega))|skip
     refine hL0 _ ⟨k+1,by omega,by omega,?_⟩
     rw [YT (by unfold akB;with_reducible assumption),YX (by unfold gvB;with_reducible assumption)]
     refine zb rfl ?_ ?_ ?_<;>simp only [zi,zh,push_cast,↓zK,↓zJ,↓reduceIte,zA,zB,zC,zD,zE,zF,zG,zH,zI,reduceCtorEq]
  ·
   refine zn ?_
   have hkk:k=r.length:=by omega
   subst hkk
   have har9:=har r.length
   have hgr9:=hgr r.length
   (try simp only [zR,zT,reduceIte,zF]);refine hK1 _ ?_
   refine zL fun K5 hK5=> ?_
   refine zW ?_
   refine zL fun K hK=> ?_
   refine ze false zQ zN ?_ rfl ?_
   ·kernel_rfl
   all_goals simp only [push_cast,↓zK,↓zJ,↓reduceIte,zA,zB,zC,zD,zE,zF,zG,zH,zI,reduceCtorEq]
   all_goals repeat'(first|(apply zO<;>(intro hg;(try simp only [push_cast]at hg)))|apply And.intro|(intro hg;(try simp only [push_cast]at hg)))
   all_goals first|exact gA|(exact zP (by simp only [push_cast];omega))|(exact zP (by omega))|skip
   all_goals first|(refine hK _ ?_;clear hK K)|(simp only [push_cast];done)
   all_goals refine zV rfl (fun hc=> ?_) (fun hc=> ?_)
   all_goals(first|(cases hc;done)|skip)
   all_goals(try simp only [push_cast]at hc)
   all_goals first
    |(
      refine zL fun K hK=> ?_
      refine zM zQ zN [] rfl ?_
      all_goals simp only [push_cast,↓zK,↓zJ,↓reduceIte,zA,zB,zC,zD,zE,zF,zG,zH,zI,reduceCtorEq]
      all_goals repeat'(first|(apply zO<;>(intro hg;(try simp only [push_cast]at hg)))|apply And.intro|(intro hg;(try simp only [push_cast]at hg)))
      all_goals first|exact gA|(exact zP (by simp only [push_cast];omega))|(exact zP (by omega))|skip
      all_goals first|(refine hK _ ?_;clear hK K)|(simp only [push_cast];done)
      all_goals refine zV rfl (fun hc=> ?_) (fun hc=> ?_)
      all_goals(first|(cases hc;done)|skip)
      all_goals(try simp only [push_cast]at hc)
      all_goals(first|(exfalso;omega)|skip)
      all_goals first
       |(
         refine zX ?_
         (try simp only [zR,zT,reduceIte,zF]);refine hK5 _ ?_
         refine zL fun K hK=> ?_
         refine zM zQ zN [] rfl ?_
         all_goals simp only [push_cast,↓zK,↓zJ,↓reduceIte,zA,zB,zC,zD,zE,zF,zG,zH,zI,reduceCtorEq]
         all_goals repeat'(first|(apply zO<;>(intro hg;(try simp only [push_cast]at hg)))|apply And.intro|(intro hg;(try simp only [push_cast]at hg)))
         all_goals first|exact gA|(exact zP (by simp only [push_cast];omega))|(exact zP (by omega))|skip
         all_goals first|(refine hK _ ?_;clear hK K)|(simp only [push_cast];done)
         refine zZ ?_
         (try simp only [zR,zT])
         refine⟨Or.inl rfl,?_⟩
         simp only [zf,push_cast,↓zK,↓zJ,↓reduceIte,zA,zB,zC,zD,zE,zF,zG,zH,zI,reduceCtorEq]
         all_goals(unfold prV;split<;>(try split)<;>omega)
         done)
       |(
         refine zL fun K hK=> ?_
         refine zM zQ zN [] rfl ?_
         all_goals simp only [push_cast,↓zK,↓zJ,↓reduceIte,zA,zB,zC,zD,zE,zF,zG,zH,zI,reduceCtorEq]
         all_goals repeat'(first|(apply zO<;>(intro hg;(try simp only [push_cast]at hg)))|apply And.intro|(intro hg;(try simp only [push_cast]at hg)))
         all_goals first|exact gA|(exact zP (by simp only [push_cast];omega))|(exact zP (by omega))|skip
         all_goals first|(refine hK _ ?_;clear hK K)|(simp only [push_cast];done)
         refine zZ ?_
         (try simp only [zR,zT])
         refine⟨Or.inl rfl,?_⟩
         simp only [zf,push_cast,↓zK,↓zJ,↓reduceIte,zA,zB,zC,zD,zE,zF,zG,zH,zI,reduceCtorEq]
         all_goals(unfold prV;split<;>(try split)<;>omega)
         done)
      done)
    |(
      refine zL fun K hK=> ?_
      refine zM zQ zN [] rfl ?_
      all_goals simp only [push_cast,↓zK,↓zJ,↓reduceIte,zA,zB,zC,zD,zE,zF,zG,zH,zI,reduceCtorEq]
      all_goals repeat'(first|(apply zO<;>(intro hg;(try simp only [push_cast]at hg)))|apply And.intro|(intro hg;(try simp only [push_cast]at hg)))
      all_goals first|exact gA|(exact zP (by simp only [push_cast];omega))|(exact zP (by omega))|skip
      all_goals first|(refine hK _ ?_;clear hK K)|(simp only [push_cast];done)
      refine zZ ?_
      (try simp only [zR,zT])
      refine⟨Or.inl rfl,?_⟩
      simp only [zf,push_cast,↓zK,↓zJ,↓reduceIte,zA,zB,zC,zD,zE,zF,zG,zH,zI,reduceCtorEq]
      all_goals(unfold prV;split<;>(try split)<;>omega)
      done)
end Go.Proofs.Ytipplkjdmdlhpaa
