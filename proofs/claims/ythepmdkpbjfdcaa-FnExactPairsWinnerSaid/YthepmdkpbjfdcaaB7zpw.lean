/- lists of pairs of lists: the data, the laws' helpers -/
import Derived.Test.YthepmdkpbjfdcaaB6zpw
import Derived.Test.YthepmdkpbjfdcaaGDzpw
namespace Go.Proofs.Ythepmdkpbjfdcaa
open Nat renaming reduceMod → zA, reduceMul → zB, reduceDiv → zC, reduceAdd → zD, reduceSub → zE, reduceEqDiff → zF, reduceBEq → zG, reduceLT → zH, reduceLeDiff → zI
open Go.RowKit
set_option linter.unusedVariables false
set_option linter.unusedSimpArgs false
def ilv (ps:List Pr):List (List Int):=ps.flatMap fun p=> [p.ask,p.give]
def gp (ps:List Pr)(k:Nat):Pr:=ps.getD k ⟨[],[]⟩
theorem vY (p:Pr)(ps:List Pr):ilv (p::ps)=p.ask::p.give::ilv ps:=rfl
theorem m2d (n:Nat):n*2 / 2=n:=by omega
theorem xx (ps:List Pr):(ilv ps).length=ps.length*2:=by
 induction ps with
 |nil=>rfl
 |cons p ps ih=>rw [vY,List.length_cons,List.length_cons,ih,List.length_cons];omega
theorem zHf (ps:List Pr)(k:Nat):gl (ilv ps) (k*2)=(gp ps k).ask:=by
 induction ps generalizing k with
 |nil=>rfl
 |cons p ps ih=>
  cases k with
  |zero=>rfl
  |succ k=>rw [show(k+1)*2=k*2+1+1 from by omega,vY];exact ih k
theorem zHg (ps:List Pr)(k:Nat):gl (ilv ps) (k*2+1)=(gp ps k).give:=by
 induction ps generalizing k with
 |nil=>rfl
 |cons p ps ih=>
  cases k with
  |zero=>rfl
  |succ k=>rw [show(k+1)*2+1=k*2+1+1+1 from by omega,vY];exact ih k
theorem zGi {ps:List Pr}{k:Nat}(h:k<ps.length):ps[k]? =some (gp ps k):=by
 unfold gp
 rw [List.getD_eq_getElem?_getD,List.getElem?_eq_getElem h]
 rfl
theorem zJJ {ps:List Pr}{k:Nat}(h:k<ps.length):gp ps k∈ps:=List.mem_of_getElem? (zGi h)
theorem zA5 {ps:List Pr}{k:Nat}(h:k<ps.length):ps.take (k+1)=ps.take k++ [gp ps k]:=by rw [List.take_add_one,zGi h];rfl
attribute [push_cast] m2d xx zHf zHg
def cP (ps:List Pr):Nat:=vd (ilv ps)
theorem jx (ps qs:List Pr):ilv (ps++qs)=ilv ps++ilv qs:=List.flatMap_append ..
theorem zHD {ps:List Pr}{k:Nat}(h:k<ps.length):cP (ps.take (k+1))=cP (ps.take k)+(gp ps k).tot:=by
 unfold cP Pr.tot
 rw [zA5 h,jx,Jo]
 simp [ilv,vd]
theorem zCy (ps:List Pr)(k:Nat):cP (ps.take k)≤cP ps:=by
 have h:=List.take_append_drop k ps
 have h2:cP (ps.take k++ps.drop k)=cP (ps.take k)+cP (ps.drop k):=by unfold cP;rw [jx,Jo]
 rw [h]at h2
 omega
theorem zGU (ps:List Pr)(k:Nat):(ilv ps).take (k*2)=ilv (ps.take k):=by
 induction ps generalizing k with
 |nil=>simp [ilv]
 |cons p ps ih=>
  cases k with
  |zero=>simp [ilv]
  |succ k=>rw [show(k+1)*2=k*2+1+1 from by omega,vY,List.take_succ_cons,List.take_succ_cons,ih,List.take_succ_cons,vY]
theorem zFV (ps:List Pr)(k:Nat):(ilv ps).drop (k*2)=ilv (ps.drop k):=by
 induction ps generalizing k with
 |nil=>simp [ilv]
 |cons p ps ih=>
  cases k with
  |zero=>simp [ilv]
  |succ k=>rw [show(k+1)*2=k*2+1+1 from by omega,vY,List.drop_succ_cons,List.drop_succ_cons,ih,List.drop_succ_cons]
theorem zEu (ps:List Pr):(ilv ps).take (ps.length*2)=ilv ps:=List.take_of_length_le (by rw [xx];exact Nat.le_refl _)
attribute [push_cast] zEu
def PLn (B:Nat)(ps:List Pr):Prop:=ps.length≤B∧∀p∈ps,p.Ln B
def Vi (ps:List Pr):Nat:=ps.length+cP ps
theorem Yb {B:Nat}{ps:List Pr}(h:PLn B ps)(k:Nat):(gp ps k).Ln B:=by
 rcases Nat.lt_or_ge k ps.length with hk|hk
 ·exact h.2 _ (zJJ hk)
 ·unfold gp
  rw [List.getD_eq_getElem?_getD,List.getElem?_eq_none hk]
  exact⟨Nat.zero_le _,Nat.zero_le _⟩
theorem zIr {ps:List Pr}{p:Pr}(h:p∈ps):p.tot≤cP ps:=by
 induction ps with
 |nil=>simp at h
 |cons q ps ih=>
  have e:cP (q::ps)=q.tot+cP ps:=by unfold cP Pr.tot;rw [vY];simp [vd];omega
  rcases List.mem_cons.1 h with rfl|h
  ·omega
  ·have :=ih h;omega
theorem zIe {B:Nat}{ps:List Pr}(h:Vi ps≤B):PLn B ps:=by
 unfold Vi at h
 exact⟨by omega,fun p hp=>Pr.ln_of (by have :=zIr hp;omega)⟩
theorem PLn.mono {B C:Nat}(hB:B≤C){ps:List Pr}(h:PLn B ps):PLn C ps:=⟨Nat.le_trans h.1 hB,fun p hp=>Pr.ln_mono hB (h.2 p hp)⟩
def QC (ps:List Pr)(k:Nat):List Pr:=ps.take k++List.replicate (ps.length - k) ⟨[],[]⟩
theorem zF4 {ps:List Pr}{k:Nat}(h:k≤ps.length):(QC ps k).length=ps.length:=by simp [QC];omega
theorem zF3 (ps:List Pr):QC ps ps.length=ps:=by simp [QC]
theorem zF5 {ps:List Pr}{k:Nat}(h:k<ps.length):(QC ps k).set k (gp ps k)=QC ps (k+1):=by
 have hk:(ps.take k).length=k:=by rw [List.length_take];omega
 unfold QC
 rw [List.set_append_right _ _ (by omega),hk,Nat.sub_self,show ps.length - k=(ps.length - (k+1))+1 from by omega,List.replicate_succ,List.set_cons_zero,zA5 h,List.append_assoc]
 rfl
theorem zJe (ps:List Pr):(List.replicate ps.length [D.lst 2 [],D.lst 2 []]).flatten=dII (ilv (QC ps 0)):=by
 unfold QC
 rw [Nat.sub_zero,List.take_zero,List.nil_append]
 generalize ps.length=n
 induction n with
 |zero=>rfl
 |succ n ih=>rw [List.replicate_succ,List.flatten_cons,ih,List.replicate_succ,vY];rfl
theorem zFn {ps:List Pr}{k:Nat}{x y:List Int}(h:k<ps.length):dII (List.take (k*2) (ilv ps))++ [D.lst 2 (dI x),D.lst 2 (dI y)]++dII (List.drop (k*2+2) (ilv ps))=dII (ilv (ps.set k ⟨x,y⟩)):=by
 rw [show k*2+2=(k+1)*2 from by omega,zGU,zFV,List.set_eq_take_append_cons_drop,if_pos h,jx,vY]
 simp [dII]
def lz (l:Int)(ps:List Pr)(k:Nat):Int:=l - ps.length - cP (ps.take k)
theorem lz_0 (l:Int)(ps:List Pr):lz l ps 0=l - ps.length:=by unfold lz;rw [List.take_zero,show cP []=0 from rfl];omega
theorem lz_s {l:Int}{ps:List Pr}{k:Nat}(h:k<ps.length):lz l ps (k+1)=lz l ps k - (gp ps k).tot:=by unfold lz;rw [zHD h];omega
theorem zEP (l:Int)(ps:List Pr):lz l ps ps.length=l - Vi ps:=by unfold lz Vi;rw [List.take_length];omega
theorem zGm (l:Int)(ps:List Pr)(k:Nat):l - Vi ps≤lz l ps k∧lz l ps k≤l:=by have :=zCy ps k;unfold lz Vi;omega
theorem zJ3 {l:Int}{t:Nat}(hl:0≤l)(h:szl l t<0):l<t:=by
 by_cases h9:l<t
 ·exact h9
 ·rw [ql h9]at h;omega
theorem zEt {l:Int}{t:Nat}(h: ¬szl l t<0): ¬l<t:=fun h9=>h (by rw [xp h9];omega)
set_option maxRecDepth 20000 in
set_option maxHeartbeats 4000000 in
theorem zIJ (ps:List Pr)(l:Int)(h0:0≤l)(h1:l≤1048576)(ha:PLn 9223372036854775807 ps):Fn Try.prog tyT 10 [.c (.lst 82 (dII (ilv ps))), .c (.int .i64 l)] [.c (.int .i64 (szl l (Vi ps)))]:=by
 have hl:=ha.1
 have hQ:=fun k (m:Int) (g1:0≤m) (g2:m≤1048576)=>zIK (gp ps k) m g1 g2 (Yb ha k)
 unfold dPr at hQ
 refine zw (fn:=Try.f10) (ts:= [4]) Try.func10 (by kernel_rfl) rfl rfl (by rw [Try.ntmps10];exact Nat.le_of_ble_eq_true rfl) rfl (by simp only [szA,List.mem_cons,List.not_mem_nil,or_false,forall_eq_or_imp,forall_eq,VT.cells,szL];try decide) ?_
 rw [Try.ntmps10]
 simp only [push_cast,↓zK,↓zJ,↓reduceIte,zA,zB,zC,zD,zE,zF,zG,zH,zI,reduceCtorEq]
 refine zL fun K hK=> ?_
 refine zM zO zN [] rfl ?_
 all_goals simp only [push_cast,↓zK,↓zJ,↓reduceIte,zA,zB,zC,zD,zE,zF,zG,zH,zI,reduceCtorEq]
 all_goals repeat'(first|(apply zP<;>(intro hg;(try simp only [push_cast]at hg)))|apply And.intro|(intro hg;(try simp only [push_cast]at hg)))
 all_goals first|exact gA|(exact zQ (by simp only [push_cast];omega))|skip
 all_goals first|(refine hK _ ?_;clear hK K)|(simp only [push_cast];done)
 refine zL fun K hK=> ?_
 refine zM zO zN [] rfl ?_
 all_goals simp only [push_cast,↓zK,↓zJ,↓reduceIte,zA,zB,zC,zD,zE,zF,zG,zH,zI,reduceCtorEq]
 all_goals repeat'(first|(apply zP<;>(intro hg;(try simp only [push_cast]at hg)))|apply And.intro|(intro hg;(try simp only [push_cast]at hg)))
 all_goals first|exact gA|(exact zQ (by simp only [push_cast];omega))|skip
 all_goals first|(refine hK _ ?_;clear hK K)|(simp only [push_cast];done)
 refine zL fun K1 hK1=> ?_
 refine zL fun K hK=> ?_
 refine zM zO zN [] rfl ?_
 all_goals simp only [push_cast,↓zK,↓zJ,↓reduceIte,zA,zB,zC,zD,zE,zF,zG,zH,zI,reduceCtorEq]
 all_goals repeat'(first|(apply zP<;>(intro hg;(try simp only [push_cast]at hg)))|apply And.intro|(intro hg;(try simp only [push_cast]at hg)))
 all_goals first|exact gA|(exact zQ (by simp only [push_cast];omega))|skip
 all_goals first|(refine hK _ ?_;clear hK K)|(simp only [push_cast];done)
 refine zU rfl (fun hc=> ?_) (fun hc=> ?_)<;>(try simp only [push_cast]at hc)
 ·
  refine zL fun K hK=> ?_
  refine zM zO zN [] rfl ?_
  all_goals simp only [push_cast,↓zK,↓zJ,↓reduceIte,zA,zB,zC,zD,zE,zF,zG,zH,zI,reduceCtorEq]
  all_goals repeat'(first|(apply zP<;>(intro hg;(try simp only [push_cast]at hg)))|apply And.intro|(intro hg;(try simp only [push_cast]at hg)))
  all_goals first|exact gA|(exact zQ (by simp only [push_cast];omega))|skip
  all_goals first|(refine hK _ ?_;clear hK K)|(simp only [push_cast];done)
  refine zX ?_
  (try simp only [zR,zS])
  refine⟨Or.inl rfl,?_⟩
  simp only [zd,push_cast,↓zK,↓zJ,↓reduceIte,zA,zB,zC,zD,zE,zF,zG,zH,zI,reduceCtorEq]
  rw [xp (by unfold Vi;omega)]
 ·
  refine zV ?_
  (try simp only [zR,zS,reduceIte,zF]);refine hK1 _ ?_
  refine zL fun K2 hK2=> ?_
  refine zL fun K hK=> ?_
  refine zM zO zN [] rfl ?_
  all_goals simp only [push_cast,↓zK,↓zJ,↓reduceIte,zA,zB,zC,zD,zE,zF,zG,zH,zI,reduceCtorEq]
  all_goals repeat'(first|(apply zP<;>(intro hg;(try simp only [push_cast]at hg)))|apply And.intro|(intro hg;(try simp only [push_cast]at hg)))
  all_goals first|exact gA|(exact zQ (by simp only [push_cast];omega))|skip
  all_goals first|(refine hK _ ?_;clear hK K)|(simp only [push_cast];done)
  refine zW ?_
  refine zi [1,4,5,12,13,14,15,16,17,18,19,20,21,22,23,24,25] [] (fun(k:Nat)=> [(5, .int .i64 k),(1, .int .i64 (lz l ps k))]) (fun k=> []) (fun k=> []) (fun k=>k≤ps.length∧0≤lz l ps k) (fun k=>ps.length - k) 0 ?_ ⟨by omega,by rw [lz_0];omega⟩ ?_
  ·
   rw [lz_0]
   refine zY rfl ?_ ?_ ?_<;>simp only [zf,ze,push_cast,↓zK,↓zJ,↓reduceIte,zA,zB,zC,zD,zE,zF,zG,zH,zI,reduceCtorEq]
  ·rintro k ⟨hk,hm⟩ KL0 hL0
   have hlz:=zGm l ps k
   simp only [push_cast,↓zK,↓zJ,↓reduceIte,zA,zB,zC,zD,zE,zF,zG,zH,zI,reduceCtorEq]
   refine zL fun K3 hK3=> ?_
   refine zL fun K hK=> ?_
   refine zM zO zN [] rfl ?_
   all_goals simp only [push_cast,↓zK,↓zJ,↓reduceIte,zA,zB,zC,zD,zE,zF,zG,zH,zI,reduceCtorEq]
   all_goals repeat'(first|(apply zP<;>(intro hg;(try simp only [push_cast]at hg)))|apply And.intro|(intro hg;(try simp only [push_cast]at hg)))
   all_goals first|exact gA|(exact zQ (by simp only [push_cast];omega))|skip
   all_goals first|(refine hK _ ?_;clear hK K)|(simp only [push_cast];done)
   refine zU rfl (fun hc=> ?_) (fun hc=> ?_)<;>(try simp only [push_cast]at hc)
   ·
    refine zV ?_
    (try simp only [zR,zS,reduceIte,zF]);refine hK3 _ ?_
    refine zL fun K4 hK4=> ?_
    refine zW ?_
    refine zL fun K hK=> ?_
    refine zM zO zN [] rfl ?_
    all_goals refine zo 6 fun K9 hK9=> ?_
    all_goals simp only [push_cast,↓zK,↓zJ,↓reduceIte,zA,zB,zC,zD,zE,zF,zG,zH,zI,reduceCtorEq]
    all_goals repeat'(first|(apply zP<;>(intro hg;(try simp only [push_cast]at hg)))|(refine⟨_,hQ k (lz l ps k) (by omega) (by omega),?_⟩;simp only [push_cast,↓zK,↓zJ,↓reduceIte,zA,zB,zC,zD,zE,zF,zG,zH,zI,reduceCtorEq])|apply And.intro|(intro hg;(try simp only [push_cast]at hg)))
    all_goals first|exact gA|(exact zQ (by simp only [push_cast];omega))|skip
    all_goals first|(refine hK9 _ ?_;clear hK9 K9)|(simp only [push_cast];done)
    all_goals simp only [push_cast,↓zK,↓zJ,↓reduceIte,zA,zB,zC,zD,zE,zF,zG,zH,zI,reduceCtorEq]
    all_goals repeat'(first|(apply zP<;>(intro hg;(try simp only [push_cast]at hg)))|(refine⟨_,hQ k (lz l ps k) (by omega) (by omega),?_⟩;simp only [push_cast,↓zK,↓zJ,↓reduceIte,zA,zB,zC,zD,zE,zF,zG,zH,zI,reduceCtorEq])|apply And.intro|(intro hg;(try simp only [push_cast]at hg)))
    all_goals first|exact gA|(exact zQ (by simp only [push_cast];omega))|skip
    all_goals first|(refine hK _ ?_;clear hK K)|(simp only [push_cast];done)
    refine zL fun K hK=> ?_
    refine zM zO zN [] rfl ?_
    all_goals simp only [push_cast,↓zK,↓zJ,↓reduceIte,zA,zB,zC,zD,zE,zF,zG,zH,zI,reduceCtorEq]
    all_goals repeat'(first|(apply zP<;>(intro hg;(try simp only [push_cast]at hg)))|apply And.intro|(intro hg;(try simp only [push_cast]at hg)))
    all_goals first|exact gA|(exact zQ (by simp only [push_cast];omega))|skip
    all_goals first|(refine hK _ ?_;clear hK K)|(simp only [push_cast];done)
    refine zU rfl (fun hc=> ?_) (fun hc=> ?_)<;>(try simp only [push_cast]at hc)
    ·
     refine zL fun K hK=> ?_
     refine zM zO zN [] rfl ?_
     all_goals simp only [push_cast,↓zK,↓zJ,↓reduceIte,zA,zB,zC,zD,zE,zF,zG,zH,zI,reduceCtorEq]
     all_goals repeat'(first|(apply zP<;>(intro hg;(try simp only [push_cast]at hg)))|apply And.intro|(intro hg;(try simp only [push_cast]at hg)))
     all_goals first|exact gA|(exact zQ (by simp only [push_cast];omega))|skip
     all_goals first|(refine hK _ ?_;clear hK K)|(simp only [push_cast];done)
     refine zX ?_
     (try simp only [zR,zS])
     refine⟨Or.inl rfl,?_⟩
     simp only [zd,push_cast,↓zK,↓zJ,↓reduceIte,zA,zB,zC,zD,zE,zF,zG,zH,zI,reduceCtorEq]
     have h8:=zJ3 hm hc
     have h7:=zGm l ps (k+1)
     rw [lz_s (by omega)]at h7
     rw [xp (by omega)]
    ·
     refine zV ?_
     (try simp only [zR,zS,reduceIte,zF]);refine hK4 _ ?_
     refine zM zO zN [] rfl ?_
     all_goals simp only [push_cast,↓zK,↓zJ,↓reduceIte,zA,zB,zC,zD,zE,zF,zG,zH,zI,reduceCtorEq]
     all_goals repeat'(first|(apply zP<;>(intro hg;(try simp only [push_cast]at hg)))|apply And.intro|(intro hg;(try simp only [push_cast]at hg)))
     all_goals first|exact gA|(exact zQ (by simp only [push_cast];omega))|skip
     refine hL0 _ ⟨k+1,⟨by omega,by rw [lz_s (by omega)];have :=zEt hc;omega⟩,by omega,?_⟩
     rw [ql (zEt hc),←lz_s (by omega)]
     refine zY rfl ?_ ?_ ?_<;>simp only [zf,ze,push_cast,↓zK,↓zJ,↓reduceIte,zA,zB,zC,zD,zE,zF,zG,zH,zI,reduceCtorEq]
   ·
    refine zk ?_
    have hkk:k=ps.length:=by omega
    subst hkk
    rw [zEP]
    rw [zEP]at hm
    (try simp only [zR,zS,reduceIte,zF]);refine hK2 _ ?_
    refine zL fun K hK=> ?_
    refine zM zO zN [] rfl ?_
    all_goals simp only [push_cast,↓zK,↓zJ,↓reduceIte,zA,zB,zC,zD,zE,zF,zG,zH,zI,reduceCtorEq]
    all_goals repeat'(first|(apply zP<;>(intro hg;(try simp only [push_cast]at hg)))|apply And.intro|(intro hg;(try simp only [push_cast]at hg)))
    all_goals first|exact gA|(exact zQ (by simp only [push_cast];omega))|skip
    all_goals first|(refine hK _ ?_;clear hK K)|(simp only [push_cast];done)
    refine zX ?_
    (try simp only [zR,zS])
    refine⟨Or.inl rfl,?_⟩
    simp only [zd,push_cast,↓zK,↓zJ,↓reduceIte,zA,zB,zC,zD,zE,zF,zG,zH,zI,reduceCtorEq]
    rw [ql (by omega)]
set_option maxRecDepth 20000 in
set_option maxHeartbeats 4000000 in
theorem kU (ps:List Pr)(ha:PLn 1048576 ps):Fn Try.prog tyT 13 [.c (.lst 82 (dII (ilv ps)))] [.c (.lst 90 (dII (ilv ps)))]:=by
 have hl:=ha.1
 have hQ:=fun k=>zIR (gp ps k) (Yb ha k)
 unfold dPr at hQ
 refine zw (fn:=Try.f13) (ts:= [2]) Try.func13 (by kernel_rfl) rfl rfl (by rw [Try.ntmps13];exact Nat.le_of_ble_eq_true rfl) rfl (by simp only [szA,List.mem_cons,List.not_mem_nil,or_false,forall_eq_or_imp,forall_eq,VT.cells,szL];try decide) ?_
 rw [Try.ntmps13]
 simp only [push_cast,↓zK,↓zJ,↓reduceIte,zA,zB,zC,zD,zE,zF,zG,zH,zI,reduceCtorEq]
 refine zL fun K hK=> ?_
 refine zM zO zN [] rfl ?_
 all_goals simp only [push_cast,↓zK,↓zJ,↓reduceIte,zA,zB,zC,zD,zE,zF,zG,zH,zI,reduceCtorEq]
 all_goals repeat'(first|(apply zP<;>(intro hg;(try simp only [push_cast]at hg)))|apply And.intro|(intro hg;(try simp only [push_cast]at hg)))
 all_goals first|exact gA|(exact zQ (by simp only [push_cast];omega))|skip
 all_goals first|(refine hK _ ?_;clear hK K)|(simp only [push_cast];done)
 refine zL fun K hK=> ?_
 refine zM zO zN [] rfl ?_
 all_goals simp only [push_cast,↓zK,↓zJ,↓reduceIte,zA,zB,zC,zD,zE,zF,zG,zH,zI,reduceCtorEq]
 all_goals repeat'(first|(apply zP<;>(intro hg;(try simp only [push_cast]at hg)))|apply And.intro|(intro hg;(try simp only [push_cast]at hg)))
 all_goals first|exact gA|(exact zQ (by simp only [push_cast];omega))|skip
 all_goals first|(refine hK _ ?_;clear hK K)|(simp only [push_cast];done)
 refine zL fun K1 hK1=> ?_
 refine zL fun K hK=> ?_
 refine zM zO zN [] rfl ?_
 all_goals simp only [push_cast,↓zK,↓zJ,↓reduceIte,zA,zB,zC,zD,zE,zF,zG,zH,zI,reduceCtorEq]
 all_goals repeat'(first|(apply zP<;>(intro hg;(try simp only [push_cast]at hg)))|apply And.intro|(intro hg;(try simp only [push_cast]at hg)))
 all_goals first|exact gA|(exact zQ (by simp only [push_cast];omega))|skip
 all_goals first|(refine hK _ ?_;clear hK K)|(simp only [push_cast];done)
 refine zW ?_
 refine zi [3,4,8,9,10,11,12,13,14,15,16,17,18,19,20,21] [48] (fun(k:Nat)=> [(4, .int .i64 k),(3, .sl 48 [] 0 ps.length 90)]) (fun k=> []) (fun k=> [(48,⟨.ex,90,dII (ilv (QC ps k)),none⟩)]) (fun k=>k≤ps.length) (fun k=>ps.length - k) 0 ?_ (by omega) ?_
 ·
  rw [zJe]
  refine zY rfl ?_ ?_ ?_<;>simp only [zf,ze,push_cast,↓zK,↓zJ,↓reduceIte,zA,zB,zC,zD,zE,zF,zG,zH,zI,reduceCtorEq]
 ·rintro k hk KL0 hL0
  have hpl:=zF4 hk
  simp only [push_cast,↓zK,↓zJ,↓reduceIte,zA,zB,zC,zD,zE,zF,zG,zH,zI,reduceCtorEq]
  refine zL fun K2 hK2=> ?_
  refine zL fun K hK=> ?_
  refine zM zO zN [] rfl ?_
  all_goals simp only [push_cast,↓zK,↓zJ,↓reduceIte,zA,zB,zC,zD,zE,zF,zG,zH,zI,reduceCtorEq]
  all_goals repeat'(first|(apply zP<;>(intro hg;(try simp only [push_cast]at hg)))|apply And.intro|(intro hg;(try simp only [push_cast]at hg)))
  all_goals first|exact gA|(exact zQ (by simp only [push_cast];omega))|skip
  all_goals first|(refine hK _ ?_;clear hK K)|(simp only [push_cast];done)
  refine zU rfl (fun hc=> ?_) (fun hc=> ?_)<;>(try simp only [push_cast]at hc)
  ·
   refine zV ?_
   (try simp only [zR,zS,reduceIte,zF]);refine hK2 _ ?_
   refine zL fun K3 hK3=> ?_
   refine zW ?_
   refine zj true zO zN ?_ rfl ?_
   ·kernel_rfl
   simp only [push_cast,↓zK,↓zJ,↓reduceIte,zA,zB,zC,zD,zE,zF,zG,zH,zI,reduceCtorEq]
   all_goals repeat'(first|(apply zP<;>(intro hg;(try simp only [push_cast]at hg)))|(refine⟨_,hQ k,?_⟩;simp only [push_cast,↓zK,↓zJ,↓reduceIte,zA,zB,zC,zD,zE,zF,zG,zH,zI,reduceCtorEq])|apply And.intro|(intro hg;(try simp only [push_cast]at hg)))
   all_goals first|exact gA|(exact zQ (by simp only [push_cast];omega))|skip
   (try simp only [zR,zS,reduceIte,zF]);refine hK3 _ ?_
   refine zM zO zN [] rfl ?_
   all_goals simp only [push_cast,↓zK,↓zJ,↓reduceIte,zA,zB,zC,zD,zE,zF,zG,zH,zI,reduceCtorEq]
   all_goals repeat'(first|(apply zP<;>(intro hg;(try simp only [push_cast]at hg)))|apply And.intro|(intro hg;(try simp only [push_cast]at hg)))
   all_goals first|exact gA|(exact zQ (by simp only [push_cast];omega))|skip
   refine hL0 _ ⟨k+1,by omega,by omega,?_⟩
   rw [zFn (by omega),zF5 (by omega)]
   refine zY rfl ?_ ?_ ?_<;>simp only [zf,ze,push_cast,↓zK,↓zJ,↓reduceIte,zA,zB,zC,zD,zE,zF,zG,zH,zI,reduceCtorEq]
  ·
   refine zk ?_
   have hkk:k=ps.length:=by omega
   subst hkk
   rw [zF3]
   (try simp only [zR,zS,reduceIte,zF]);refine hK1 _ ?_
   refine zL fun K hK=> ?_
   refine zM zO zN [] rfl ?_
   all_goals simp only [push_cast,↓zK,↓zJ,↓reduceIte,zA,zB,zC,zD,zE,zF,zG,zH,zI,reduceCtorEq]
   all_goals repeat'(first|(apply zP<;>(intro hg;(try simp only [push_cast]at hg)))|apply And.intro|(intro hg;(try simp only [push_cast]at hg)))
   all_goals first|exact gA|(exact zQ (by simp only [push_cast];omega))|skip
   all_goals first|(refine hK _ ?_;clear hK K)|(simp only [push_cast];done)
   refine zX ?_
   (try simp only [zR,zS])
   refine⟨Or.inl rfl,?_⟩
   simp only [zd,push_cast,↓zK,↓zJ,↓reduceIte,zA,zB,zC,zD,zE,zF,zG,zH,zI,reduceCtorEq]
set_option maxRecDepth 20000 in
set_option maxHeartbeats 4000000 in
theorem zHY (ps:List Pr)(ha:PLn 1048576 ps):Fn Try.prog tyT 16 [.c (.lst 90 (dII (ilv ps))), .c (.lst 90 (dII (ilv ps)))] [.c (.bool true)]:=by
 have hl:=ha.1
 have hQ:=fun k=>zHZ (gp ps k) (Yb ha k)
 unfold dPr at hQ
 refine zw (fn:=Try.f16) (ts:= [4]) Try.func16 (by kernel_rfl) rfl rfl (by rw [Try.ntmps16];exact Nat.le_of_ble_eq_true rfl) rfl (by simp only [szA,List.mem_cons,List.not_mem_nil,or_false,forall_eq_or_imp,forall_eq,VT.cells,szL];try decide) ?_
 rw [Try.ntmps16]
 simp only [push_cast,↓zK,↓zJ,↓reduceIte,zA,zB,zC,zD,zE,zF,zG,zH,zI,reduceCtorEq]
 refine zL fun K hK=> ?_
 refine zM zO zN [] rfl ?_
 all_goals simp only [push_cast,↓zK,↓zJ,↓reduceIte,zA,zB,zC,zD,zE,zF,zG,zH,zI,reduceCtorEq]
 all_goals repeat'(first|(apply zP<;>(intro hg;(try simp only [push_cast]at hg)))|apply And.intro|(intro hg;(try simp only [push_cast]at hg)))
 all_goals first|exact gA|(exact zQ (by simp only [push_cast];omega))|skip
 all_goals first|(refine hK _ ?_;clear hK K)|(simp only [push_cast];done)
 refine zL fun K1 hK1=> ?_
 refine zL fun K hK=> ?_
 refine zM zO zN [] rfl ?_
 all_goals simp only [push_cast,↓zK,↓zJ,↓reduceIte,zA,zB,zC,zD,zE,zF,zG,zH,zI,reduceCtorEq]
 all_goals repeat'(first|(apply zP<;>(intro hg;(try simp only [push_cast]at hg)))|apply And.intro|(intro hg;(try simp only [push_cast]at hg)))
 all_goals first|exact gA|(exact zQ (by simp only [push_cast];omega))|skip
 all_goals first|(refine hK _ ?_;clear hK K)|(simp only [push_cast];done)
 refine zU rfl (fun hc=> ?_) (fun hc=> ?_)
 skip
 ·exfalso;first|(cases hc;done)|(simp only [push_cast]at hc;done)|(simp only [push_cast]at hc;omega)|omega
 refine zV ?_
 (try simp only [zR,zS,reduceIte,zF]);refine hK1 _ ?_
 refine zL fun K2 hK2=> ?_
 refine zL fun K hK=> ?_
 refine zM zO zN [] rfl ?_
 all_goals simp only [push_cast,↓zK,↓zJ,↓reduceIte,zA,zB,zC,zD,zE,zF,zG,zH,zI,reduceCtorEq]
 all_goals repeat'(first|(apply zP<;>(intro hg;(try simp only [push_cast]at hg)))|apply And.intro|(intro hg;(try simp only [push_cast]at hg)))
 all_goals first|exact gA|(exact zQ (by simp only [push_cast];omega))|skip
 all_goals first|(refine hK _ ?_;clear hK K)|(simp only [push_cast];done)
 refine zW ?_
 refine zi [4,5,11,12,13,14,15,16,17,18,19,20,21,22,23,24,25,26] [] (fun(k:Nat)=> [(5, .int .i64 k)]) (fun k=> []) (fun k=> []) (fun k=>k≤ps.length) (fun k=>ps.length - k) 0 ?_ (by omega) ?_
 ·
  refine zY rfl ?_ ?_ ?_<;>simp only [zf,ze,push_cast,↓zK,↓zJ,↓reduceIte,zA,zB,zC,zD,zE,zF,zG,zH,zI,reduceCtorEq]
 ·rintro k hk KL0 hL0
  simp only [push_cast,↓zK,↓zJ,↓reduceIte,zA,zB,zC,zD,zE,zF,zG,zH,zI,reduceCtorEq]
  refine zL fun K3 hK3=> ?_
  refine zL fun K hK=> ?_
  refine zM zO zN [] rfl ?_
  all_goals simp only [push_cast,↓zK,↓zJ,↓reduceIte,zA,zB,zC,zD,zE,zF,zG,zH,zI,reduceCtorEq]
  all_goals repeat'(first|(apply zP<;>(intro hg;(try simp only [push_cast]at hg)))|apply And.intro|(intro hg;(try simp only [push_cast]at hg)))
  all_goals first|exact gA|(exact zQ (by simp only [push_cast];omega))|skip
  all_goals first|(refine hK _ ?_;clear hK K)|(simp only [push_cast];done)
  refine zU rfl (fun hc=> ?_) (fun hc=> ?_)<;>(try simp only [push_cast]at hc)
  ·
   refine zV ?_
   (try simp only [zR,zS,reduceIte,zF]);refine hK3 _ ?_
   refine zL fun K4 hK4=> ?_
   refine zW ?_
   refine zL fun K hK=> ?_
   refine xN false zO zN qb ?_ rfl ?_
   ·kernel_rfl
   intro E hE
   all_goals refine vz 9 (by decide) fun K9 hK9=> ?_
   all_goals simp only [push_cast,↓zK,↓zJ,↓reduceIte,zA,zB,zC,zD,zE,zF,zG,zH,zI,reduceCtorEq]
   all_goals repeat'(first|(apply zP<;>(intro hg;(try simp only [push_cast]at hg)))|(refine⟨_,hQ k,?_⟩;simp only [push_cast,↓zK,↓zJ,↓reduceIte,zA,zB,zC,zD,zE,zF,zG,zH,zI,reduceCtorEq])|apply And.intro|(intro hg;(try simp only [push_cast]at hg)))
   all_goals first|exact gA|(exact zQ (by simp only [push_cast];omega))|skip
   all_goals first|(refine hK9 _ _ ?_;clear hK9 K9)|(simp only [push_cast];done)
   all_goals simp only [push_cast,↓zK,↓zJ,↓reduceIte,zA,zB,zC,zD,zE,zF,zG,zH,zI,reduceCtorEq]
   all_goals repeat'(first|(apply zP<;>(intro hg;(try simp only [push_cast]at hg)))|(refine⟨_,hQ k,?_⟩;simp only [push_cast,↓zK,↓zJ,↓reduceIte,zA,zB,zC,zD,zE,zF,zG,zH,zI,reduceCtorEq])|apply And.intro|(intro hg;(try simp only [push_cast]at hg)))
   all_goals first|exact gA|(refine hE _ _ ?_ ?_;kernel_rfl)|(exact zQ (by simp only [push_cast];omega))|skip
   all_goals clear hE E
   all_goals first|(refine hK _ ?_;clear hK K)|(simp only [push_cast];done)
   refine zU rfl (fun hc=> ?_) (fun hc=> ?_)
   skip
   ·exfalso;first|(cases hc;done)|(simp only [push_cast]at hc;done)|(simp only [push_cast]at hc;omega)|omega
   refine zV ?_
   (try simp only [zR,zS,reduceIte,zF]);refine hK4 _ ?_
   refine zM zO zN [] rfl ?_
   all_goals simp only [push_cast,↓zK,↓zJ,↓reduceIte,zA,zB,zC,zD,zE,zF,zG,zH,zI,reduceCtorEq]
   all_goals repeat'(first|(apply zP<;>(intro hg;(try simp only [push_cast]at hg)))|apply And.intro|(intro hg;(try simp only [push_cast]at hg)))
   all_goals first|exact gA|(exact zQ (by simp only [push_cast];omega))|skip
   refine hL0 _ ⟨k+1,by omega,by omega,?_⟩
   refine zY rfl ?_ ?_ ?_<;>simp only [zf,ze,push_cast,↓zK,↓zJ,↓reduceIte,zA,zB,zC,zD,zE,zF,zG,zH,zI,reduceCtorEq]
  ·
   refine zk ?_
   (try simp only [zR,zS,reduceIte,zF]);refine hK2 _ ?_
   refine zL fun K hK=> ?_
   refine zM zO zN [] rfl ?_
   all_goals simp only [push_cast,↓zK,↓zJ,↓reduceIte,zA,zB,zC,zD,zE,zF,zG,zH,zI,reduceCtorEq]
   all_goals repeat'(first|(apply zP<;>(intro hg;(try simp only [push_cast]at hg)))|apply And.intro|(intro hg;(try simp only [push_cast]at hg)))
   all_goals first|exact gA|(exact zQ (by simp only [push_cast];omega))|skip
   all_goals first|(refine hK _ ?_;clear hK K)|(simp only [push_cast];done)
   refine zX ?_
   (try simp only [zR,zS])
   refine⟨Or.inl rfl,?_⟩
   simp only [zd,push_cast,↓zK,↓zJ,↓reduceIte,zA,zB,zC,zD,zE,zF,zG,zH,zI,reduceCtorEq]
open Go.ChangeShapes Go.WideShapes Go.ChangeAt Go.RowKit Go.Deep Go.Joins
theorem zCB : ∀(dss:List (List D)),(∀ds∈dss,∃p:Pr,ds=dPr p∧p.Ln 9223372036854775807)→∃ps:List Pr,dss.flatten=dII (ilv ps)∧ps.length=dss.length∧∀p∈ps,p.Ln 9223372036854775807
 | [],_=>⟨[],rfl,rfl,fun p hp=>by simp at hp⟩
 |ds::dss,h=>by
  obtain⟨p,rfl,hp⟩:=h ds (by simp)
  obtain⟨ps,e,hl,hb⟩:=zCB dss (fun d hd=>h d (by simp [hd]))
  refine⟨p::ps,by rw [List.flatten_cons,e];rfl,by simp [hl],fun x hx=> ?_⟩
  rcases List.mem_cons.1 hx with rfl|hx
  ·exact hp
  ·exact hb x hx
section
variable {H:Type} {enc:TypeId×Value→H} {W:World} {lo:Nat}
set_option maxRecDepth 100000 in
theorem zH1 {fuel:Nat}{cs:List Value}{x:DataW H×List MemPlace}(h:Tro enc W fuel 26 cs x): ∃v ps,cs= [v]∧RpN lo W (.lst 82 (dII (ilv ps))) v∧PLn 9223372036854775807 ps:=by
 obtain⟨v,dss,rfl,h1,h2,h3⟩:=zAh (lo:=lo) (k:=2) Try.underlying26 (by omega) zGw (by kernel_rfl) (Q:=fun ds=> ∃p:Pr,ds=dPr p∧p.Ln 9223372036854775807) (fun n cs y hy=>by
  obtain⟨p,h1,-,h2⟩:=zH2 (lo:=lo) hy
  exact⟨dPr p,h1,p,rfl,h2⟩) h
 obtain⟨ps,e,hl,hb⟩:=zCB dss (fun ds hds=>(h3 ds hds).1)
 rw [e]at h1
 exact⟨v,ps,rfl,h1,by omega,hb⟩
set_option maxRecDepth 100000 in
theorem zIq {base:Nat}{v:Value}{d:DataW H}{p:List MemPlace}(hv:Value.okWide Try.prog W .any base 26 v)(h:DataW.Trod enc Try.prog W 0 (fun _=>true) true 26 v d p): ∃ps,Zi (sz tyT) lo W (fun _=>none) (.c (.lst 82 (dII (ilv ps)))) v∧True∧PLn 9223372036854775807 ps:=by
 obtain⟨A,n,c,rfl⟩:=okWide_slice Try.underlying26 hv
 obtain⟨fuel,hf⟩:=h
 obtain⟨v',n',e,h1,h2⟩:=zH1 (lo:=lo) hf
 simp only [Value.cells,List.cons.injEq,and_true]at e
 subst e
 exact⟨n',h1,trivial,h2⟩
end
structure PG where
 own:Nat→Int
 pr:Nat→Nat
 E:Nat→Nat→Prop
inductive Wk (R:Nat→Nat→Prop)(pr:Nat→Nat):Nat→Nat→Nat→Prop
 |one {v u:Nat}:R v u→Wk R pr v u (pr v)
 |cons {v x u t:Nat}:R v x→Wk R pr x u t→Wk R pr v u (max (pr v) t)
theorem Wk.mono {R R':Nat→Nat→Prop}{pr:Nat→Nat}(h: ∀v u,R v u→R' v u){v u t:Nat}(w:Wk R pr v u t):Wk R' pr v u t:=by
 induction w with
 |one h1=>exact .one (h _ _ h1)
 |cons h1 _ ih=>exact .cons (h _ _ h1) ih
theorem Wk.app {R:Nat→Nat→Prop}{pr:Nat→Nat}{v x u s t:Nat}(a:Wk R pr v x s)(b:Wk R pr x u t):Wk R pr v u (max s t):=by
 induction a with
 |one h1=>exact .cons h1 b
 |cons h1 _ ih=>rw [Nat.max_assoc];exact .cons h1 (ih b)
theorem Wk.le {R:Nat→Nat→Prop}{pr:Nat→Nat}{top:Nat}(h: ∀v u,R v u→pr v≤top){v u t:Nat}(w:Wk R pr v u t):t≤top:=by
 induction w with
 |one h1=>exact h _ _ h1
 |cons h1 _ ih=>exact Nat.max_le.2 ⟨h _ _ h1,ih⟩
def SR (g:PG)(who:Int)(U:Nat→Prop)(s:Nat→Nat)(v u:Nat):Prop:=U v∧U u∧g.E v u∧(g.own v=who→u=s v)
structure xi (g:PG)(who:Int)(D U:Nat→Prop)(s:Nat→Nat):Prop where
 sub: ∀v,U v→D v
 own: ∀v,U v→g.own v=who→g.E v (s v)∧U (s v)
 opp: ∀v u,U v→¬g.own v=who→g.E v u→D u→U u
 good: ∀v t,Wk (SR g who U s) g.pr v v t→(t:Int)%2=who
def qU (g:PG)(who:Int)(D goal:Nat→Prop):Nat→Nat→Prop
 |0,v=>D v∧goal v
 |k+1,v=>qU g who D goal k v∨(D v∧((g.own v=who∧∃u,g.E v u∧qU g who D goal k u)∨(¬g.own v=who∧(∃u,g.E v u∧D u)∧∀u,g.E v u→D u→qU g who D goal k u)))
def Att (g:PG)(who:Int)(D goal:Nat→Prop)(v:Nat):Prop:= ∃k,qU g who D goal k v
section
variable {g:PG} {who:Int} {D goal:Nat→Prop}
theorem qU.inD {v:Nat}: ∀{k:Nat},qU g who D goal k v→D v
 |0,h=>h.1
 |k+1,h=>by
  rcases h with h|h
  ·exact qU.inD h
  ·exact h.1
theorem qU.up {v:Nat}{j:Nat}(h:qU g who D goal j v): ∀k,j≤k→qU g who D goal k v
 |0,hk=>by rw [show j=0 by omega]at h;exact h
 |k+1,hk=>by
  by_cases e:j=k+1
  ·rw [←e];exact h
  ·exact .inl (qU.up h k (by omega))
theorem uM {P:Nat→Prop}: ∀n,P n→∃k,P k∧∀j,j<k→¬P j:=by
 intro n
 induction n using Nat.strongRecOn with
 |ind n ih=>
  intro h
  by_cases h2: ∃j,j<n∧P j
  ·obtain⟨j,hj,hp⟩:=h2
   exact ih j hj hp
  ·exact⟨n,h,fun j hj hp=>h2 ⟨j,hj,hp⟩⟩
open Classical in
noncomputable def rk (g:PG)(who:Int)(D goal:Nat→Prop)(v:Nat):Nat:=if h: ∃k,qU g who D goal k v∧∀j,j<k→¬qU g who D goal j v then h.choose else 0
theorem zCV {v:Nat}(h:Att g who D goal v):qU g who D goal (rk g who D goal v) v∧∀j,j<rk g who D goal v→¬qU g who D goal j v:=by
 obtain⟨n,hn⟩:=h
 have h2:=uM (P:=fun k=>qU g who D goal k v) n hn
 unfold rk
 rw [dif_pos h2]
 exact h2.choose_spec
theorem zGt {v k:Nat}(h:qU g who D goal k v):rk g who D goal v≤k:=by
 have :=(zCV ⟨k,h⟩).2 k
 rcases Nat.lt_or_ge k (rk g who D goal v)with h1|h1
 ·exact absurd h (this h1)
 ·exact h1
theorem Att.cases {v:Nat}(h:Att g who D goal v):(D v∧goal v)∨(D v∧g.own v=who∧∃u,g.E v u∧Att g who D goal u∧rk g who D goal u<rk g who D goal v)∨(D v∧¬g.own v=who∧∀u,g.E v u→D u→Att g who D goal u∧rk g who D goal u<rk g who D goal v):=by
 obtain⟨h1,h2⟩:=zCV h
 generalize hr:rk g who D goal v=r at h1 h2
 cases r with
 |zero=>exact .inl h1
 |succ k=>
  rcases h1 with h1|⟨hD,h1⟩
  ·exact absurd h1 (h2 k (by omega))
  ·rcases h1 with⟨ho,u,he,hu⟩|⟨ho,-,ha⟩
   ·exact .inr (.inl ⟨hD,ho,u,he,⟨k,hu⟩,Nat.lt_succ_of_le (zGt hu)⟩)
   ·exact .inr (.inr ⟨hD,ho,fun u he hu=>⟨⟨k,ha u he hu⟩,Nat.lt_succ_of_le (zGt (ha u he hu))⟩⟩)
theorem Att.inD {v:Nat}(h:Att g who D goal v):D v:=by obtain⟨k,hk⟩:=h;exact hk.inD
theorem Att.base {v:Nat}(h1:D v)(h2:goal v):Att g who D goal v:=⟨0,h1,h2⟩
theorem Att.own {v u:Nat}(h1:D v)(h2:g.own v=who)(h3:g.E v u)(h4:Att g who D goal u):Att g who D goal v:=by
 obtain⟨k,hk⟩:=h4
 exact⟨k+1, .inr ⟨h1, .inl ⟨h2,u,h3,hk⟩⟩⟩
theorem Att.opp {n:Nat}(hn: ∀v u,g.E v u→u<n){v:Nat}(h1:D v)(h2: ¬g.own v=who)(h3: ∃u,g.E v u∧D u)(h4: ∀u,g.E v u→D u→Att g who D goal u):Att g who D goal v:=by
 have key: ∀m,∃k,∀u,u<m→g.E v u→D u→qU g who D goal k u:=by
  intro m
  induction m with
  |zero=>exact⟨0,fun u hu=>by omega⟩
  |succ m ih=>
   obtain⟨k,hk⟩:=ih
   by_cases hm:g.E v m∧D m
   ·obtain⟨j,hj⟩:=h4 m hm.1 hm.2
    refine⟨max k j,fun u hu he hd=> ?_⟩
    by_cases e:u=m
    ·rw [e];exact hj.up _ (Nat.le_max_right ..)
    ·exact(hk u (by omega) he hd).up _ (Nat.le_max_left ..)
   ·refine⟨k,fun u hu he hd=> ?_⟩
    by_cases e:u=m
    ·rw [e]at he hd;exact absurd ⟨he,hd⟩ hm
    ·exact hk u (by omega) he hd
 obtain⟨k,hk⟩:=key n
 exact⟨k+1, .inr ⟨h1, .inr ⟨h2,h3,fun u he hd=>hk u (hn v u he) he hd⟩⟩⟩
theorem Att.out_own {v u:Nat}(h1:D v)(h: ¬Att g who D goal v)(h2:g.own v=who)(h3:g.E v u): ¬Att g who D goal u:=fun h4=>h (.own h1 h2 h3 h4)
theorem Att.out_opp {n:Nat}(hn: ∀v u,g.E v u→u<n){v:Nat}(h1:D v)(h: ¬Att g who D goal v)(h2: ¬g.own v=who)(h3: ∃u,g.E v u∧D u): ∃u,g.E v u∧D u∧¬Att g who D goal u:=by
 by_cases h4: ∃u,g.E v u∧D u∧¬Att g who D goal u
 ·exact h4
 ·exact absurd (Att.opp hn h1 h2 h3 fun u he hd=>Classical.byContradiction fun h5=>h4 ⟨u,he,hd,h5⟩) h
end
def vR (g:PG)(D:Nat→Prop):Prop:= ∀v,D v→∃u,g.E v u∧D u
theorem XZ {g:PG}{who:Int}{D goal:Nat→Prop}{n:Nat}(hn: ∀v u,g.E v u→u<n)(h:vR g D):vR g (fun v=>D v∧¬Att g who D goal v):=fun v hv=>by
 obtain⟨u,he,hd⟩:=h v hv.1
 by_cases ho:g.own v=who
 ·exact⟨u,he,hd,Att.out_own hv.1 hv.2 ho he⟩
 ·obtain⟨x,a,b,c⟩:=Att.out_opp hn hv.1 hv.2 ho ⟨u,he,hd⟩
  exact⟨x,a,b,c⟩
open Classical in
noncomputable def Vw (g:PG)(who:Int)(D goal:Nat→Prop)(v:Nat):Nat:=if h: ∃u,g.E v u∧Att g who D goal u∧rk g who D goal u<rk g who D goal v then h.choose else 0
theorem XR {g:PG}{who:Int}{D goal:Nat→Prop}{v:Nat}(h:Att g who D goal v)(hg: ¬goal v)(ho:g.own v=who):g.E v (Vw g who D goal v)∧Att g who D goal (Vw g who D goal v)∧rk g who D goal (Vw g who D goal v)<rk g who D goal v:=by
 have h2: ∃u,g.E v u∧Att g who D goal u∧rk g who D goal u<rk g who D goal v:=by
  rcases h.cases with⟨-,h1⟩|⟨-,-,h1⟩|⟨-,h1,-⟩
  ·exact absurd h1 hg
  ·exact h1
  ·exact absurd ho h1
 unfold Vw
 rw [dif_pos h2]
 exact h2.choose_spec
section
variable {g:PG} {who:Int} {D:Nat→Prop} {top n:Nat}
open Classical in
theorem zCe (hn: ∀v u,g.E v u→u<n)(hl:vR g D)(htop: ∀v,D v→g.pr v≤top)(hpar:(top:Int)%2=who){s:Nat→Nat}
  (hw:xi g who (fun v=>D v∧¬Att g who D (fun v=>g.pr v=top) v) (fun v=>D v∧¬Att g who D (fun v=>g.pr v=top) v) s): ∃s',xi g who D D s':=by
 let A:=Att g who D (fun v=>g.pr v=top)
 let r:=rk g who D (fun v=>g.pr v=top)
 have hsome: ∀v,∃u,D v→g.E v u∧D u:=fun v=>by
  by_cases h:D v
  ·obtain⟨u,hu⟩:=hl v h;exact⟨u,fun _=>hu⟩
  ·exact⟨0,fun h2=>absurd h2 h⟩
 let any:Nat→Nat:=fun v=>(hsome v).choose
 have hany: ∀v,D v→g.E v (any v)∧D (any v):=fun v=>(hsome v).choose_spec
 let s':Nat→Nat:=fun v=>if A v then(if g.pr v=top then any v else Vw g who D (fun v=>g.pr v=top) v)else s v
 have e1: ∀v,A v→g.pr v=top→s' v=any v:=fun v h1 h2=>by show(if _ then _ else _)=_;rw [if_pos h1,if_pos h2]
 have e2: ∀v,A v→¬g.pr v=top→s' v=Vw g who D (fun v=>g.pr v=top) v:=fun v h1 h2=>by show(if _ then _ else _)=_;rw [if_pos h1,if_neg h2]
 have e3: ∀v,¬A v→s' v=s v:=fun v h1=>by show(if _ then _ else _)=_;rw [if_neg h1]
 refine⟨s',fun v h=>h,fun v hv ho=> ?_,fun v u _ _ _ hu=>hu,fun v t w=> ?_⟩
 ·by_cases hA:A v
  ·by_cases hp:g.pr v=top
   ·rw [e1 v hA hp];exact hany v hv
   ·rw [e2 v hA hp]
    have :=XR hA hp ho
    exact⟨this.1,Att.inD this.2.1⟩
  ·rw [e3 v hA]
   have :=hw.own v ⟨hv,hA⟩ ho
   exact⟨this.1,this.2.1⟩
 ·have hle:=w.le fun v u h=>htop v h.1
  have claim: ∀{v u t:Nat},Wk (SR g who D s') g.pr v u t→t<top→(A v→A u∧r u<r v)∧(¬A v→A u∨Wk (SR g who (fun v=>D v∧¬A v) s) g.pr v u t):=by
   intro v u t w
   have stepA: ∀v u,SR g who D s' v u→g.pr v<top→A v→A u∧r u<r v:=fun v u h hp hA=>by
    rcases hA.cases with⟨-,h1⟩|⟨-,ho,-⟩|⟨-,ho,ha⟩
    ·omega
    ·have h2:=XR hA (by omega) ho
     rw [h.2.2.2 ho,e2 v hA (by omega)]
     exact h2.2
    ·exact ha u h.2.2.1 h.2.1
   have zDP: ∀v u,SR g who D s' v u→¬A v→¬A u→SR g who (fun v=>D v∧¬A v) s v u:=fun v u h h1 h2=>⟨⟨h.1,h1⟩,⟨h.2.1,h2⟩,h.2.2.1,fun ho=>by rw [h.2.2.2 ho,e3 v h1]⟩
   induction w with
   | @one v u h=>
    intro ht
    refine⟨stepA v u h ht,fun hA=> ?_⟩
    by_cases hu:A u
    ·exact .inl hu
    ·exact .inr (.one (zDP v u h hA hu))
   | @cons v x u t h w ih=>
    intro ht
    obtain⟨i1,i2⟩:=ih (by omega)
    refine⟨fun hA=> ?_,fun hA=> ?_⟩
    ·obtain⟨a,b⟩:=stepA v x h (by omega) hA
     obtain⟨c,d⟩:=i1 a
     exact⟨c,Nat.lt_trans d b⟩
    ·by_cases hx:A x
     ·exact .inl (i1 hx).1
     ·rcases i2 hx with h5|h5
      ·exact .inl h5
      ·exact .inr (.cons (zDP v x h hA hx) h5)
  by_cases ht:t=top
  ·rw [ht];exact hpar
  ·obtain⟨i1,i2⟩:=claim w (by omega)
   by_cases hA:A v
   ·have :=(i1 hA).2
    omega
   ·rcases i2 hA with h5|h5
    ·exact absurd h5 hA
    ·exact hw.good v t h5
theorem kY {opp:Int}(ho2: ∀v,g.own v=who∨g.own v=opp)(hne: ¬who=opp){goal L M:Nat→Prop}{s m:Nat→Nat}
  (hL:xi g opp (fun v=>D v∧¬Att g who D goal v) L s)
  (hM:xi g opp (fun v=>D v∧¬Att g opp D L v) M m): ∃s',xi g opp D (fun v=>M v∨Att g opp D L v) s':=by
 classical
 let B:=Att g opp D L
 let r:=rk g opp D L
 have hLD: ∀v,L v→D v:=fun v h=>(hL.sub v h).1
 have hLB: ∀v,L v→B v:=fun v h=>Att.base (hLD v h) h
 let s':Nat→Nat:=fun v=>if L v then s v else if B v then Vw g opp D L v else m v
 have e1: ∀v,L v→s' v=s v:=fun v h=>by show(if _ then _ else _)=_;rw [if_pos h]
 have e2: ∀v,¬L v→B v→s' v=Vw g opp D L v:=fun v h h2=>by show(if _ then _ else _)=_;rw [if_neg h,if_pos h2]
 have e3: ∀v,¬B v→s' v=m v:=fun v h=>by show(if _ then _ else _)=_;rw [if_neg (fun h2=>h (hLB v h2)),if_neg h]
 have hMB: ∀v,M v→¬B v:=fun v h=>(hM.sub v h).2
 -- from L nobody leaves L
 have stepL: ∀v u,L v→D u→g.E v u→(g.own v=opp→u=s' v)→L u:=fun v u h1 h2 h3 h4=>by
  rcases ho2 v with e|e
  ·have hv:=hL.sub v h1
   exact hL.opp v u h1 (fun e5=>hne (e.symm.trans e5)) h3 ⟨h2,Att.out_own hv.1 hv.2 e h3⟩
  ·rw [h4 e,e1 v h1];exact(hL.own v h1 e).2
 refine⟨s',fun v h=> ?_,fun v h ho=> ?_,fun v u h ho he hu=> ?_,fun v t w=> ?_⟩
 ·rcases h with h|h
  ·exact(hM.sub v h).1
  ·exact Att.inD h
 ·by_cases h1:L v
  ·rw [e1 v h1]
   have :=hL.own v h1 ho
   exact⟨this.1, .inr (hLB _ this.2)⟩
  ·by_cases h2:B v
   ·rw [e2 v h1 h2]
    have :=XR h2 h1 ho
    exact⟨this.1, .inr this.2.1⟩
   ·rw [e3 v h2]
    rcases h with h|h
    ·have :=hM.own v h ho
     exact⟨this.1, .inl this.2⟩
    ·exact absurd h h2
 ·by_cases h3:B u
  ·exact .inr h3
  ·by_cases h1:L v
   ·exact .inr (hLB _ (stepL v u h1 hu he fun e=>absurd e ho))
   ·rcases h with h|h
    ·exact .inl (hM.opp v u h ho he ⟨hu,h3⟩)
    ·rcases h.cases with⟨-,h4⟩|⟨-,h4,-⟩|⟨-,-,h4⟩
     ·exact absurd h4 h1
     ·exact absurd h4 ho
     ·exact .inr (h4 u he hu).1
 ·have hD: ∀v,(M v∨B v)→D v:=fun v h=>by
   rcases h with h|h
   ·exact(hM.sub v h).1
   ·exact Att.inD h
  have claim: ∀{v u t:Nat},Wk (SR g opp (fun v=>M v∨B v) s') g.pr v u t→(L v→L u∧Wk (SR g opp L s) g.pr v u t)∧(¬L v→B v→L u∨(B u∧r u<r v))∧(¬B v→B u∨Wk (SR g opp M m) g.pr v u t):=by
   intro v u t w
   have q1: ∀v u,SR g opp (fun v=>M v∨B v) s' v u→L v→L u∧SR g opp L s v u:=fun v u h h1=>by
    have h2:=stepL v u h1 (hD u h.2.1) h.2.2.1 h.2.2.2
    exact⟨h2,h1,h2,h.2.2.1,fun e=>by rw [h.2.2.2 e,e1 v h1]⟩
   have q2: ∀v u,SR g opp (fun v=>M v∨B v) s' v u→¬L v→B v→B u∧r u<r v:=fun v u h h1 h2=>by
    rcases h2.cases with⟨-,h4⟩|⟨-,h4,-⟩|⟨-,-,h4⟩
    ·exact absurd h4 h1
    ·have :=XR h2 h1 h4
     rw [h.2.2.2 h4,e2 v h1 h2]
     exact this.2
    ·exact h4 u h.2.2.1 (hD u h.2.1)
   have q3: ∀v u,SR g opp (fun v=>M v∨B v) s' v u→¬B v→¬B u→SR g opp M m v u:=fun v u h h1 h2=>by
    have hm: ∀x,(M x∨B x)→¬B x→M x:=fun x h5 h6=>h5.resolve_right h6
    exact⟨hm v h.1 h1,hm u h.2.1 h2,h.2.2.1,fun e=>by rw [h.2.2.2 e,e3 v h1]⟩
   induction w with
   | @one v u h=>
    refine⟨fun h1=> ?_,fun h1 h2=> .inr (q2 v u h h1 h2),fun h1=> ?_⟩
    ·obtain⟨a,b⟩:=q1 v u h h1
     exact⟨a, .one b⟩
    ·by_cases h2:B u
     ·exact .inl h2
     ·exact .inr (.one (q3 v u h h1 h2))
   | @cons v x u t h w ih=>
    obtain⟨i1,i2,i3⟩:=ih
    refine⟨fun h1=> ?_,fun h1 h2=> ?_,fun h1=> ?_⟩
    ·obtain⟨a,b⟩:=q1 v x h h1
     obtain⟨c,d⟩:=i1 a
     exact⟨c, .cons b d⟩
    ·obtain⟨a,b⟩:=q2 v x h h1 h2
     by_cases hx:L x
     ·exact .inl (i1 hx).1
     ·rcases i2 hx a with h5|h5
      ·exact .inl h5
      ·exact .inr ⟨h5.1,Nat.lt_trans h5.2 b⟩
    ·by_cases h2:B x
     ·by_cases hx:L x
      ·exact .inl (hLB _ (i1 hx).1)
      ·rcases i2 hx h2 with h5|h5
       ·exact .inl (hLB _ h5)
       ·exact .inl h5.1
     ·rcases i3 h2 with h5|h5
      ·exact .inl h5
      ·exact .inr (.cons (q3 v x h h1 h2) h5)
  obtain⟨i1,i2,i3⟩:=claim w
  by_cases h1:L v
  ·exact hL.good v t (i1 h1).2
  ·by_cases h2:B v
   ·rcases i2 h1 h2 with h5|h5
    ·exact absurd h5 h1
    ·omega
   ·rcases i3 h2 with h5|h5
    ·exact absurd h5 h2
    ·exact hM.good v t h5
theorem kZ {opp:Int}(ho2: ∀v,g.own v=who∨g.own v=opp){L M:Nat→Prop}{m:Nat→Nat}(hM:xi g who (fun v=>D v∧¬Att g opp D L v) M m):xi g who D M m:=
 ⟨fun v h=>(hM.sub v h).1,hM.own,fun v u h ho he hu=>hM.opp v u h ho he ⟨hu,Att.out_own (hM.sub v h).1 (hM.sub v h).2 ((ho2 v).resolve_left ho) he⟩,hM.good⟩
end
theorem yN {g:PG}{who:Int}{D U D' U':Nat→Prop}{s:Nat→Nat}(h:xi g who D U s)(hD: ∀v,D v↔D' v)(hU: ∀v,U v↔U' v):xi g who D' U' s:=by
 have e1:D=D':=funext fun v=>propext (hD v)
 have e2:U=U':=funext fun v=>propext (hU v)
 rw [←e1,←e2];exact h
theorem Vo {g:PG}{D U V:Nat→Prop}{s t:Nat→Nat}{n:Nat}(hn: ∀v,D v→v<n)(ho: ∀v,g.own v=0∨g.own v=1)(h0:xi g 0 D U s)(h1:xi g 1 D V t)(v:Nat)(hU:U v)(hV:V v):False:=by
 let f:Nat→Nat:=fun x=>if g.own x=0 then s x else t x
 have step: ∀x,U x∧V x→(U (f x)∧V (f x))∧SR g 0 U s x (f x)∧SR g 1 V t x (f x):=fun x ⟨hu,hv⟩=>by
  rcases ho x with e|e
  ·have hf:f x=s x:=if_pos e
   have a:=h0.own x hu e
   have b:=h1.opp x (s x) hv (by omega) a.1 (h0.sub _ a.2)
   rw [hf]
   exact⟨⟨a.2,b⟩,⟨hu,a.2,a.1,fun _=>rfl⟩,hv,b,a.1,fun e2=>by omega⟩
  ·have hf:f x=t x:=if_neg (by omega)
   have a:=h1.own x hv e
   have b:=h0.opp x (t x) hu (by omega) a.1 (h1.sub _ a.2)
   rw [hf]
   exact⟨⟨b,a.2⟩,⟨hu,b,a.1,fun e2=>by omega⟩,hv,a.2,a.1,fun _=>rfl⟩
 let it:Nat→Nat:=fun k=>Nat.rec v (fun _ x=>f x) k
 have hit: ∀k,U (it k)∧V (it k):=fun k=>by
  induction k with
  |zero=>exact⟨hU,hV⟩
  |succ k ih=>exact(step _ ih).1
 have hlt: ∀k,it k<n:=fun k=>hn _ (h0.sub _ (hit k).1)
 have walk: ∀i d,∃p,Wk (SR g 0 U s) g.pr (it i) (it (i+d+1)) p∧Wk (SR g 1 V t) g.pr (it i) (it (i+d+1)) p:=by
  intro i d
  induction d with
  |zero=>exact⟨_, .one (step _ (hit i)).2.1, .one (step _ (hit i)).2.2⟩
  |succ d ih=>
   obtain⟨p,a,b⟩:=ih
   exact⟨_,a.app (.one (step _ (hit (i+d+1))).2.1),b.app (.one (step _ (hit (i+d+1))).2.2)⟩
 have rep: ∃i d,it (i+d+1)=it i:=by
  refine Classical.byContradiction fun hno=> ?_
  have hnd:((List.range (n+1)).map it).Nodup:=by
   rw [List.nodup_iff_pairwise_ne,List.pairwise_map]
   refine List.Pairwise.imp_of_mem ?_ (List.pairwise_lt_range)
   intro a b ha hb hab e
   exact hno ⟨a,b - a - 1,by rw [show a+(b - a - 1)+1=b by omega];exact e.symm⟩
  have :=List.Nodup.length_le_of_subset (l₂:=List.range n) hnd (fun x hx=>by
   obtain⟨k,-,rfl⟩:=List.mem_map.1 hx
   exact List.mem_range.2 (hlt k))
  simp at this
  omega
 obtain⟨i,d,e⟩:=rep
 obtain⟨p,a,b⟩:=walk i d
 rw [e]at a b
 have :=h0.good _ _ a
 have :=h1.good _ _ b
 omega
structure Pa where
 a:Ar
 prio:List Int
 deriving DecidableEq
def dPa (x:Pa):List D:= [DI x.a.owner,DII x.a.next,DI x.prio]
def Pa.tot (x:Pa):Nat:=x.a.owner.length+wX x.a.next+x.prio.length
structure Pa.Ln (B:Nat)(x:Pa):Prop where
 a:x.a.Ln B
 prio:LnI B x.prio
theorem Pa.ln_of {B:Nat}{x:Pa}(h:x.tot≤B):x.Ln B:=by
 unfold Pa.tot at h
 exact⟨Ar.ln_of (by unfold Ar.tot;omega),YD (by omega)⟩
def Pa.cnt (x:Pa):Nat:=x.a.owner.length+vd x.a.next+x.prio.length
theorem Pa.ln_mono {B C:Nat}(hB:B≤C){x:Pa}(h:x.Ln B):x.Ln C:=⟨Ar.ln_mono hB h.a,LnI.mono hB h.prio⟩
theorem zIM (xs:List Bool)(n:Nat):(dB xs).take n=dB (xs.take n):=by simp [dB]
attribute [push_cast] zIM
structure L7 where
 owner:List Int
 prio:List Int
 next:List (List Int)
 prev:List (List Int)
 pick:List Int
def dL7 (x:L7):List D:= [DI x.owner,DI x.prio,DII x.next,DII x.prev,DI x.pick]
structure L7.Ok (x:L7)(n:Nat):Prop where
 hn:n≤256
 ho:x.owner.length=n
 hp:x.prio.length=n
 hx:x.next.length=n
 hv:x.prev.length=n
 hk:x.pick.length=n
 deg: ∀v,v<n→(gl x.next v).length≤256
 to: ∀v,v<n→∀j,j<(gl x.next v).length→0≤gi (gl x.next v) j∧gi (gl x.next v) j<n
 pr: ∀v,v<n→0≤gi x.prio v∧gi x.prio v≤40
 ow: ∀v,v<n→gi x.owner v=0∨gi x.owner v=1
 nd: ∀v,v<n→∀i j,i<j→j<(gl x.next v).length→gi (gl x.next v) i≠gi (gl x.next v) j
 dpv: ∀u,u<n→(gl x.prev u).length≤256
 pin: ∀u,u<n→∀m,m<(gl x.prev u).length→(0≤gi (gl x.prev u) m∧gi (gl x.prev u) m<n)∧∃j,j<(gl x.next (gi (gl x.prev u) m).toNat).length∧gi (gl x.next (gi (gl x.prev u) m).toNat) j=u
 pal: ∀v,v<n→∀j,j<(gl x.next v).length→∃m,m<(gl x.prev (gi (gl x.next v) j).toNat).length∧gi (gl x.prev (gi (gl x.next v) j).toNat) m=v
 pnd: ∀u,u<n→∀i j,i<j→j<(gl x.prev u).length→gi (gl x.prev u) i≠gi (gl x.prev u) j
def edB (x:L7)(v u:Int):Bool:=decide (gi x.pick v.toNat<0∨gi x.pick v.toNat=u)
def vB (x:L7)(inn:List Bool)(v:Nat):Nat→Int
 |0=>0
 |k+1=>if gb inn (gi (gl x.next v) k).toNat&&edB x v (gi (gl x.next v) k)then vB x inn v k+1 else vB x inn v k
theorem Wv (x:L7)(inn:List Bool)(v:Nat): ∀k,0≤vB x inn v k∧vB x inn v k≤k
 |0=>⟨Int.le_refl _,Int.le_refl _⟩
 |k+1=>by
  have :=Wv x inn v k
  unfold vB
  split<;>omega
theorem KA {x:L7}{inn:List Bool}{v k:Nat}(h1:gb inn (gi (gl x.next v) k).toNat=true)(h2:edB x v (gi (gl x.next v) k)=true):vB x inn v (k+1)=vB x inn v k+1:=by
 show(if _ then _ else _)=_;rw [h1,h2];rfl
theorem Jz {x:L7}{inn:List Bool}{v k:Nat}(h1:gb inn (gi (gl x.next v) k).toNat=false):vB x inn v (k+1)=vB x inn v k:=by
 show(if _ then _ else _)=_;rw [h1];rfl
theorem Uy {x:L7}{inn:List Bool}{v k:Nat}(h2:edB x v (gi (gl x.next v) k)=false):vB x inn v (k+1)=vB x inn v k:=by
 show(if _ then _ else _)=_;rw [h2,Bool.and_false];rfl
def vU (x:L7)(inn:List Bool)(v:Nat):Int:=vB x inn v (gl x.next v).length
def mkB (n:Nat)(f:Nat→Bool)(k:Nat):List Bool:=(List.range k).map f++List.replicate (n - k) false
theorem wU {n:Nat}{f:Nat→Bool}{k:Nat}(h:k≤n):(mkB n f k).length=n:=by unfold mkB;simp;omega
theorem Xa (n:Nat)(f:Nat→Bool):mkB n f 0=List.replicate n false:=by simp [mkB]
theorem UB (n:Nat)(f:Nat→Bool):mkB n f n=(List.range n).map f:=by simp [mkB]
theorem xy {n:Nat}{f:Nat→Bool}{k:Nat}(h:k<n):(mkB n f k).set k (f k)=mkB n f (k+1):=by
 unfold mkB
 rw [List.set_append_right _ _ (by simp),List.length_map,List.length_range,Nat.sub_self,show n - k=(n - (k+1))+1 from by omega,List.replicate_succ,List.set_cons_zero,List.range_succ,List.map_append,List.append_assoc]
 rfl
theorem jJ {n:Nat}{f:Nat→Bool}{v:Nat}(h:v<n):gb ((List.range n).map f) v=f v:=by
 unfold gb
 rw [List.getD_eq_getElem?_getD,List.getElem?_map,List.getElem?_range h]
 rfl
def qq (inn out:List Bool)(v:Nat):Bool:=gb inn v&& !gb out v
def yI (inn out:List Bool):List Bool:=(List.range inn.length).map (qq inn out)
def yK (x:L7)(inn:List Bool):Nat→Int
 |0=> -1
 |k+1=>if gb inn k then max (yK x inn k) (gi x.prio k)else yK x inn k
theorem JT {x:L7}{n:Nat}(h:x.Ok n)(inn:List Bool): ∀k,k≤n→ -1≤yK x inn k∧yK x inn k≤40
 |0,_=>⟨Int.le_refl _,(show(-1:Int)≤40 by decide)⟩
 |k+1,hk=>by
  have :=JT h inn k (by omega)
  have :=h.pr k (by omega)
  unfold yK
  split<;>omega
theorem zBA {x:L7}{inn:List Bool}{k:Nat}(h:gb inn k=true):yK x inn (k+1)=if gi x.prio k>yK x inn k then gi x.prio k else yK x inn k:=by
 show(if _ then _ else _)=_
 rw [if_pos h]
 split<;>omega
theorem zCb {x:L7}{inn:List Bool}{k:Nat}(h:gb inn k=false):yK x inn (k+1)=yK x inn k:=by
 show(if _ then _ else _)=_
 rw [h];rfl
set_option maxRecDepth 20000 in
set_option maxHeartbeats 4000000 in
theorem uJ (x:L7)(n:Nat)(hx:x.Ok n)(v u:Int)(hv:0≤v∧v<n):Fn Try.prog tyT 170 [.agg (dL7 x), .c (.int .i64 v), .c (.int .i64 u)] [.c (.bool (edB x v u))]:=by
 have hn1:=hx.hn
 have hn2:=hx.ho
 have hn3:=hx.hp
 have hn4:=hx.hx
 have hn5:=hx.hv
 have hn6:=hx.hk
 unfold dL7
 refine zw (fn:=Try.f170) (ts:= [6]) Try.func170 (by kernel_rfl) rfl rfl (by rw [Try.ntmps170];exact Nat.le_of_ble_eq_true rfl) rfl (by simp only [szA,List.mem_cons,List.not_mem_nil,or_false,forall_eq_or_imp,forall_eq,VT.cells,szL];try decide) ?_
 rw [Try.ntmps170]
 simp only [push_cast,↓zK,↓zJ,↓reduceIte,zA,zB,zC,zD,zE,zF,zG,zH,zI,reduceCtorEq]
 refine zL fun K hK=> ?_
 refine zM zO zN [] rfl ?_
 simp only [push_cast,↓zK,↓zJ,↓reduceIte,zA,zB,zC,zD,zE,zF,zG,zH,zI,reduceCtorEq]
 repeat' apply And.intro
 all_goals try exact gB
 all_goals first|(refine hK _ ?_;clear hK K)|(simp only [push_cast];done)
 refine zL fun K hK=> ?_
 refine zj false zO zN ?_ rfl ?_
 ·kernel_rfl
 all_goals simp only [push_cast,↓zK,↓zJ,↓reduceIte,zA,zB,zC,zD,zE,zF,zG,zH,zI,reduceCtorEq]
 all_goals repeat'(first|(apply zP<;>(intro hg;(try simp only [push_cast]at hg)))|apply And.intro|(intro hg;(try simp only [push_cast]at hg)))
 all_goals try exact gA
 all_goals first|(refine hK _ ?_;clear hK K)|(simp only [push_cast];done)
 all_goals(
   refine zX ?_
   (try simp only [zR,zS])
   refine⟨Or.inl rfl,?_⟩
   simp only [zd,push_cast,↓zK,↓zJ,↓reduceIte,zA,zB,zC,zD,zE,zF,zG,zH,zI,reduceCtorEq]
   all_goals first|(symm;unfold edB;rw [decide_eq_true_eq];omega)|(symm;unfold edB;rw [decide_eq_false_iff_not];omega)|(unfold edB;rw [Bool.eq_iff_iff];simp;omega))
set_option maxRecDepth 20000 in
set_option maxHeartbeats 4000000 in
theorem zBY (x:L7)(n:Nat)(hx:x.Ok n)(inn:List Bool)(hi:inn.length=n)(v:Nat)(hv:v<n):Fn Try.prog tyT 169 [.agg (dL7 x), .c (.lst 4 (dB inn)), .c (.int .i64 v)] [.c (.int .i64 (vU x inn v))]:=by
 have hn1:=hx.hn
 have hn2:=hx.ho
 have hn3:=hx.hp
 have hn4:=hx.hx
 have hn5:=hx.hv
 have hn6:=hx.hk
 have hdeg:=hx.deg v hv
 have hto:=hx.to v hv
 have hE:=fun u=>uJ x n hx (v:Int) u (by omega)
 unfold dL7 at hE⊢
 refine zw (fn:=Try.f169) (ts:= [6]) Try.func169 (by kernel_rfl) rfl rfl (by rw [Try.ntmps169];exact Nat.le_of_ble_eq_true rfl) rfl (by simp only [szA,List.mem_cons,List.not_mem_nil,or_false,forall_eq_or_imp,forall_eq,VT.cells,szL];try decide) ?_
 rw [Try.ntmps169]
 simp only [push_cast,↓zK,↓zJ,↓reduceIte,zA,zB,zC,zD,zE,zF,zG,zH,zI,reduceCtorEq]
 refine zL fun K hK=> ?_
 refine zM zO zN [] rfl ?_
 all_goals simp only [push_cast,↓zK,↓zJ,↓reduceIte,zA,zB,zC,zD,zE,zF,zG,zH,zI,reduceCtorEq]
 all_goals repeat'(first|(apply zP<;>(intro hg;(try simp only [push_cast]at hg)))|apply And.intro|(intro hg;(try simp only [push_cast]at hg)))
 all_goals first|exact gA|(exact zQ (by omega))|skip
 all_goals first|(refine hK _ ?_;clear hK K)|(simp only [push_cast];done)
 refine zL fun K hK=> ?_
 refine zM zO zN [] rfl ?_
 all_goals simp only [push_cast,↓zK,↓zJ,↓reduceIte,zA,zB,zC,zD,zE,zF,zG,zH,zI,reduceCtorEq]
 all_goals repeat'(first|(apply zP<;>(intro hg;(try simp only [push_cast]at hg)))|apply And.intro|(intro hg;(try simp only [push_cast]at hg)))
 all_goals first|exact gA|(exact zQ (by omega))|skip
 all_goals first|(refine hK _ ?_;clear hK K)|(simp only [push_cast];done)
 refine zL fun K1 hK1=> ?_
 refine zL fun K hK=> ?_
 refine zM zO zN [] rfl ?_
 all_goals simp only [push_cast,↓zK,↓zJ,↓reduceIte,zA,zB,zC,zD,zE,zF,zG,zH,zI,reduceCtorEq]
 all_goals repeat'(first|(apply zP<;>(intro hg;(try simp only [push_cast]at hg)))|apply And.intro|(intro hg;(try simp only [push_cast]at hg)))
 all_goals first|exact gA|(exact zQ (by omega))|skip
 all_goals first|(refine hK _ ?_;clear hK K)|(simp only [push_cast];done)
 refine zW ?_
 refine zi [7,8,9,10,11,12,13,14,15,16,17,18,19,20,21,22,23,24,25,26,27,28,29,30,31,32,33,34,35,36,37,38,39] [] (fun(k:Nat)=> [(8, .int .i64 k),(7, .int .i64 (vB x inn v k))]) (fun k=> []) (fun k=> []) (fun k=>k≤(gl x.next v).length) (fun k=>(gl x.next v).length - k) 0 ?_ (by omega) ?_
 ·
  rw [show vB x inn v 0=0 from rfl]
  refine zY rfl ?_ ?_ ?_<;>simp only [zf,ze,push_cast,↓zK,↓zJ,↓reduceIte,zA,zB,zC,zD,zE,zF,zG,zH,zI,reduceCtorEq]
 ·rintro k hk KL0 hL0
  simp only [push_cast,↓zK,↓zJ,↓reduceIte,zA,zB,zC,zD,zE,zF,zG,zH,zI,reduceCtorEq]
  refine zL fun K2 hK2=> ?_
  refine zL fun K hK=> ?_
  refine zM zO zN [] rfl ?_
  all_goals simp only [push_cast,↓zK,↓zJ,↓reduceIte,zA,zB,zC,zD,zE,zF,zG,zH,zI,reduceCtorEq]
  all_goals repeat'(first|(apply zP<;>(intro hg;(try simp only [push_cast]at hg)))|apply And.intro|(intro hg;(try simp only [push_cast]at hg)))
  all_goals first|exact gA|(exact zQ (by omega))|skip
  all_goals first|(refine hK _ ?_;clear hK K)|(simp only [push_cast];done)
  refine zU rfl (fun hc=> ?_) (fun hc=> ?_)<;>(try simp only [push_cast]at hc)
  ·
   refine zV ?_
   (try simp only [zR,zS,reduceIte,zF]);refine hK2 _ ?_
   refine zL fun K3 hK3=> ?_
   refine zW ?_
   have hto1:=hto k (by omega)
   have hdk:=Wv x inn v k
   refine zL fun K hK=> ?_
   refine zM zO zN [] rfl ?_
   all_goals simp only [push_cast,↓zK,↓zJ,↓reduceIte,zA,zB,zC,zD,zE,zF,zG,zH,zI,reduceCtorEq]
   all_goals repeat'(first|(apply zP<;>(intro hg;(try simp only [push_cast]at hg)))|apply And.intro|(intro hg;(try simp only [push_cast]at hg)))
   all_goals first|exact gA|(exact zQ (by omega))|skip
   all_goals first|(refine hK _ ?_;clear hK K)|(simp only [push_cast];done)
   refine zL fun K hK=> ?_
   refine zj false zO zN ?_ rfl ?_
   ·kernel_rfl
   all_goals refine yC 9 fun K9 hK9=> ?_
   all_goals simp only [push_cast,↓zK,↓zJ,↓reduceIte,zA,zB,zC,zD,zE,zF,zG,zH,zI,reduceCtorEq]
   all_goals repeat'(first|(apply zP<;>(intro hg;(try simp only [push_cast]at hg)))|(refine⟨_,hE (gi (gl x.next v) k),?_⟩;simp only [push_cast,↓zK,↓zJ,↓reduceIte,zA,zB,zC,zD,zE,zF,zG,zH,zI,reduceCtorEq])|apply And.intro|(intro hg;(try simp only [push_cast]at hg)))
   all_goals first|exact gA|(exact zQ (by omega))|skip
   all_goals first|(refine hK9 _ ?_;clear hK9 K9)|(simp only [push_cast];done)
   all_goals simp only [push_cast,↓zK,↓zJ,↓reduceIte,zA,zB,zC,zD,zE,zF,zG,zH,zI,reduceCtorEq]
   all_goals repeat'(first|(apply zP<;>(intro hg;(try simp only [push_cast]at hg)))|(refine⟨_,hE (gi (gl x.next v) k),?_⟩;simp only [push_cast,↓zK,↓zJ,↓reduceIte,zA,zB,zC,zD,zE,zF,zG,zH,zI,reduceCtorEq])|apply And.intro|(intro hg;(try simp only [push_cast]at hg)))
   all_goals first|exact gA|(exact zQ (by omega))|skip
   all_goals first|(refine hK _ ?_;clear hK K)|(simp only [push_cast];done)
   all_goals refine zU rfl (fun hc=> ?_) (fun hc=> ?_)
   all_goals(first|(cases hc;done)|skip)
   all_goals(try simp only [push_cast]at hc)
   all_goals first
    |(
      refine zV ?_
      (try simp only [zR,zS,reduceIte,zF]);refine hK3 _ ?_
      refine zM zO zN [] rfl ?_
      all_goals simp only [push_cast,↓zK,↓zJ,↓reduceIte,zA,zB,zC,zD,zE,zF,zG,zH,zI,reduceCtorEq]
      all_goals repeat'(first|(apply zP<;>(intro hg;(try simp only [push_cast]at hg)))|apply And.intro|(intro hg;(try simp only [push_cast]at hg)))
      all_goals first|exact gA|(exact zQ (by omega))|skip
      refine hL0 _ ⟨k+1,by omega,by omega,?_⟩
      first|rw [KA (by with_reducible assumption) (by with_reducible assumption)]|rw [Jz (by with_reducible assumption)]|rw [Uy (by with_reducible assumption)]
      refine zY rfl ?_ ?_ ?_<;>simp only [zf,ze,push_cast,↓zK,↓zJ,↓reduceIte,zA,zB,zC,zD,zE,zF,zG,zH,zI,reduceCtorEq]
      done)
    |(
      refine zM zO zN [] rfl ?_
      all_goals simp only [push_cast,↓zK,↓zJ,↓reduceIte,zA,zB,zC,zD,zE,zF,zG,zH,zI,reduceCtorEq]
      all_goals repeat'(first|(apply zP<;>(intro hg;(try simp only [push_cast]at hg)))|apply And.intro|(intro hg;(try simp only [push_cast]at hg)))
      all_goals first|exact gA|(exact zQ (by omega))|skip
      (try simp only [zR,zS,reduceIte,zF]);refine hK3 _ ?_
      refine zM zO zN [] rfl ?_
      all_goals simp only [push_cast,↓zK,↓zJ,↓reduceIte,zA,zB,zC,zD,zE,zF,zG,zH,zI,reduceCtorEq]
      all_goals repeat'(first|(apply zP<;>(intro hg;(try simp only [push_cast]at hg)))|apply And.intro|(intro hg;(try simp only [push_cast]at hg)))
      all_goals first|exact gA|(exact zQ (by omega))|skip
      refine hL0 _ ⟨k+1,by omega,by omega,?_⟩
      first|rw [KA (by with_reducible assumption) (by with_reducible assumption)]|rw [Jz (by with_reducible assumption)]|rw [Uy (by with_reducible assumption)]
      refine zY rfl ?_ ?_ ?_<;>simp only [zf,ze,push_cast,↓zK,↓zJ,↓reduceIte,zA,zB,zC,zD,zE,zF,zG,zH,zI,reduceCtorEq]
      done)
  ·
   refine zk ?_
   have hkk:k=(gl x.next v).length:=by omega
   subst hkk
   (try simp only [zR,zS,reduceIte,zF]);refine hK1 _ ?_
   refine zL fun K hK=> ?_
   refine zM zO zN [] rfl ?_
   all_goals simp only [push_cast,↓zK,↓zJ,↓reduceIte,zA,zB,zC,zD,zE,zF,zG,zH,zI,reduceCtorEq]
   all_goals repeat'(first|(apply zP<;>(intro hg;(try simp only [push_cast]at hg)))|apply And.intro|(intro hg;(try simp only [push_cast]at hg)))
   all_goals first|exact gA|(exact zQ (by omega))|skip
   all_goals first|(refine hK _ ?_;clear hK K)|(simp only [push_cast];done)
   refine zX ?_
   (try simp only [zR,zS])
   refine⟨Or.inl rfl,?_⟩
   simp only [zd,push_cast,↓zK,↓zJ,↓reduceIte,zA,zB,zC,zD,zE,zF,zG,zH,zI,reduceCtorEq]
   all_goals first|rfl|skip
set_option maxRecDepth 20000 in
set_option maxHeartbeats 4000000 in
theorem uK (inn out:List Bool)(hn:inn.length≤256)(ho:out.length=inn.length):Fn Try.prog tyT 143 [.c (.lst 4 (dB inn)), .c (.lst 4 (dB out))] [.c (.lst 4 (dB (yI inn out)))]:=by
 refine zw (fn:=Try.f143) (ts:= [4]) Try.func143 (by kernel_rfl) rfl rfl (by rw [Try.ntmps143];exact Nat.le_of_ble_eq_true rfl) rfl (by simp only [szA,List.mem_cons,List.not_mem_nil,or_false,forall_eq_or_imp,forall_eq,VT.cells,szL];try decide) ?_
 rw [Try.ntmps143]
 simp only [push_cast,↓zK,↓zJ,↓reduceIte,zA,zB,zC,zD,zE,zF,zG,zH,zI,reduceCtorEq]
 refine zL fun K hK=> ?_
 refine zM zO zN [] rfl ?_
 simp only [push_cast,↓zK,↓zJ,↓reduceIte,zA,zB,zC,zD,zE,zF,zG,zH,zI,reduceCtorEq]
 repeat' apply And.intro
 all_goals try exact gB
 all_goals first|(refine hK _ ?_;clear hK K)|(simp only [push_cast];done)
 refine zL fun K hK=> ?_
 refine zM zO zN [] rfl ?_
 simp only [push_cast,↓zK,↓zJ,↓reduceIte,zA,zB,zC,zD,zE,zF,zG,zH,zI,reduceCtorEq]
 repeat' apply And.intro
 all_goals try exact gB
 all_goals first|(refine hK _ ?_;clear hK K)|(simp only [push_cast];done)
 refine zL fun K1 hK1=> ?_
 refine zL fun K hK=> ?_
 refine zM zO zN [] rfl ?_
 simp only [push_cast,↓zK,↓zJ,↓reduceIte,zA,zB,zC,zD,zE,zF,zG,zH,zI,reduceCtorEq]
 repeat' apply And.intro
 all_goals try exact gB
 all_goals first|(refine hK _ ?_;clear hK K)|(simp only [push_cast];done)
 refine zW ?_
 refine zi [6,10,11,12,13,14,15,16,17,18,19,20,21,22,23,24,25,26,27,28,29] [80] (fun(k:Nat)=> [(6, .int .i64 k),(5, .sl 80 [] 0 inn.length 4)]) (fun k=> []) (fun k=> [(80,⟨.ex,4,dB (mkB inn.length (qq inn out) k),none⟩)]) (fun k=>k≤inn.length) (fun k=>inn.length - k) 0 ?_ (by omega) ?_
 ·
  rw [Xa]
  refine zY rfl ?_ ?_ ?_<;>simp only [zf,ze,push_cast,↓zK,↓zJ,↓reduceIte,zA,zB,zC,zD,zE,zF,zG,zH,zI,reduceCtorEq]
 ·rintro k hk KL0 hL0
  have hml:=wU (f:=qq inn out) hk
  simp only [push_cast,↓zK,↓zJ,↓reduceIte,zA,zB,zC,zD,zE,zF,zG,zH,zI,reduceCtorEq]
  refine zL fun K2 hK2=> ?_
  refine zL fun K hK=> ?_
  refine zM zO zN [] rfl ?_
  simp only [push_cast,↓zK,↓zJ,↓reduceIte,zA,zB,zC,zD,zE,zF,zG,zH,zI,reduceCtorEq]
  repeat' apply And.intro
  all_goals try exact gB
  all_goals first|(refine hK _ ?_;clear hK K)|(simp only [push_cast];done)
  refine zU rfl (fun hc=> ?_) (fun hc=> ?_)<;>(try simp only [push_cast]at hc)
  ·
   refine zV ?_
   (try simp only [zR,zS,reduceIte,zF]);refine hK2 _ ?_
   refine zL fun K3 hK3=> ?_
   refine zW ?_
   refine zj false zO zN ?_ rfl ?_
   ·kernel_rfl
   all_goals simp only [push_cast,↓zK,↓zJ,↓reduceIte,zA,zB,zC,zD,zE,zF,zG,zH,zI,reduceCtorEq]
   all_goals repeat'(first|(apply zP<;>(intro hg;(try simp only [push_cast]at hg)))|apply And.intro|(intro hg;(try simp only [push_cast]at hg)))
   all_goals try exact gA
   all_goals(
     (try simp only [zR,zS,reduceIte,zF]);refine hK3 _ ?_
     refine zM zO zN [] rfl ?_
     simp only [push_cast,↓zK,↓zJ,↓reduceIte,zA,zB,zC,zD,zE,zF,zG,zH,zI,reduceCtorEq]
     repeat' apply And.intro
     all_goals try exact gB
     refine hL0 _ ⟨k+1,by omega,by omega,?_⟩
     first|rw [show(mkB inn.length (qq inn out) k).set k (!gb out k)=mkB inn.length (qq inn out) (k+1)from by rw [←xy (by omega)];unfold qq;rw [show gb inn k=true from by with_reducible assumption];rfl]|rw [show(mkB inn.length (qq inn out) k).set k false=mkB inn.length (qq inn out) (k+1)from by rw [←xy (by omega)];unfold qq;rw [show gb inn k=false from by with_reducible assumption];rfl]
     refine zY rfl ?_ ?_ ?_<;>simp only [zf,ze,push_cast,↓zK,↓zJ,↓reduceIte,zA,zB,zC,zD,zE,zF,zG,zH,zI,reduceCtorEq])
  ·
   refine zk ?_
   have hkk:k=inn.length:=by omega
   subst hkk
   (try simp only [zR,zS,reduceIte,zF]);refine hK1 _ ?_
   refine zL fun K hK=> ?_
   refine zM zO zN [] rfl ?_
   simp only [push_cast,↓zK,↓zJ,↓reduceIte,zA,zB,zC,zD,zE,zF,zG,zH,zI,reduceCtorEq]
   repeat' apply And.intro
   all_goals try exact gB
   all_goals first|(refine hK _ ?_;clear hK K)|(simp only [push_cast];done)
   refine zX ?_
   (try simp only [zR,zS])
   refine⟨Or.inl rfl,?_⟩
   simp only [zd,push_cast,↓zK,↓zJ,↓reduceIte,zA,zB,zC,zD,zE,zF,zG,zH,zI,reduceCtorEq]
   try rw [UB]
   unfold yI
   all_goals first|rfl|exact⟨rfl,by simp⟩|exact⟨by simp,rfl⟩|(simp;done)
set_option maxRecDepth 20000 in
set_option maxHeartbeats 4000000 in
theorem zEK (x y:Int):Fn Try.prog tyT 168 [.c (.int .i64 x), .c (.int .i64 y)] [.c (.int .i64 (if y>x then y else x))]:=by
 refine zw (fn:=Try.f168) (ts:= [4]) Try.func168 (by kernel_rfl) rfl rfl (by rw [Try.ntmps168];exact Nat.le_of_ble_eq_true rfl) rfl (by simp only [szA,List.mem_cons,List.not_mem_nil,or_false,forall_eq_or_imp,forall_eq,VT.cells,szL];try decide) ?_
 rw [Try.ntmps168]
 simp only [push_cast,↓zK,↓zJ,↓reduceIte,zA,zB,zC,zD,zE,zF,zG,zH,zI,reduceCtorEq]
 refine zL fun K hK=> ?_
 refine zM zO zN [] rfl ?_
 simp only [push_cast,↓zK,↓zJ,↓reduceIte,zA,zB,zC,zD,zE,zF,zG,zH,zI,reduceCtorEq]
 repeat' apply And.intro
 all_goals try exact gB
 all_goals first|(refine hK _ ?_;clear hK K)|(simp only [push_cast];done)
 refine zL fun K1 hK1=> ?_
 refine zL fun K hK=> ?_
 refine zM zO zN [] rfl ?_
 simp only [push_cast,↓zK,↓zJ,↓reduceIte,zA,zB,zC,zD,zE,zF,zG,zH,zI,reduceCtorEq]
 repeat' apply And.intro
 all_goals try exact gB
 all_goals first|(refine hK _ ?_;clear hK K)|(simp only [push_cast];done)
 refine zU rfl (fun hc=> ?_) (fun hc=> ?_)<;>(try simp only [push_cast]at hc)
 ·
  refine zL fun K hK=> ?_
  refine zM zO zN [] rfl ?_
  simp only [push_cast,↓zK,↓zJ,↓reduceIte,zA,zB,zC,zD,zE,zF,zG,zH,zI,reduceCtorEq]
  repeat' apply And.intro
  all_goals try exact gB
  all_goals first|(refine hK _ ?_;clear hK K)|(simp only [push_cast];done)
  refine zX ?_
  (try simp only [zR,zS])
  refine⟨Or.inl rfl,?_⟩
  simp only [zd,push_cast,↓zK,↓zJ,↓reduceIte,zA,zB,zC,zD,zE,zF,zG,zH,zI,reduceCtorEq]
  rw [if_neg (by omega)]
 ·
  refine zV ?_
  (try simp only [zR,zS,reduceIte,zF]);refine hK1 _ ?_
  refine zL fun K hK=> ?_
  refine zM zO zN [] rfl ?_
  simp only [push_cast,↓zK,↓zJ,↓reduceIte,zA,zB,zC,zD,zE,zF,zG,zH,zI,reduceCtorEq]
  repeat' apply And.intro
  all_goals try exact gB
  all_goals first|(refine hK _ ?_;clear hK K)|(simp only [push_cast];done)
  refine zX ?_
  (try simp only [zR,zS])
  refine⟨Or.inl rfl,?_⟩
  simp only [zd,push_cast,↓zK,↓zJ,↓reduceIte,zA,zB,zC,zD,zE,zF,zG,zH,zI,reduceCtorEq]
  split<;>omega
set_option maxRecDepth 20000 in
set_option maxHeartbeats 4000000 in
theorem zFi (x:L7)(n:Nat)(hx:x.Ok n)(inn:List Bool)(hi:inn.length=n):Fn Try.prog tyT 142 [.agg (dL7 x), .c (.lst 4 (dB inn))] [.c (.int .i64 (yK x inn n))]:=by
 have hn1:=hx.hn
 have hn2:=hx.ho
 have hn3:=hx.hp
 have hn4:=hx.hx
 have hn5:=hx.hv
 have hn6:=hx.hk
 have hM:=zEK
 unfold dL7
 refine zw (fn:=Try.f142) (ts:= [4]) Try.func142 (by kernel_rfl) rfl rfl (by rw [Try.ntmps142];exact Nat.le_of_ble_eq_true rfl) rfl (by simp only [szA,List.mem_cons,List.not_mem_nil,or_false,forall_eq_or_imp,forall_eq,VT.cells,szL];try decide) ?_
 rw [Try.ntmps142]
 simp only [push_cast,↓zK,↓zJ,↓reduceIte,zA,zB,zC,zD,zE,zF,zG,zH,zI,reduceCtorEq]
 refine zL fun K hK=> ?_
 refine zM zO zN [] rfl ?_
 simp only [push_cast,↓zK,↓zJ,↓reduceIte,zA,zB,zC,zD,zE,zF,zG,zH,zI,reduceCtorEq]
 repeat' apply And.intro
 all_goals try exact gB
 all_goals first|(refine hK _ ?_;clear hK K)|(simp only [push_cast];done)
 refine zL fun K hK=> ?_
 refine zM zO zN [] rfl ?_
 simp only [push_cast,↓zK,↓zJ,↓reduceIte,zA,zB,zC,zD,zE,zF,zG,zH,zI,reduceCtorEq]
 repeat' apply And.intro
 all_goals try exact gB
 all_goals first|(refine hK _ ?_;clear hK K)|(simp only [push_cast];done)
 refine zL fun K1 hK1=> ?_
 refine zL fun K hK=> ?_
 refine zM zO zN [] rfl ?_
 simp only [push_cast,↓zK,↓zJ,↓reduceIte,zA,zB,zC,zD,zE,zF,zG,zH,zI,reduceCtorEq]
 repeat' apply And.intro
 all_goals try exact gB
 all_goals first|(refine hK _ ?_;clear hK K)|(simp only [push_cast];done)
 refine zW ?_
 refine zi [5,6,7,8,9,10,11,12,13,14,15,16,17,18,19,20,21,22,23] [] (fun(k:Nat)=> [(6, .int .i64 k),(5, .int .i64 (yK x inn k))]) (fun k=> []) (fun k=> []) (fun k=>k≤n) (fun k=>n - k) 0 ?_ (by omega) ?_
 ·
  rw [show yK x inn 0= -1 from rfl]
  refine zY rfl ?_ ?_ ?_<;>simp only [zf,ze,push_cast,↓zK,↓zJ,↓reduceIte,zA,zB,zC,zD,zE,zF,zG,zH,zI,reduceCtorEq]
 ·rintro k hk KL0 hL0
  simp only [push_cast,↓zK,↓zJ,↓reduceIte,zA,zB,zC,zD,zE,zF,zG,zH,zI,reduceCtorEq]
  refine zL fun K2 hK2=> ?_
  refine zL fun K hK=> ?_
  refine zM zO zN [] rfl ?_
  simp only [push_cast,↓zK,↓zJ,↓reduceIte,zA,zB,zC,zD,zE,zF,zG,zH,zI,reduceCtorEq]
  repeat' apply And.intro
  all_goals try exact gB
  all_goals first|(refine hK _ ?_;clear hK K)|(simp only [push_cast];done)
  refine zU rfl (fun hc=> ?_) (fun hc=> ?_)<;>(try simp only [push_cast]at hc)
  ·
   refine zV ?_
   (try simp only [zR,zS,reduceIte,zF]);refine hK2 _ ?_
   refine zL fun K3 hK3=> ?_
   refine zW ?_
   refine zL fun K hK=> ?_
   refine zM zO zN [] rfl ?_
   simp only [push_cast,↓zK,↓zJ,↓reduceIte,zA,zB,zC,zD,zE,zF,zG,zH,zI,reduceCtorEq]
   repeat' apply And.intro
   all_goals try exact gB
   all_goals first|(refine hK _ ?_;clear hK K)|(simp only [push_cast];done)
   refine zU rfl (fun hc=> ?_) (fun hc=> ?_)<;>(try simp only [push_cast]at hc)
   ·
    refine zM zO zN [] rfl ?_
    all_goals refine zo 7 fun K9 hK9=> ?_
    all_goals simp only [push_cast,↓zK,↓zJ,↓reduceIte,zA,zB,zC,zD,zE,zF,zG,zH,zI,reduceCtorEq]
    all_goals repeat'(first|(apply zP<;>(intro hg;(try simp only [push_cast]at hg)))|(refine⟨_,hM _ _,?_⟩;simp only [push_cast,↓zK,↓zJ,↓reduceIte,zA,zB,zC,zD,zE,zF,zG,zH,zI,reduceCtorEq])|apply And.intro|(intro hg;(try simp only [push_cast]at hg)))
    all_goals try exact gA
    all_goals first|(refine hK9 _ ?_;clear hK9 K9)|(simp only [push_cast];done)
    all_goals simp only [push_cast,↓zK,↓zJ,↓reduceIte,zA,zB,zC,zD,zE,zF,zG,zH,zI,reduceCtorEq]
    all_goals repeat'(first|(apply zP<;>(intro hg;(try simp only [push_cast]at hg)))|(refine⟨_,hM _ _,?_⟩;simp only [push_cast,↓zK,↓zJ,↓reduceIte,zA,zB,zC,zD,zE,zF,zG,zH,zI,reduceCtorEq])|apply And.intro|(intro hg;(try simp only [push_cast]at hg)))
    all_goals try exact gA
    (try simp only [zR,zS,reduceIte,zF]);refine hK3 _ ?_
    refine zM zO zN [] rfl ?_
    simp only [push_cast,↓zK,↓zJ,↓reduceIte,zA,zB,zC,zD,zE,zF,zG,zH,zI,reduceCtorEq]
    repeat' apply And.intro
    all_goals try exact gB
    refine hL0 _ ⟨k+1,by omega,by omega,?_⟩
    first|rw [zBA (by with_reducible assumption)]|rw [zCb (by with_reducible assumption)]
    refine zY rfl ?_ ?_ ?_<;>simp only [zf,ze,push_cast,↓zK,↓zJ,↓reduceIte,zA,zB,zC,zD,zE,zF,zG,zH,zI,reduceCtorEq]
   ·
    refine zV ?_
    (try simp only [zR,zS,reduceIte,zF]);refine hK3 _ ?_
    refine zM zO zN [] rfl ?_
    simp only [push_cast,↓zK,↓zJ,↓reduceIte,zA,zB,zC,zD,zE,zF,zG,zH,zI,reduceCtorEq]
    repeat' apply And.intro
    all_goals try exact gB
    refine hL0 _ ⟨k+1,by omega,by omega,?_⟩
    first|rw [zBA (by with_reducible assumption)]|rw [zCb (by with_reducible assumption)]
    refine zY rfl ?_ ?_ ?_<;>simp only [zf,ze,push_cast,↓zK,↓zJ,↓reduceIte,zA,zB,zC,zD,zE,zF,zG,zH,zI,reduceCtorEq]
  ·
   refine zk ?_
   have hkk:k=n:=by omega
   subst hkk
   (try simp only [zR,zS,reduceIte,zF]);refine hK1 _ ?_
   refine zL fun K hK=> ?_
   refine zM zO zN [] rfl ?_
   simp only [push_cast,↓zK,↓zJ,↓reduceIte,zA,zB,zC,zD,zE,zF,zG,zH,zI,reduceCtorEq]
   repeat' apply And.intro
   all_goals try exact gB
   all_goals first|(refine hK _ ?_;clear hK K)|(simp only [push_cast];done)
   refine zX ?_
   (try simp only [zR,zS])
   refine⟨Or.inl rfl,?_⟩
   simp only [zd,push_cast,↓zK,↓zJ,↓reduceIte,zA,zB,zC,zD,zE,zF,zG,zH,zI,reduceCtorEq]
   all_goals first|rfl|skip
set_option maxRecDepth 20000 in
set_option maxHeartbeats 4000000 in
theorem zFg (n:Nat)(hn:n≤256):Fn Try.prog tyT 104 [.c (.int .i64 n)] [.c (.lst 4 (dB (List.replicate n true)))]:=by
 refine zw (fn:=Try.f104) (ts:= [2]) Try.func104 (by kernel_rfl) rfl rfl (by rw [Try.ntmps104];exact Nat.le_of_ble_eq_true rfl) rfl (by simp only [szA,List.mem_cons,List.not_mem_nil,or_false,forall_eq_or_imp,forall_eq,VT.cells,szL];try decide) ?_
 rw [Try.ntmps104]
 simp only [push_cast,↓zK,↓zJ,↓reduceIte,zA,zB,zC,zD,zE,zF,zG,zH,zI,reduceCtorEq]
 refine zL fun K hK=> ?_
 refine zM zO zN [] rfl ?_
 simp only [push_cast,↓zK,↓zJ,↓reduceIte,zA,zB,zC,zD,zE,zF,zG,zH,zI,reduceCtorEq]
 repeat' apply And.intro
 all_goals try exact gB
 all_goals first|(refine hK _ ?_;clear hK K)|(simp only [push_cast];done)
 refine zL fun K hK=> ?_
 refine zM zO zN [] rfl ?_
 simp only [push_cast,↓zK,↓zJ,↓reduceIte,zA,zB,zC,zD,zE,zF,zG,zH,zI,reduceCtorEq]
 repeat' apply And.intro
 all_goals try exact gB
 all_goals first|(refine hK _ ?_;clear hK K)|(simp only [push_cast];done)
 refine zL fun K1 hK1=> ?_
 refine zL fun K hK=> ?_
 refine zM zO zN [] rfl ?_
 simp only [push_cast,↓zK,↓zJ,↓reduceIte,zA,zB,zC,zD,zE,zF,zG,zH,zI,reduceCtorEq]
 repeat' apply And.intro
 all_goals try exact gB
 all_goals first|(refine hK _ ?_;clear hK K)|(simp only [push_cast];done)
 refine zW ?_
 refine zi [4,7,8,9,10,11,12,13,14] [48] (fun(k:Nat)=> [(4, .int .i64 k),(3, .sl 48 [] 0 n 4)]) (fun k=> []) (fun k=> [(48,⟨.ex,4,dB (mkB n (fun _=>true) k),none⟩)]) (fun k=>k≤n) (fun k=>n - k) 0 ?_ (by omega) ?_
 ·
  rw [Xa]
  refine zY rfl ?_ ?_ ?_<;>simp only [zf,ze,push_cast,↓zK,↓zJ,↓reduceIte,zA,zB,zC,zD,zE,zF,zG,zH,zI,reduceCtorEq]
 ·rintro k hk KL0 hL0
  have hml:=wU (f:=fun _=>true) hk
  simp only [push_cast,↓zK,↓zJ,↓reduceIte,zA,zB,zC,zD,zE,zF,zG,zH,zI,reduceCtorEq]
  refine zL fun K2 hK2=> ?_
  refine zL fun K hK=> ?_
  refine zM zO zN [] rfl ?_
  simp only [push_cast,↓zK,↓zJ,↓reduceIte,zA,zB,zC,zD,zE,zF,zG,zH,zI,reduceCtorEq]
  repeat' apply And.intro
  all_goals try exact gB
  all_goals first|(refine hK _ ?_;clear hK K)|(simp only [push_cast];done)
  refine zU rfl (fun hc=> ?_) (fun hc=> ?_)<;>(try simp only [push_cast]at hc)
  ·
   refine zV ?_
   (try simp only [zR,zS,reduceIte,zF]);refine hK2 _ ?_
   refine zL fun K3 hK3=> ?_
   refine zW ?_
   refine zM zO zN [] rfl ?_
   simp only [push_cast,↓zK,↓zJ,↓reduceIte,zA,zB,zC,zD,zE,zF,zG,zH,zI,reduceCtorEq]
   repeat' apply And.intro
   all_goals try exact gB
   (try simp only [zR,zS,reduceIte,zF]);refine hK3 _ ?_
   refine zM zO zN [] rfl ?_
   simp only [push_cast,↓zK,↓zJ,↓reduceIte,zA,zB,zC,zD,zE,zF,zG,zH,zI,reduceCtorEq]
   repeat' apply And.intro
   all_goals try exact gB
   refine hL0 _ ⟨k+1,by omega,by omega,?_⟩
   rw [show(mkB n (fun _=>true) k).set k true=mkB n (fun _=>true) (k+1)from xy (by omega)]
   refine zY rfl ?_ ?_ ?_<;>simp only [zf,ze,push_cast,↓zK,↓zJ,↓reduceIte,zA,zB,zC,zD,zE,zF,zG,zH,zI,reduceCtorEq]
  ·
   refine zk ?_
   have hkk:k=n:=by omega
   subst hkk
   (try simp only [zR,zS,reduceIte,zF]);refine hK1 _ ?_
   refine zL fun K hK=> ?_
   refine zM zO zN [] rfl ?_
   simp only [push_cast,↓zK,↓zJ,↓reduceIte,zA,zB,zC,zD,zE,zF,zG,zH,zI,reduceCtorEq]
   repeat' apply And.intro
   all_goals try exact gB
   all_goals first|(refine hK _ ?_;clear hK K)|(simp only [push_cast];done)
   refine zX ?_
   (try simp only [zR,zS])
   refine⟨Or.inl rfl,?_⟩
   simp only [zd,push_cast,↓zK,↓zJ,↓reduceIte,zA,zB,zC,zD,zE,zF,zG,zH,zI,reduceCtorEq]
   rw [UB,show(List.range k).map (fun _=>true)=List.replicate k true from by rw [List.map_const',List.length_range]]
   all_goals first|rfl|exact⟨rfl,by simp⟩|(simp;done)
end Go.Proofs.Ythepmdkpbjfdcaa
