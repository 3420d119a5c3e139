/- Who wins a play; the sign of its loop sum -/
import Derived.Test.YtdbecmmeifdafaaB17zbr
import Derived.Test.YtdbecmmeifdafaaGWzbr
import Derived.Test.YtdbecmmeifdafaaB7zbr
import Derived.Test.YtdbecmmeifdafaaB16zbr
namespace Go.Proofs.Ytdbecmmeifdafaa
open Nat renaming reduceMod → zA, reduceMul → zB, reduceDiv → zC, reduceAdd → zD, reduceSub → zE, reduceEqDiff → zF, reduceBEq → zG, reduceLT → zH, reduceLeDiff → zI
open Go.RowKit
set_option linter.unusedVariables false
set_option linter.unusedSimpArgs false
def wN (g:Pa)(xs:List Int):Nat→Int
 |0=> -1
 |k+1=>if gi g.prio (gi xs k).toNat>wN g xs k then gi g.prio (gi xs k).toNat else wN g xs k
theorem zAO (g:Pa)(xs:List Int)(k:Nat):wN g xs (k+1)=if gi g.prio (gi xs k).toNat>wN g xs k then gi g.prio (gi xs k).toNat else wN g xs k:=rfl
theorem zAX (g:Pa)(xs:List Int): ∀k j,j<k→gi g.prio (gi xs j).toNat≤wN g xs k
 |0,j,h=>by omega
 |k+1,j,h=>by
  rw [zAO]
  by_cases e:j=k
  ·subst e;split<;>omega
  ·have :=zAX g xs k j (by omega)
   split<;>omega
theorem zCD (g:Pa)(xs:List Int): ∀k,wN g xs k= -1∨∃j,j<k∧gi g.prio (gi xs j).toNat=wN g xs k
 |0=> .inl rfl
 |k+1=>by
  rw [zAO]
  split
  ·exact .inr ⟨k,by omega,rfl⟩
  ·rcases zCD g xs k with e|⟨j,hj,e⟩
   ·exact .inl e
   ·exact .inr ⟨j,by omega,e⟩
theorem uO {f:Nat→Int}{h:Nat→Int}{xs:List Int}: ∀k,k≤xs.length→(∀j,j<k→f j=h (gi xs j).toNat)→Zq f k=qX h ((xs.take k).map Int.toNat)
 |0,_,_=>rfl
 |k+1,hk,hf=>by
  rw [Kt (by omega),List.map_append,List.map_cons,List.map_nil,WB,←uO k (by omega) fun j hj=>hf j (by omega),←hf k (by omega)]
  rfl
theorem zEO {g:Pa}(hb:zu g=true){l:Ls}(hl:xN g.a l=true)(hn:l.loop.length≤g.a.owner.length): ¬Yp g l=0∧(0<Yp g l↔Int.tmod (wN g l.loop l.loop.length) 2=0):=by
 obtain⟨hpar,-,-⟩:=vP hb
 obtain⟨hao,hpl,hpr⟩:=yS hpar
 have hwb:=yI hb
 have ha:(za g).a=g.a:=by rw [xZ hb]
 have hlw:xN (za g).a l=true:=by rw [ha];exact hl
 have hpos:=(wn hl).2.1
 have hat:=fun k (hk:k<l.loop.length)=>JB hl hk
 have hstep: ∀k,k<l.loop.length→qm (za g) (gi l.loop k) (vo l.loop (gi l.loop 0) k)=sg g.a.owner.length (gi g.prio (gi l.loop k).toNat).toNat:=fun k hk=>by
  obtain⟨h1,h2⟩:=hat k hk
  obtain⟨j,hj,e⟩:=xv.1 h2
  have hv:(gi l.loop k).toNat<g.a.owner.length:=by omega
  have e3:qm (za g) (gi l.loop k) (vo l.loop (gi l.loop 0) k)=qm (za g) ((gi l.loop k).toNat:Int) (gi (gl (za g).a.next (gi l.loop k).toNat) j):=by rw [ha,e,Int.toNat_of_nonneg h1.1]
  rw [e3,zGb hwb (by rw [ha];exact hv) (by rw [ha];exact hj),zCp hb hv hj]
 have hsum:Yp g l=qX (fun x=>sg g.a.owner.length (gi g.prio x).toNat) (l.loop.map Int.toNat):=by
  rw [kw hb,JX hwb hlw]
  unfold UZ
  rw [uO (h:=fun x=>sg g.a.owner.length (gi g.prio x).toNat) l.loop.length (Nat.le_refl _) hstep,List.take_length]
 have hmax:=zAX g l.loop l.loop.length
 have hex: ∃j,j<l.loop.length∧gi g.prio (gi l.loop j).toNat=wN g l.loop l.loop.length:=by
  rcases zCD g l.loop l.loop.length with e|e
  ·exfalso
   have :=hmax 0 (by omega)
   have :=(hpr _ (by have :=(hat 0 (by omega)).1;omega:(gi l.loop 0).toNat<g.a.owner.length)).1
   omega
  ·exact e
 obtain⟨j,hj,ej⟩:=hex
 have hj2:=hpr _ (by have :=(hat j hj).1;omega:(gi l.loop j).toNat<g.a.owner.length)
 have hs:=VK (n:=g.a.owner.length) (by omega) (pr:=fun x=>(gi g.prio x).toNat) (t:=(wN g l.loop l.loop.length).toNat) (L:=l.loop.map Int.toNat) (by rw [List.length_map];exact hn) (fun x hx=>by
  obtain⟨y,hy,rfl⟩:=List.mem_map.1 hx
  obtain⟨i,hi,e⟩:=xv.1 ((Zp _ _).2 hy)
  have :=hmax i hi
  rw [e]at this
  show(gi g.prio y.toNat).toNat≤_
  omega) ⟨(gi l.loop j).toNat,List.mem_map.2 ⟨_,zAI hj,rfl⟩,by show(gi g.prio (gi l.loop j).toNat).toNat=_;rw [ej]⟩
 rw [hsum,zHF (by omega)]
 have hs2:=hs.2
 rw [KN]at hs2
 rcases Nat.mod_two_eq_zero_or_one (wN g l.loop l.loop.length).toNat with e|e
 ·have :=hs.1 e
  rw [e]
  exact⟨by omega,fun _=>rfl,fun _=>this⟩
 ·have :=hs2 e
  rw [e]
  exact⟨by omega,fun h=>by omega,fun h=>by simp at h⟩
set_option maxRecDepth 20000 in
set_option maxHeartbeats 4000000 in
theorem zGB (g:Pa)(hg:g.Ln 1048576)(xs:List Int)(hx:xs.length≤1048576)(hr: ∀j,j<xs.length→0≤gi xs j∧gi xs j<g.prio.length):Fn Try.prog tyT 105 [.agg (dPa g), .c (DI xs)] [.c (.int .i64 (wN g xs xs.length))]:=by
 unfold dPa
 refine zt (fn:=Try.f105) (ts:= [4]) Try.func105 (by kernel_rfl) rfl rfl (by rw [Try.ntmps105];exact Nat.le_of_ble_eq_true rfl) rfl (by simp only [szA,List.mem_cons,List.not_mem_nil,or_false,forall_eq_or_imp,forall_eq,VT.cells,szL];try decide) ?_
 rw [Try.ntmps105]
 simp only [push_cast,↓zK,↓zJ,↓reduceIte,zA,zB,zC,zD,zE,zF,zG,zH,zI,reduceCtorEq]
 refine zL fun K hK=> ?_
 refine zM zP zN [] rfl ?_
 simp only [push_cast,↓zK,↓zJ,↓reduceIte,zA,zB,zC,zD,zE,zF,zG,zH,zI,reduceCtorEq]
 repeat' apply And.intro
 all_goals try exact gB
 all_goals first|(refine hK _ ?_;clear hK K)|(simp only [push_cast];done)
 refine zL fun K hK=> ?_
 refine zM zP zN [] rfl ?_
 simp only [push_cast,↓zK,↓zJ,↓reduceIte,zA,zB,zC,zD,zE,zF,zG,zH,zI,reduceCtorEq]
 repeat' apply And.intro
 all_goals try exact gB
 all_goals first|(refine hK _ ?_;clear hK K)|(simp only [push_cast];done)
 refine zL fun K1 hK1=> ?_
 refine zL fun K hK=> ?_
 refine zM zP zN [] rfl ?_
 simp only [push_cast,↓zK,↓zJ,↓reduceIte,zA,zB,zC,zD,zE,zF,zG,zH,zI,reduceCtorEq]
 repeat' apply And.intro
 all_goals try exact gB
 all_goals first|(refine hK _ ?_;clear hK K)|(simp only [push_cast];done)
 refine zT ?_
 refine zd [5,7,10,11,12,13,14,15,16,17,18,19,20,21] [] (fun(k:Nat)=> [(10, .int .i64 k),(5, .int .i64 (wN g xs k))]) (fun k=> []) (fun k=> []) (fun k=>k≤xs.length) (fun k=>xs.length - k) 0 ?_ (by omega) ?_
 ·
  rw [show wN g xs 0= -1 from rfl]
  refine zW rfl ?_ ?_ ?_<;>simp only [zc,zb,push_cast,↓zK,↓zJ,↓reduceIte,zA,zB,zC,zD,zE,zF,zG,zH,zI,reduceCtorEq]
 ·rintro k hk KL0 hL0
  simp only [push_cast,↓zK,↓zJ,↓reduceIte,zA,zB,zC,zD,zE,zF,zG,zH,zI,reduceCtorEq]
  refine zL fun K hK=> ?_
  refine zM zP zN [] rfl ?_
  simp only [push_cast,↓zK,↓zJ,↓reduceIte,zA,zB,zC,zD,zE,zF,zG,zH,zI,reduceCtorEq]
  repeat' apply And.intro
  all_goals try exact gB
  all_goals first|(refine hK _ ?_;clear hK K)|(simp only [push_cast];done)
  refine zL fun K2 hK2=> ?_
  refine zU rfl (fun hc=> ?_) (fun hc=> ?_)<;>(try simp only [push_cast]at hc)
  ·
   refine zV ?_
   (try simp only [zR,zS,reduceIte,zF]);refine hK2 _ ?_
   refine zL fun K3 hK3=> ?_
   refine zT ?_
   have hrk:=hr k (by omega)
   refine zL fun K hK=> ?_
   refine zM zP zN [] rfl ?_
   simp only [push_cast,↓zK,↓zJ,↓reduceIte,zA,zB,zC,zD,zE,zF,zG,zH,zI,reduceCtorEq]
   repeat' apply And.intro
   all_goals try exact gB
   all_goals first|(refine hK _ ?_;clear hK K)|(simp only [push_cast];done)
   refine zM zP zN [] rfl ?_
   simp only [push_cast,↓zK,↓zJ,↓reduceIte,zA,zB,zC,zD,zE,zF,zG,zH,zI,reduceCtorEq]
   repeat' apply And.intro
   all_goals try exact gB
   (try simp only [zR,zS,reduceIte,zF]);refine hK3 _ ?_
   refine zM zP zN [] rfl ?_
   simp only [push_cast,↓zK,↓zJ,↓reduceIte,zA,zB,zC,zD,zE,zF,zG,zH,zI,reduceCtorEq]
   repeat' apply And.intro
   all_goals try exact gB
   refine hL0 _ ⟨k+1,by omega,by omega,?_⟩
   rw [zAO]
   refine zW rfl ?_ ?_ ?_<;>simp only [zc,zb,push_cast,↓zK,↓zJ,↓reduceIte,zA,zB,zC,zD,zE,zF,zG,zH,zI,reduceCtorEq]
   all_goals first|rfl|(refine congrArg (AV.int .i64) ?_;omega)|skip
  ·
   refine ze ?_
   have hkk:k=xs.length:=by omega
   subst hkk
   (try simp only [zR,zS,reduceIte,zF]);refine hK1 _ ?_
   refine zL fun K hK=> ?_
   refine zM zP zN [] rfl ?_
   simp only [push_cast,↓zK,↓zJ,↓reduceIte,zA,zB,zC,zD,zE,zF,zG,zH,zI,reduceCtorEq]
   repeat' apply And.intro
   all_goals try exact gB
   all_goals first|(refine hK _ ?_;clear hK K)|(simp only [push_cast];done)
   refine zX ?_
   (try simp only [zR,zS])
   refine⟨Or.inl rfl,?_⟩
   simp only [zg,push_cast,↓zK,↓zJ,↓reduceIte,zA,zB,zC,zD,zE,zF,zG,zH,zI,reduceCtorEq]
set_option maxRecDepth 20000 in
set_option maxHeartbeats 4000000 in
theorem zB2 (g:Pa)(hg:g.Ln 1048576)(hok:yD g=true)(l:Ls)(hl:l.Ln 1048576)(hla:xN g.a l=true):Fn Try.prog tyT 52 [.agg (dPa g), .agg (dLs l)] [.c (.int .i64 (Int.tmod (wN g l.loop l.loop.length) 2))]:=by
 obtain⟨hao,hpl,hpr⟩:=yS hok
 have hP:=We g hg
 rw [hok]at hP
 have hI:=jI g.a l hg.a hl hao
 rw [hla]at hI
 have hT:=zGB g hg l.loop (by have :=(wn hla).2.2;omega) (fun j hj=>by have :=(JB hla hj).1;omega)
 unfold dPa at hP hT
 unfold dAr dLs at hI
 unfold dPa dLs
 refine zt (fn:=Try.f52) (ts:= [4]) Try.func52 (by kernel_rfl) rfl rfl (by rw [Try.ntmps52];exact Nat.le_of_ble_eq_true rfl) rfl (by simp only [szA,List.mem_cons,List.not_mem_nil,or_false,forall_eq_or_imp,forall_eq,VT.cells,szL];try decide) ?_
 rw [Try.ntmps52]
 simp only [push_cast,↓zK,↓zJ,↓reduceIte,zA,zB,zC,zD,zE,zF,zG,zH,zI,reduceCtorEq]
 refine zL fun K hK=> ?_
 refine zM zP zN [] rfl ?_
 simp only [push_cast,↓zK,↓zJ,↓reduceIte,zA,zB,zC,zD,zE,zF,zG,zH,zI,reduceCtorEq]
 repeat' apply And.intro
 all_goals try exact gB
 all_goals first|(refine hK _ ?_;clear hK K)|(simp only [push_cast];done)
 refine zL fun K1 hK1=> ?_
 refine zL fun K hK=> ?_
 refine zf false zP zN ?_ rfl ?_
 ·kernel_rfl
 all_goals refine zp 2 fun K9 hK9=> ?_
 all_goals simp only [push_cast,↓zK,↓zJ,↓reduceIte,zA,zB,zC,zD,zE,zF,zG,zH,zI,reduceCtorEq]
 all_goals repeat'(first|(apply zO<;>(intro hg;(try simp only [push_cast]at hg)))|(refine⟨_,hP,?_⟩;simp only [push_cast,↓zK,↓zJ,↓reduceIte,zA,zB,zC,zD,zE,zF,zG,zH,zI,reduceCtorEq])|apply And.intro|(intro hg;(try simp only [push_cast]at hg)))
 all_goals try exact gA
 all_goals first|(refine hK9 _ ?_;clear hK9 K9)|(simp only [push_cast];done)
 all_goals refine zp 6 fun K9 hK9=> ?_
 all_goals simp only [push_cast,↓zK,↓zJ,↓reduceIte,zA,zB,zC,zD,zE,zF,zG,zH,zI,reduceCtorEq]
 all_goals repeat'(first|(apply zO<;>(intro hg;(try simp only [push_cast]at hg)))|(refine⟨_,hI,?_⟩;simp only [push_cast,↓zK,↓zJ,↓reduceIte,zA,zB,zC,zD,zE,zF,zG,zH,zI,reduceCtorEq])|apply And.intro|(intro hg;(try simp only [push_cast]at hg)))
 all_goals try exact gA
 all_goals first|(refine hK9 _ ?_;clear hK9 K9)|(simp only [push_cast];done)
 all_goals simp only [push_cast,↓zK,↓zJ,↓reduceIte,zA,zB,zC,zD,zE,zF,zG,zH,zI,reduceCtorEq]
 all_goals repeat'(first|(apply zO<;>(intro hg;(try simp only [push_cast]at hg)))|(refine⟨_,hP,?_⟩;simp only [push_cast,↓zK,↓zJ,↓reduceIte,zA,zB,zC,zD,zE,zF,zG,zH,zI,reduceCtorEq])|(refine⟨_,hI,?_⟩;simp only [push_cast,↓zK,↓zJ,↓reduceIte,zA,zB,zC,zD,zE,zF,zG,zH,zI,reduceCtorEq])|apply And.intro|(intro hg;(try simp only [push_cast]at hg)))
 all_goals try exact gA
 all_goals first|(refine hK _ ?_;clear hK K)|(simp only [push_cast];done)
 all_goals(
   refine zU rfl (fun hc=> ?_) (fun hc=> ?_)
   skip
   ·exfalso;first|(cases hc;done)|(simp only [push_cast]at hc;done)|(simp only [push_cast]at hc;omega)|omega
   refine zV ?_
   (try simp only [zR,zS,reduceIte,zF]);refine hK1 _ ?_
   refine zL fun K hK=> ?_
   refine zM zP zN [] rfl ?_
   all_goals refine zm 4 fun K9 hK9=> ?_
   all_goals simp only [push_cast,↓zK,↓zJ,↓reduceIte,zA,zB,zC,zD,zE,zF,zG,zH,zI,reduceCtorEq]
   all_goals repeat'(first|(apply zO<;>(intro hg;(try simp only [push_cast]at hg)))|(refine⟨_,hT,?_⟩;simp only [push_cast,↓zK,↓zJ,↓reduceIte,zA,zB,zC,zD,zE,zF,zG,zH,zI,reduceCtorEq])|apply And.intro|(intro hg;(try simp only [push_cast]at hg)))
   all_goals try exact gA
   all_goals first|(refine hK9 _ ?_;clear hK9 K9)|(simp only [push_cast];done)
   all_goals simp only [push_cast,↓zK,↓zJ,↓reduceIte,zA,zB,zC,zD,zE,zF,zG,zH,zI,reduceCtorEq]
   all_goals repeat'(first|(apply zO<;>(intro hg;(try simp only [push_cast]at hg)))|(refine⟨_,hT,?_⟩;simp only [push_cast,↓zK,↓zJ,↓reduceIte,zA,zB,zC,zD,zE,zF,zG,zH,zI,reduceCtorEq])|apply And.intro|(intro hg;(try simp only [push_cast]at hg)))
   all_goals try exact gA
   all_goals first|(refine hK _ ?_;clear hK K)|(simp only [push_cast];done)
   refine zX ?_
   (try simp only [zR,zS])
   refine⟨Or.inl rfl,?_⟩
   simp only [zg,push_cast,↓zK,↓zJ,↓reduceIte,zA,zB,zC,zD,zE,zF,zG,zH,zI,reduceCtorEq])
attribute [-push_cast] rm
def prL (code:List Int)(seed:Int)(j:Nat)(m:Int)(k:Nat):List Int:=(List.range k).map fun i=>dv code seed (j+i) m
theorem zIC (code:List Int)(seed:Int)(j:Nat)(m:Int)(k:Nat):(prL code seed j m k).length=k:=by simp [prL]
theorem prL_s (code:List Int)(seed:Int)(j:Nat)(m:Int)(k:Nat):prL code seed j m (k+1)=prL code seed j m k++ [dv code seed (j+k) m]:=by simp [prL,List.range_succ]
theorem zJX {code:List Int}{seed:Int}{j:Nat}{m:Int}{k v:Nat}(h:v<k):gi (prL code seed j m k) v=dv code seed (j+v) m:=by
 unfold gi prL
 rw [List.getD_eq_getElem?_getD,List.getElem?_map,List.getElem?_range h]
 rfl
theorem zHI {a:Ar}(h:yA a=true):a.Ln 1048576:=by
 have hl:=zw h
 refine⟨by unfold LnI;omega,by omega,fun r hr=> ?_⟩
 obtain⟨v,hv,rfl⟩:=zAg hr
 have :=(yG h (v:=v) (by omega)).2.2.2.1
 omega
theorem pa_ok {a:Ar}(h:yA a=true){p:List Int}(hl:p.length=a.owner.length){m:Int}(hm:m≤41)(hp: ∀v,v<p.length→0≤gi p v∧gi p v<m):yD ⟨a,p⟩=true:=by
 unfold yD
 rw [h,decide_eq_true (show(⟨a,p⟩:Pa).prio.length=(⟨a,p⟩:Pa).a.owner.length from hl),xO]
 ·rfl
 ·intro k hk
  have :=hp k hk
  exact decide_eq_true ⟨this.1,by show gi p k≤40;omega⟩
theorem pa_ln {g:Pa}(h:yD g=true):g.Ln 1048576:=by
 obtain⟨h1,h2,-⟩:=yS h
 have hl:=zw h1
 exact⟨zHI h1,by unfold LnI;omega⟩
theorem zDs {g:Pa}(h:yD g=true)(hn:g.a.owner.length≤4)(hp: ∀v,v<g.a.owner.length→gi g.prio v≤3):zu g=true:=by
 obtain⟨h1,h2,h3⟩:=yS h
 have hl:=zw h1
 refine Kb h (by omega) fun v hv=> ?_
 have a:=h3 v hv
 have b:=hp v hv
 obtain⟨n,hn2⟩: ∃n,g.a.owner.length=n:=⟨_,rfl⟩
 obtain⟨p,hp2⟩: ∃p,(gi g.prio v).toNat=p:=⟨_,rfl⟩
 rw [hn2,hp2]
 have hn3:n≤4:=by omega
 have hp3:p≤3:=by omega
 have key: ∀n:Nat,n≤4→∀p:Nat,p≤3→vL (n:Int) p=true:=by decide
 exact key n hn3 p hp3
end Go.Proofs.Ytdbecmmeifdafaa
