/- sets and pairs by dice, copies, equal games, plays of places: walks -/
import Derived.Test.YthepmdkpbjfdcaaGreatB6zff
import Derived.Test.YthepmdkpbjfdcaaGreatB7zff
import Derived.Test.YthepmdkpbjfdcaaGreatB5zff
namespace Go.Proofs.YthepmdkpbjfdcaaGreat
open Nat renaming reduceMod → zA, reduceMul → zB, reduceDiv → zC, reduceAdd → zD, reduceSub → zE, reduceEqDiff → zF, reduceBEq → zG, reduceLT → zH, reduceLeDiff → zI
open Go.RowKit
set_option linter.unusedVariables false
set_option linter.unusedSimpArgs false
attribute [-push_cast] rm
def wsL (code:List Int)(seed:Int)(j:Nat):Nat→List Int
 |0=> []
 |v+1=>if dv code seed (j+v) 3=0 then wsL code seed j v++ [(v:Int)]else wsL code seed j v
theorem zAq {code:List Int}{seed:Int}{j v:Nat}(h:dv code seed (j+v) 3=0):wsL code seed j (v+1)=wsL code seed j v++ [(v:Int)]:=if_pos h
theorem zEW {code:List Int}{seed:Int}{j v:Nat}(h: ¬dv code seed (j+v) 3=0):wsL code seed j (v+1)=wsL code seed j v:=if_neg h
theorem Qv (code:List Int)(seed:Int)(j:Nat): ∀v,(wsL code seed j v).length≤v
 |0=>Nat.le_refl _
 |v+1=>by
  have :=Qv code seed j v
  unfold wsL
  split
  ·rw [List.length_append,List.length_singleton];omega
  ·omega
def wpL (code:List Int)(seed:Int)(n j:Nat):Nat→List Pr
 |0=> []
 |t+1=>wpL code seed n j t++ [⟨wsL code seed (j+2*n*t) n,wsL code seed (j+2*n*t+n) n⟩]
theorem zHL (code:List Int)(seed:Int)(n j:Nat):wpL code seed n j 0= []:=rfl
theorem zCO (code:List Int)(seed:Int)(n j t:Nat):wpL code seed n j (t+1)=wpL code seed n j t++ [⟨wsL code seed (j+2*n*t) n,wsL code seed (j+2*n*t+n) n⟩]:=rfl
theorem jm (code:List Int)(seed:Int)(n j:Nat): ∀t,(wpL code seed n j t).length=t
 |0=>rfl
 |t+1=>by rw [zCO,List.length_append,jm code seed n j t];rfl
theorem zIK (ps:List Pr)(p:Pr):ilv (ps++ [p])=ilv ps++ [p.ask,p.give]:=by rw [zLn];rfl
theorem zHs (xs:List (List Int))(a b:List Int):dII (xs++ [a,b])=dII xs++ [DI a,DI b]:=by simp [dII]
theorem zIw {ps:List Pr}{t:Nat}(h:ps.length=t):List.take (t*2) (ilv ps)=ilv ps:=List.take_of_length_le (by rw [xV,h];exact Nat.le_refl _)
def wpK (code:List Int)(seed:Int)(j:Nat)(most:Int):Nat:=(dv code seed j (most+1)).toNat
def wpP (code:List Int)(seed:Int)(n j:Nat)(most:Int):List Pr:=wpL code seed n (j+1) (wpK code seed j most)
def wpJ (code:List Int)(seed:Int)(n j:Nat)(most:Int):Nat:=j+1+2*n*wpK code seed j most
attribute [irreducible] wpL wsL
theorem zHM (code:List Int)(seed:Int)(j:Nat):wsL code seed j 0= []:=by unfold wsL;rfl
set_option maxRecDepth 20000 in
set_option maxHeartbeats 4000000 in
theorem uS (code:List Int)(hby:qF code)(seed:Int)(j n:Nat)(hn:n≤256):FnB Tryz.prog tyT 26 (dSt code seed j) [.c (.int .i64 n)] (dSt code seed (j+n)) [.c (DI (wsL code seed j n))]:=by
 have hcl:=hby.1
 refine Vz (fn:=Tryz.f26) (rs:= [.tmp 4]) zQ zN Tryz.func26 (by kernel_rfl) rfl rfl (by rw [Tryz.ntmps26];exact Nat.le_of_ble_eq_true rfl) rfl (by simp only [szA,List.mem_cons,List.not_mem_nil,or_false,forall_eq_or_imp,forall_eq,false_implies,implies_true,VT.cells,szL];try decide) (Nat.le_of_ble_eq_true rfl) (by simp only [szL];decide) (Nat.le_of_ble_eq_true rfl) rfl ?_
 rw [Tryz.ntmps26]
 push_cast
 refine θA ?_
 refine θA ?_
 refine zL fun K1 hK1=> ?_
 refine θA ?_
 refine zV ?_
 refine zh [5,6,8,9,10,11,12,13,14,15,16,17,18,19,1000000] [80] (fun(v:Nat)=> [(6, .int .i64 v),(5, .sl 80 [] 0 (wsL code seed j v).length 2)]) (fun v=> [(1000000,[.sl 16000000 [] 0 code.length 5, .int .i64 (nI code (j+v)), .int .u64 (nH code seed (j+v))])]) (fun v=> [(80,⟨.ex,2,dI (wsL code seed j v),none⟩),(16000000,⟨.sh,5,dU code,some 16000000⟩)]) (fun v=>v≤n) (fun v=>n - v) 0 ?_ (by omega) ?_
 ·
  rw [zHM,show dI ([]:List Int)= []from rfl]
  exact θX
 ·rintro v hv KL0 hL0
  have hdl:=Qv code seed j v
  push_cast
  refine zL fun K2 hK2=> ?_
  refine θA ?_
  refine θU (fun hc=> ?_) fun hc=> ?_
  ·
   refine zW (hK2 _ ?_)
   refine zL fun K3 hK3=> ?_
   refine zV ?_
   have hD:=Ys hby seed (j+v) 3 (by decide)
   refine zL fun K hK=> ?_
   refine zc false zQ zN ?_ rfl ?_
   ·kernel_rfl
   all_goals refine zm 2 fun K9 hK9=> ?_
   all_goals push_cast
   all_goals repeat'(first|(apply zO<;>(intro hg;push_cast at hg))|(refine⟨_,_,hD,?_⟩;push_cast)|apply And.intro|(intro hg;push_cast at hg))
   all_goals try exact gA
   refine hK9 _ ?_;clear hK9 K9
   all_goals push_cast
   all_goals repeat'(first|(apply zO<;>(intro hg;push_cast at hg))|(refine⟨_,_,hD,?_⟩;push_cast)|apply And.intro|(intro hg;push_cast at hg))
   all_goals try exact gA
   refine hK _ ?_;clear hK K
   refine θU (fun hc=> ?_) fun hc=> ?_
   ·
    refine θB ?_
    refine hK3 _ ?_
    refine θB ?_
    refine hL0 _ ⟨v+1,by omega,by omega,?_⟩
    rw [zAq hc]
    refine zX rfl ?_ ?_ ?_<;>push_cast [zf,ze]
    all_goals first|(rw [List.length_append];rfl)|exact rfl|skip
   ·
    refine zW (hK3 _ ?_)
    refine θB ?_
    refine hL0 _ ⟨v+1,by omega,by omega,?_⟩
    rw [zEW hc]
    refine zX rfl ?_ ?_ ?_<;>push_cast [zf,ze]
    all_goals first|(rw [List.length_append];rfl)|exact rfl|skip
  ·
   refine zi ?_
   have hvv:v=n:=by omega
   subst hvv
   refine hK1 _ ?_
   refine θA ?_
   refine zY ⟨Or.inl rfl,?_⟩
   push_cast [YM,zd,qY,zt,yH]
set_option maxRecDepth 20000 in
set_option maxHeartbeats 4000000 in
theorem zHJ (code:List Int)(hby:qF code)(seed:Int)(j n:Nat)(hn:n≤256)(most:Int)(hm:0≤most∧most≤4):FnB Tryz.prog tyT 18 (dSt code seed j) [.c (.int .i64 n), .c (.int .i64 most)] (dSt code seed (wpJ code seed n j most)) [.c (.lst 93 (dII (ilv (wpP code seed n j most))))]:=by
 have hcl:=hby.1
 have hr0:=XK hby seed j (n:=most+1) (by omega)
 have hB0:=Ys hby seed j (most+1) (by omega)
 unfold wpJ wpP
 obtain⟨K0,hK0⟩: ∃n:Nat,wpK code seed j most=n:=⟨_,rfl⟩
 rw [show dv code seed j (most+1)=(K0:Int)from by rw [←hK0];exact(Int.toNat_of_nonneg hr0.1).symm]at hB0 hr0
 rw [hK0]
 have hpl:=jm code seed n (j+1)
 refine Vz (fn:=Tryz.f18) (rs:= [.tmp 6]) zQ zN Tryz.func18 (by kernel_rfl) rfl rfl (by rw [Tryz.ntmps18];exact Nat.le_of_ble_eq_true rfl) rfl (by simp only [szA,List.mem_cons,List.not_mem_nil,or_false,forall_eq_or_imp,forall_eq,false_implies,implies_true,VT.cells,szL];try decide) (Nat.le_of_ble_eq_true rfl) (by simp only [szL];decide) (Nat.le_of_ble_eq_true rfl) rfl ?_
 rw [Tryz.ntmps18]
 push_cast
 refine θA ?_
 refine θN ?_
 refine zL fun K1 hK1=> ?_
 refine xm 93 7 (Nat.le_of_ble_eq_true rfl) ?_
 push_cast
 refine zL fun K hK=> ?_
 refine zc false zQ zN ?_ rfl ?_
 ·kernel_rfl
 all_goals refine zm 4 fun K9 hK9=> ?_
 all_goals push_cast
 all_goals repeat'(first|(apply zO<;>(intro hg;push_cast at hg))|(refine⟨_,_,hB0,?_⟩;push_cast)|apply And.intro|(intro hg;push_cast at hg))
 all_goals try exact gA
 refine hK9 _ ?_;clear hK9 K9
 all_goals push_cast
 all_goals repeat'(first|(apply zO<;>(intro hg;push_cast at hg))|(refine⟨_,_,hB0,?_⟩;push_cast)|apply And.intro|(intro hg;push_cast at hg))
 all_goals try exact gA
 refine hK _ ?_;clear hK K
 refine zV ?_
 refine zh [7,8,14,15,16,17,18,19,20,21,22,23,24,25,26,27,1000000] [112] (fun(t:Nat)=> [(8, .int .i64 ((K0:Int) - t)),(7, .sl 112 [] 0 t 93)]) (fun t=> [(1000000,[.sl 16000000 [] 0 code.length 5, .int .i64 (nI code (j+1+2*n*t)), .int .u64 (nH code seed (j+1+2*n*t))])]) (fun t=> [(112,⟨.ex,93,dII (ilv (wpL code seed n (j+1) t)),none⟩),(16000000,⟨.sh,5,dU code,some 16000000⟩)]) (fun t=>t≤K0) (fun t=>K0 - t) 0 ?_ (by omega) ?_
 ·
  rw [zHL,show dII (ilv [])= []from rfl,Nat.mul_zero,Nat.add_zero]
  exact θX
 ·rintro t ht KL0 hL0
  have hplt:=hpl t
  push_cast
  refine zL fun K2 hK2=> ?_
  refine θA ?_
  refine θU (fun hc=> ?_) fun hc=> ?_
  ·
   refine zW (hK2 _ ?_)
   refine zL fun K3 hK3=> ?_
   refine zV ?_
   have hB1:=uS code hby seed (j+1+2*n*t) n hn
   have hB2:=uS code hby seed (j+1+2*n*t+n) n hn
   have hd1:=Qv code seed (j+1+2*n*t) n
   have hd2:=Qv code seed (j+1+2*n*t+n) n
   refine zc false zQ zN ?_ rfl ?_
   ·kernel_rfl
   all_goals refine zm 4 fun K9 hK9=> ?_
   all_goals push_cast
   all_goals repeat'(first|(apply zO<;>(intro hg;push_cast at hg))|(refine⟨_,_,hB1,?_⟩;push_cast)|(refine⟨_,_,hB2,?_⟩;push_cast)|apply And.intro|(intro hg;push_cast at hg))
   all_goals try exact gA
   refine hK9 _ ?_;clear hK9 K9
   all_goals refine zm 3 fun K9 hK9=> ?_
   all_goals push_cast
   all_goals repeat'(first|(apply zO<;>(intro hg;push_cast at hg))|(refine⟨_,_,hB1,?_⟩;push_cast)|(refine⟨_,_,hB2,?_⟩;push_cast)|apply And.intro|(intro hg;push_cast at hg))
   all_goals try exact gA
   refine hK9 _ ?_;clear hK9 K9
   all_goals push_cast
   all_goals repeat'(first|(apply zO<;>(intro hg;push_cast at hg))|(refine⟨_,_,hB1,?_⟩;push_cast)|(refine⟨_,_,hB2,?_⟩;push_cast)|apply And.intro|(intro hg;push_cast at hg))
   all_goals try exact gA
   refine hK3 _ ?_
   refine xm 93 7 (Nat.le_of_ble_eq_true rfl) ?_
   push_cast
   refine θB ?_
   refine hL0 _ ⟨t+1,by omega,by omega,?_⟩
   rw [zCO,zIK,zHs]
   (try rw [zIw (hpl t)])
   refine zX rfl ?_ ?_ ?_<;>push_cast [zf,ze]
   all_goals(try rw [show j+1+2*n*t+n+n=j+1+2*n*(t+1)from by rw [Nat.mul_succ];omega])
   all_goals first|(refine congrArg (AV.int .i64) ?_;omega)|exact⟨by refine congrArg (AV.int .i64) ?_;omega,rfl⟩|exact rfl|skip
  ·
   refine zi ?_
   have htt:K0=t:=by omega
   subst htt
   refine hK1 _ ?_
   refine θA ?_
   refine zY ⟨Or.inl rfl,?_⟩
   push_cast [YM,zd,qY,zt,yH]
   all_goals first|exact hplt.symm|(rw [hplt];done)|skip
set_option maxRecDepth 20000 in
set_option maxHeartbeats 4000000 in
theorem zI4 (a:Ar)(ha:a.Ln 1048576):Fn Tryz.prog tyT 23 [.agg (dAr a)] [.agg (dAr a)]:=by
 have h0:=ha.owner
 obtain⟨ow,xs⟩:=a
 have hx:Yk 1048576 xs:=ha.next
 have h1:=hx.1
 have hr: ∀v,(gl xs v).length≤1048576:=fun v=>ZP hx v
 unfold LnI at h0
 dsimp only at h0
 unfold dAr
 refine XQ (fn:=Tryz.f23) (rs:= [.cell 2 31]) zQ zN Tryz.func23 (by kernel_rfl) rfl rfl (by rw [Tryz.ntmps23];exact Nat.le_of_ble_eq_true rfl) rfl (by simp only [szA,List.mem_cons,List.not_mem_nil,or_false,forall_eq_or_imp,forall_eq,VT.cells,szL];try decide) ?_
 rw [Tryz.ntmps23]
 push_cast
 refine θA ?_
 refine θA ?_
 refine zL fun K1 hK1=> ?_
 refine yx [.sl 2, .sl 22] 3 ?_
 push_cast
 refine θA ?_
 refine zV ?_
 refine zh [3,4,10,11,12,13,14,15,16,17,18,19,20,21,22,23,24,25,26,27,28] [49] (fun(k:Nat)=> [(4, .int .i64 k),(3, .bp 3 0)]) (fun k=> [(3,[.sl 48 [] 0 ow.length 2, .sl 49 [] 0 k 22])]) (fun k=> [(48,⟨.ex,2,dI ow,none⟩),(49,⟨.ex,22,dII (xs.take k),none⟩)]) (fun k=>k≤xs.length) (fun k=>xs.length - k) 0 ?_ (by omega) ?_
 ·
  rw [show dII (xs.take 0)= []from by simp [dII]]
  exact θX
 ·rintro k hk KL0 hL0
  have htk:(xs.take k).length=k:=by rw [List.length_take];omega
  have hrk:=hr k
  push_cast
  refine zL fun K2 hK2=> ?_
  refine θA ?_
  refine θU (fun hc=> ?_) fun hc=> ?_
  ·
   refine zW (hK2 _ ?_)
   refine zL fun K3 hK3=> ?_
   refine zV ?_
   refine yN false zQ zN xR ?_ rfl ?_
   ·kernel_rfl
   intro E hE
   all_goals push_cast
   all_goals repeat'(first|(apply zO<;>(intro hg;push_cast at hg))|apply And.intro|(intro hg;push_cast at hg))
   all_goals first|exact gA|(refine hE _ _ ?_ ?_;kernel_rfl)|(exact zP (by omega))|skip
   all_goals clear hE E
   refine hK3 _ ?_
   refine yx [.sl 2, .sl 22] 3 ?_
   push_cast
   refine θB ?_
   refine hL0 _ ⟨k+1,by omega,by omega,?_⟩
   (try rw [List.take_take,Nat.min_self])
   (try rw [List.take_of_length_le (l:=gl xs k) (by omega)])
   rw [Ui (by omega)]
   exact θX
  ·
   refine zi ?_
   have hkk:k=xs.length:=by omega
   subst hkk
   rw [List.take_length]
   refine hK1 _ ?_
   refine θA ?_
   refine zY ⟨Or.inl rfl,?_⟩
   push_cast [zd,zt,yH]
def Yh (g:Pa)(xs:List Int):Nat→Int
 |0=> -1
 |k+1=>if gi g.prio (gi xs k).toNat>Yh g xs k then gi g.prio (gi xs k).toNat else Yh g xs k
theorem zEO (g:Pa)(xs:List Int)(k:Nat):Yh g xs (k+1)=if gi g.prio (gi xs k).toNat>Yh g xs k then gi g.prio (gi xs k).toNat else Yh g xs k:=rfl
theorem zEN (g:Pa)(xs:List Int): ∀k j,j<k→gi g.prio (gi xs j).toNat≤Yh g xs k
 |0,j,h=>by omega
 |k+1,j,h=>by
  rw [zEO]
  by_cases e:j=k
  ·subst e;split<;>omega
  ·have :=zEN g xs k j (by omega)
   split<;>omega
theorem zF8 (g:Pa)(xs:List Int): ∀k,Yh g xs k= -1∨∃j,j<k∧gi g.prio (gi xs j).toNat=Yh g xs k
 |0=> .inl rfl
 |k+1=>by
  rw [zEO]
  split
  ·exact .inr ⟨k,by omega,rfl⟩
  ·rcases zF8 g xs k with e|⟨j,hj,e⟩
   ·exact .inl e
   ·exact .inr ⟨j,by omega,e⟩
set_option maxRecDepth 20000 in
set_option maxHeartbeats 4000000 in
theorem zKa (g:Pa)(hg:g.Ln 1048576)(xs:List Int)(hx:xs.length≤1048576)(hr: ∀j,j<xs.length→0≤gi xs j∧gi xs j<g.prio.length):Fn Tryz.prog tyT 181 [.agg (dPa g), .c (DI xs)] [.c (.int .i64 (Yh g xs xs.length))]:=by
 unfold dPa
 refine θH (ts:= [4]) Tryz.func181 Tryz.ntmps181 ?_
 push_cast
 refine θA ?_
 refine θA ?_
 refine zL fun K1 hK1=> ?_
 refine θA ?_
 refine zV ?_
 refine zh [5,7,10,11,12,13,14,15,16,17,18,19,20,21] [] (fun(k:Nat)=> [(10, .int .i64 k),(5, .int .i64 (Yh g xs k))]) (fun k=> []) (fun k=> []) (fun k=>k≤xs.length) (fun k=>xs.length - k) 0 ?_ (by omega) ?_
 ·
  rw [show Yh g xs 0= -1 from rfl]
  exact θX
 ·rintro k hk KL0 hL0
  push_cast
  refine θA ?_
  refine zL fun K2 hK2=> ?_
  refine θU (fun hc=> ?_) fun hc=> ?_
  ·
   refine zW (hK2 _ ?_)
   refine zL fun K3 hK3=> ?_
   refine zV ?_
   have hrk:=hr k (by omega)
   refine θA ?_
   refine θB ?_
   refine hK3 _ ?_
   refine θB ?_
   refine hL0 _ ⟨k+1,by omega,by omega,?_⟩
   rw [zEO]
   exact θX
   all_goals first|rfl|(refine congrArg (AV.int .i64) ?_;omega)|skip
  ·
   refine zi ?_
   have hkk:k=xs.length:=by omega
   subst hkk
   refine hK1 _ ?_
   refine θA ?_
   refine zY ⟨Or.inl rfl,?_⟩
   push_cast [zd]
end Go.Proofs.YthepmdkpbjfdcaaGreat
