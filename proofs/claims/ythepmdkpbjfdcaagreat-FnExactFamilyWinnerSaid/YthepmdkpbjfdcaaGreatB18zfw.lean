/- FamilyGame: the reference's side -/
import Derived.Test.YthepmdkpbjfdcaaGreatB17zfw
import Derived.Test.YthepmdkpbjfdcaaGreatB16zfw
import Derived.Test.YthepmdkpbjfdcaaGreatB8zfw
import Derived.Test.YthepmdkpbjfdcaaGreatB11zfw
import Derived.Test.YthepmdkpbjfdcaaGreatB15zfw
import Derived.Test.YthepmdkpbjfdcaaGreatB13zfw
import Derived.Test.YthepmdkpbjfdcaaGreatB14zfw
namespace Go.Proofs.YthepmdkpbjfdcaaGreat
open Nat renaming reduceMod → zA, reduceMul → zB, reduceDiv → zC, reduceAdd → zD, reduceSub → zE, reduceEqDiff → zF, reduceBEq → zG, reduceLT → zH, reduceLeDiff → zI
open Go.RowKit
set_option linter.unusedVariables false
set_option linter.unusedSimpArgs false
set_option maxRecDepth 20000 in
set_option maxHeartbeats 4000000 in
theorem jz (a:Ar)(ha:a.Ln 1048576)(f:Fm)(hf:f.Ln 1048576)(s:Int):Fn Tryz.prog tyT 49 [.agg (dAr a), .agg (dFm f), .c (.int .i64 s)] [.agg (dPa (fgG a f s)), .c (.lst 112 (yw (fgP a f s))), .c (.bool (fgB a f s))]:=by
 have hno:=ha.owner
 have hnn:=ha.next.1
 have hrr: ∀v,(gl a.next v).length≤1048576:=fun v=>Yl ha.next v
 unfold LnI at hno
 have hA:=zBe a ha
 have hF:=Ui f hf (a.owner.length:Int)
 have hI:=xB s 0 ((a.owner.length:Int) - 1)
 have hPr:=fun r hr v=>zDU f hf r hr v
 have hfn:=hf.names
 unfold LnI at hfn
 unfold dAr at hA
 unfold dFm at hF hPr
 unfold dAr dFm dPa
 refine Kv (fn:=Tryz.f49) (rs:= [.cell 6 80, .tmp 7, .tmp 8]) zO zN Tryz.func49 (by kernel_rfl) rfl rfl (by rw [Tryz.ntmps49];exact Nat.le_of_ble_eq_true rfl) rfl (by simp only [szA,List.mem_cons,List.not_mem_nil,or_false,forall_eq_or_imp,forall_eq,VT.cells,szL];try decide) ?_
 rw [Tryz.ntmps49]
 push_cast [↓zK,↓zJ]
 refine zL fun K hK=> ?_
 refine zM zO zN [] rfl ?_
 all_goals push_cast [↓zK,↓zJ]
 all_goals repeat'(first|(apply zP<;>(intro hg;(try simp only [push_cast]at hg)))|apply And.intro|(intro hg;(try simp only [push_cast]at hg)))
 all_goals first|exact gA|(exact zb (by omega))|skip
 all_goals(refine hK _ ?_;clear hK K)
 refine zL fun K hK=> ?_
 refine zM zO zN [] rfl ?_
 all_goals push_cast [↓zK,↓zJ]
 all_goals repeat'(first|(apply zP<;>(intro hg;(try simp only [push_cast]at hg)))|apply And.intro|(intro hg;(try simp only [push_cast]at hg)))
 all_goals first|exact gA|(exact zb (by omega))|skip
 all_goals(refine hK _ ?_;clear hK K)
 refine zL fun K1 hK1=> ?_
 refine zL fun K hK=> ?_
 refine zj false zO zN ?_ rfl ?_
 ·kernel_rfl
 all_goals refine yF 2 fun K9 hK9=> ?_
 all_goals push_cast [↓zK,↓zJ]
 all_goals repeat'(first|(apply zP<;>(intro hg;(try simp only [push_cast]at hg)))|(refine⟨_,hA,?_⟩;push_cast [↓zK,↓zJ])|apply And.intro|(intro hg;(try simp only [push_cast]at hg)))
 all_goals first|exact gA|(exact zb (by omega))|skip
 all_goals(refine hK9 _ ?_;clear hK9 K9)
 all_goals refine yF 5 fun K9 hK9=> ?_
 all_goals push_cast [↓zK,↓zJ]
 all_goals repeat'(first|(apply zP<;>(intro hg;(try simp only [push_cast]at hg)))|(refine⟨_,hF,?_⟩;push_cast [↓zK,↓zJ])|apply And.intro|(intro hg;(try simp only [push_cast]at hg)))
 all_goals first|exact gA|(exact zb (by omega))|skip
 all_goals(refine hK9 _ ?_;clear hK9 K9)
 all_goals refine yF 7 fun K9 hK9=> ?_
 all_goals push_cast [↓zK,↓zJ]
 all_goals repeat'(first|(apply zP<;>(intro hg;(try simp only [push_cast]at hg)))|(refine⟨_,hI,?_⟩;push_cast [↓zK,↓zJ])|apply And.intro|(intro hg;(try simp only [push_cast]at hg)))
 all_goals first|exact gA|(exact zb (by omega))|skip
 all_goals(refine hK9 _ ?_;clear hK9 K9)
 all_goals push_cast [↓zK,↓zJ]
 all_goals repeat'(first|(apply zP<;>(intro hg;(try simp only [push_cast]at hg)))|(refine⟨_,hA,?_⟩;push_cast [↓zK,↓zJ])|(refine⟨_,hF,?_⟩;push_cast [↓zK,↓zJ])|(refine⟨_,hI,?_⟩;push_cast [↓zK,↓zJ])|apply And.intro|(intro hg;(try simp only [push_cast]at hg)))
 all_goals first|exact gA|(exact zb (by omega))|skip
 all_goals(refine hK _ ?_;clear hK K)
 all_goals refine zT rfl (fun hc=> ?_) (fun hc=> ?_)
 all_goals(first|(cases hc;done)|skip)
 all_goals(try simp only [push_cast]at hc)
 all_goals try(
   refine zL fun K hK=> ?_
   refine zj false zO zN ?_ rfl ?_
   ·kernel_rfl
   push_cast [↓zK,↓zJ]
   all_goals repeat'(first|(apply zP<;>(intro hg;(try simp only [push_cast]at hg)))|apply And.intro|(intro hg;(try simp only [push_cast]at hg)))
   all_goals first|exact gA|(exact zb (by omega))|skip
   all_goals(refine hK _ ?_;clear hK K)
   refine zW ?_
   refine⟨Or.inl rfl,?_⟩
   push_cast [za,yB,yZ,↓zK,↓zJ]
   obtain⟨e1,e2,e3⟩:=zEQ (a:=a) (f:=f) (s:=s) (by first|exact zCV (by with_reducible assumption)|exact zCW (by with_reducible assumption)|exact zCX (by omega))
   rw [e1,e2,e3]
   all_goals first|rfl|exact⟨rfl,rfl⟩|(simp [dI,dII,yw];done)
   done)
 refine zU ?_
 refine hK1 _ ?_
 have hC:fgC a f s=true:=zCY (by with_reducible assumption) (by with_reducible assumption) (by omega)
 obtain⟨h1,h2,h3⟩:=wG hC
 have hln:=yr h1
 refine zL fun K hK=> ?_
 refine zj false zO zN ?_ rfl ?_
 ·kernel_rfl
 push_cast [↓zK,↓zJ]
 all_goals repeat'(first|(apply zP<;>(intro hg;(try simp only [push_cast]at hg)))|apply And.intro|(intro hg;(try simp only [push_cast]at hg)))
 all_goals first|exact gA|(exact zb (by omega))|skip
 all_goals(refine hK _ ?_;clear hK K)
 refine vA 112 10 (Nat.le_of_ble_eq_true rfl) ?_
 push_cast [↓zK,↓zJ]
 refine zL fun K hK=> ?_
 refine zM zO zN [] rfl ?_
 all_goals push_cast [↓zK,↓zJ]
 all_goals repeat'(first|(apply zP<;>(intro hg;(try simp only [push_cast]at hg)))|apply And.intro|(intro hg;(try simp only [push_cast]at hg)))
 all_goals first|exact gA|(exact zb (by omega))|skip
 all_goals(refine hK _ ?_;clear hK K)
 refine zL fun K2 hK2=> ?_
 refine zL fun K hK=> ?_
 refine zM zO zN [] rfl ?_
 all_goals push_cast [↓zK,↓zJ]
 all_goals repeat'(first|(apply zP<;>(intro hg;(try simp only [push_cast]at hg)))|apply And.intro|(intro hg;(try simp only [push_cast]at hg)))
 all_goals first|exact gA|(exact zb (by omega))|skip
 all_goals(refine hK _ ?_;clear hK K)
 refine zV ?_
 refine zh [7,8,10,11,12,13,14,15,16,17,18,25,31,48,49,50,51,52,53,54,55,56,57,58,59,60,61,62,63,64,65,66,67,68,69,70,71,72,73,74,75,76,77,78,79,80,81,82,83,84,85,86,87,88,89,90,91,92,93,94,95,96,97,98,99,100,101,102,103,104,105,106,107,108,109,110,111,112,113,114,115,116,117,118,119,120,121,122,123,124,125,126,127,128,129,130,131,132,133,134,135,136,137,138,139,140] [] (fun(i:Nat)=> [(12, .int .i64 i),(10, .sl 160 [] 0 (stQ (usA a) rcF ⟨s,f.names⟩ i).length 112),(11, .bp 11 0)]) (fun i=> [(11,[.sl 176 [] 0 i 2, .sl 177 [] 0 i 22, .sl 178 [] 0 i 2])]) (fun i=> [(160,⟨.ex,112,yw (stQ (usA a) rcF ⟨s,f.names⟩ i),none⟩),(176,⟨.ex,2,dI (qE a rcF ⟨s,f.names⟩ i),none⟩),(177,⟨.ex,22,dII (nxG a rcF ⟨s,f.names⟩ i),none⟩),(178,⟨.ex,2,dI (prG a rcF (prF f) ⟨s,f.names⟩ i),none⟩)]) (fun i=>i≤256∧i≤(stQ (usA a) rcF ⟨s,f.names⟩ i).length∧(stQ (usA a) rcF ⟨s,f.names⟩ i).length≤256) (fun i=>257 - i) 0 ?_ ⟨by omega,Nat.zero_le _,(by show 1≤256;decide)⟩ ?_
 ·
  rw [show stQ (usA a) rcF ⟨s,f.names⟩ 0= [⟨s,f.names⟩]from rfl,zEz,zGz,zG2]
  refine zX rfl ?_ ?_ ?_<;>push_cast [zg,zf,↓zK,↓zJ]
  exact⟨rfl,rfl,rfl,rfl⟩
 ·rintro i ⟨hi,hil,hsl⟩ KL0 hL0
  have hall:=YW h1 h3 i
  have hq:QLn 1048576 (stQ (usA a) rcF ⟨s,f.names⟩ i):=⟨by omega,fun p hp=>by have :=h3.small _ (hall p hp).2.2;omega⟩
  have hgl:=fun k=>JS hq k
  have ho1:=vO (a:=a) (rc:=rcF) (p0:=⟨s,f.names⟩) i
  have ho2:=Qq (a:=a) (rc:=rcF) (p0:=⟨s,f.names⟩) i
  have ho3:=XD (a:=a) (rc:=rcF) (pr:=prF f) (p0:=⟨s,f.names⟩) i
  push_cast [↓zK,↓zJ]
  refine zL fun K3 hK3=> ?_
  refine zL fun K hK=> ?_
  refine zM zO zN [] rfl ?_
  all_goals push_cast [↓zK,↓zJ]
  all_goals repeat'(first|(apply zP<;>(intro hg;(try simp only [push_cast]at hg)))|apply And.intro|(intro hg;(try simp only [push_cast]at hg)))
  all_goals first|exact gA|(exact zb (by omega))|skip
  all_goals(refine hK _ ?_;clear hK K)
  refine zT rfl (fun hc=> ?_) (fun hc=> ?_)<;>(try simp only [push_cast]at hc)
  ·
   refine zU ?_
   refine hK3 _ ?_
   refine zL fun K4 hK4=> ?_
   refine zV ?_
   have hP:=hall _ (YQ (k:=i) (by omega))
   have hU:1≤(gl a.next (gq (stQ (usA a) rcF ⟨s,f.names⟩ i) i).at_.toNat).length∧(gl a.next (gq (stQ (usA a) rcF ⟨s,f.names⟩ i) i).at_.toNat).length≤16∧∀u∈(gl a.next (gq (stQ (usA a) rcF ⟨s,f.names⟩ i) i).at_.toNat),0≤u∧u<(a.owner.length:Int):=Jf h1 ⟨hP.1,hP.2.1⟩
   have hpl:=h3.small _ hP.2.2
   have hnl:=zGL (gq (stQ (usA a) rcF ⟨s,f.names⟩ i) i).record (gq (stQ (usA a) rcF ⟨s,f.names⟩ i) i).at_
   refine zL fun K hK=> ?_
   refine zM zO zN [] rfl ?_
   all_goals push_cast [↓zK,↓zJ]
   all_goals repeat'(first|(apply zP<;>(intro hg;(try simp only [push_cast]at hg)))|apply And.intro|(intro hg;(try simp only [push_cast]at hg)))
   all_goals first|exact gA|(exact zb (by omega))|skip
   all_goals(refine hK _ ?_;clear hK K)
   refine zL fun K hK=> ?_
   refine zM zO zN [] rfl ?_
   all_goals refine zl 5 fun K9 hK9=> ?_
   all_goals push_cast [↓zK,↓zJ]
   all_goals repeat'(first|(apply zP<;>(intro hg;(try simp only [push_cast]at hg)))|(refine⟨_,ja (gq (stQ (usA a) rcF ⟨s,f.names⟩ i) i).record (by omega) (gq (stQ (usA a) rcF ⟨s,f.names⟩ i) i).at_,?_⟩;push_cast [↓zK,↓zJ])|apply And.intro|(intro hg;(try simp only [push_cast]at hg)))
   all_goals first|exact gA|(exact zb (by omega))|skip
   all_goals(refine hK9 _ ?_;clear hK9 K9)
   all_goals push_cast [↓zK,↓zJ]
   all_goals repeat'(first|(apply zP<;>(intro hg;(try simp only [push_cast]at hg)))|(refine⟨_,ja (gq (stQ (usA a) rcF ⟨s,f.names⟩ i) i).record (by omega) (gq (stQ (usA a) rcF ⟨s,f.names⟩ i) i).at_,?_⟩;push_cast [↓zK,↓zJ])|apply And.intro|(intro hg;(try simp only [push_cast]at hg)))
   all_goals first|exact gA|(exact zb (by omega))|skip
   all_goals(refine hK _ ?_;clear hK K)
   refine zL fun K hK=> ?_
   refine zM zO zN [] rfl ?_
   all_goals push_cast [↓zK,↓zJ]
   all_goals repeat'(first|(apply zP<;>(intro hg;(try simp only [push_cast]at hg)))|apply And.intro|(intro hg;(try simp only [push_cast]at hg)))
   all_goals first|exact gA|(exact zb (by omega))|skip
   all_goals(refine hK _ ?_;clear hK K)
   refine zL fun K5 hK5=> ?_
   refine zL fun K hK=> ?_
   refine zM zO zN [] rfl ?_
   all_goals push_cast [↓zK,↓zJ]
   all_goals repeat'(first|(apply zP<;>(intro hg;(try simp only [push_cast]at hg)))|apply And.intro|(intro hg;(try simp only [push_cast]at hg)))
   all_goals first|exact gA|(exact zb (by omega))|skip
   all_goals(refine hK _ ?_;clear hK K)
   refine zV ?_
   refine zh [7,8,10,13,15,16,17,18,25,31,49,54,55,56,57,58,59,60,64,65,66,67,68,69,70,71,72,73,74,75,76,77,78,79,80,81,82,83,84,85,86,87,88,89,90,91,92,93,94,95,96,97,98,99,100,101,102,103,104,105,106,107] [240,208,209] (fun(k:Nat)=> [(16, .int .i64 k),(10, .sl 160 [] 0 (zp (zt (gq (stQ (usA a) rcF ⟨s,f.names⟩ i) i).record (gq (stQ (usA a) rcF ⟨s,f.names⟩ i) i).at_) (gl a.next (gq (stQ (usA a) rcF ⟨s,f.names⟩ i) i).at_.toNat) (stQ (usA a) rcF ⟨s,f.names⟩ i) k).1.length 112),(15, .sl 240 [] 0 k 2),(13, .bp 13 0)]) (fun k=> [(13,[.int .i64 (gq (stQ (usA a) rcF ⟨s,f.names⟩ i) i).at_, .sl 160 [i*2+1] 0 (gq (stQ (usA a) rcF ⟨s,f.names⟩ i) i).record.length 2])]) (fun k=> [(160,⟨.ex,112,yw (zp (zt (gq (stQ (usA a) rcF ⟨s,f.names⟩ i) i).record (gq (stQ (usA a) rcF ⟨s,f.names⟩ i) i).at_) (gl a.next (gq (stQ (usA a) rcF ⟨s,f.names⟩ i) i).at_.toNat) (stQ (usA a) rcF ⟨s,f.names⟩ i) k).1,none⟩),(240,⟨.ex,2,dI (zp (zt (gq (stQ (usA a) rcF ⟨s,f.names⟩ i) i).record (gq (stQ (usA a) rcF ⟨s,f.names⟩ i) i).at_) (gl a.next (gq (stQ (usA a) rcF ⟨s,f.names⟩ i) i).at_.toNat) (stQ (usA a) rcF ⟨s,f.names⟩ i) k).2,none⟩)]) (fun k=>k≤(gl a.next (gq (stQ (usA a) rcF ⟨s,f.names⟩ i) i).at_.toNat).length∧(zp (zt (gq (stQ (usA a) rcF ⟨s,f.names⟩ i) i).record (gq (stQ (usA a) rcF ⟨s,f.names⟩ i) i).at_) (gl a.next (gq (stQ (usA a) rcF ⟨s,f.names⟩ i) i).at_.toNat) (stQ (usA a) rcF ⟨s,f.names⟩ i) k).1.length≤256) (fun k=>(gl a.next (gq (stQ (usA a) rcF ⟨s,f.names⟩ i) i).at_.toNat).length - k) 0 ?_ ⟨by omega,hsl⟩ ?_
   ·
    rw [zBG]
    refine zX rfl ?_ ?_ ?_<;>push_cast [zg,zf,↓zK,↓zJ]
    all_goals rfl
   ·rintro k ⟨hk,hkl⟩ KL1 hL1
    have hrl:=qV (r:=(zt (gq (stQ (usA a) rcF ⟨s,f.names⟩ i) i).record (gq (stQ (usA a) rcF ⟨s,f.names⟩ i) i).at_)) (us:=(gl a.next (gq (stQ (usA a) rcF ⟨s,f.names⟩ i) i).at_.toNat)) (ps:=(stQ (usA a) rcF ⟨s,f.names⟩ i)) (k:=k) hk
    have hQr:QLn 1048576 (zp (zt (gq (stQ (usA a) rcF ⟨s,f.names⟩ i) i).record (gq (stQ (usA a) rcF ⟨s,f.names⟩ i) i).at_) (gl a.next (gq (stQ (usA a) rcF ⟨s,f.names⟩ i) i).at_.toNat) (stQ (usA a) rcF ⟨s,f.names⟩ i) k).1:=⟨by omega,fun p hp=>by have :=h3.small _ (zE2 h1 h3 (i:=i) (k:=k) (by omega) hk p hp).2.2;omega⟩
    have hx:=zEh (ym (gi (gl a.next (gq (stQ (usA a) rcF ⟨s,f.names⟩ i) i).at_.toNat) k) (zt (gq (stQ (usA a) rcF ⟨s,f.names⟩ i) i).record (gq (stQ (usA a) rcF ⟨s,f.names⟩ i) i).at_)) (zp (zt (gq (stQ (usA a) rcF ⟨s,f.names⟩ i) i).record (gq (stQ (usA a) rcF ⟨s,f.names⟩ i) i).at_) (gl a.next (gq (stQ (usA a) rcF ⟨s,f.names⟩ i) i).at_.toNat) (stQ (usA a) rcF ⟨s,f.names⟩ i) k).1
    push_cast [↓zK,↓zJ]
    refine zL fun K6 hK6=> ?_
    refine zL fun K hK=> ?_
    refine zM zO zN [] rfl ?_
    all_goals push_cast [↓zK,↓zJ]
    all_goals repeat'(first|(apply zP<;>(intro hg;(try simp only [push_cast]at hg)))|apply And.intro|(intro hg;(try simp only [push_cast]at hg)))
    all_goals first|exact gA|(exact zb (by omega))|skip
    all_goals(refine hK _ ?_;clear hK K)
    refine zT rfl (fun hc=> ?_) (fun hc=> ?_)<;>(try simp only [push_cast]at hc)
    ·
     refine zU ?_
     refine hK6 _ ?_
     refine zL fun K7 hK7=> ?_
     refine zV ?_
     refine zL fun K hK=> ?_
     refine zM zO zN [] rfl ?_
     all_goals push_cast [↓zK,↓zJ]
     all_goals repeat'(first|(apply zP<;>(intro hg;(try simp only [push_cast]at hg)))|apply And.intro|(intro hg;(try simp only [push_cast]at hg)))
     all_goals first|exact gA|(exact zb (by omega))|skip
     all_goals(refine hK _ ?_;clear hK K)
     refine zL fun K hK=> ?_
     refine zM zO zN [] rfl ?_
     all_goals refine zl 4 fun K9 hK9=> ?_
     all_goals push_cast [↓zK,↓zJ]
     all_goals repeat'(first|(apply zP<;>(intro hg;(try simp only [push_cast]at hg)))|(refine⟨_,jZ (zp (zt (gq (stQ (usA a) rcF ⟨s,f.names⟩ i) i).record (gq (stQ (usA a) rcF ⟨s,f.names⟩ i) i).at_) (gl a.next (gq (stQ (usA a) rcF ⟨s,f.names⟩ i) i).at_.toNat) (stQ (usA a) rcF ⟨s,f.names⟩ i) k).1 hQr (gi (gl a.next (gq (stQ (usA a) rcF ⟨s,f.names⟩ i) i).at_.toNat) k) (zt (gq (stQ (usA a) rcF ⟨s,f.names⟩ i) i).record (gq (stQ (usA a) rcF ⟨s,f.names⟩ i) i).at_) (by omega),?_⟩;push_cast [↓zK,↓zJ])|apply And.intro|(intro hg;(try simp only [push_cast]at hg)))
     all_goals first|exact gA|(exact zb (by omega))|skip
     all_goals(refine hK9 _ ?_;clear hK9 K9)
     all_goals push_cast [↓zK,↓zJ]
     all_goals repeat'(first|(apply zP<;>(intro hg;(try simp only [push_cast]at hg)))|(refine⟨_,jZ (zp (zt (gq (stQ (usA a) rcF ⟨s,f.names⟩ i) i).record (gq (stQ (usA a) rcF ⟨s,f.names⟩ i) i).at_) (gl a.next (gq (stQ (usA a) rcF ⟨s,f.names⟩ i) i).at_.toNat) (stQ (usA a) rcF ⟨s,f.names⟩ i) k).1 hQr (gi (gl a.next (gq (stQ (usA a) rcF ⟨s,f.names⟩ i) i).at_.toNat) k) (zt (gq (stQ (usA a) rcF ⟨s,f.names⟩ i) i).record (gq (stQ (usA a) rcF ⟨s,f.names⟩ i) i).at_) (by omega),?_⟩;push_cast [↓zK,↓zJ])|apply And.intro|(intro hg;(try simp only [push_cast]at hg)))
     all_goals first|exact gA|(exact zb (by omega))|skip
     all_goals(refine hK _ ?_;clear hK K)
     refine zL fun K8 hK8=> ?_
     refine zL fun K hK=> ?_
     refine zM zO zN [] rfl ?_
     all_goals push_cast [↓zK,↓zJ]
     all_goals repeat'(first|(apply zP<;>(intro hg;(try simp only [push_cast]at hg)))|apply And.intro|(intro hg;(try simp only [push_cast]at hg)))
     all_goals first|exact gA|(exact zb (by omega))|skip
     all_goals(refine hK _ ?_;clear hK K)
     refine zT rfl (fun hc=> ?_) (fun hc=> ?_)<;>(try simp only [push_cast]at hc)
     ·
      refine zL fun K hK=> ?_
      refine zM zO zN [] rfl ?_
      all_goals push_cast [↓zK,↓zJ]
      all_goals repeat'(first|(apply zP<;>(intro hg;(try simp only [push_cast]at hg)))|apply And.intro|(intro hg;(try simp only [push_cast]at hg)))
      all_goals first|exact gA|(exact zb (by omega))|skip
      all_goals(refine hK _ ?_;clear hK K)
      refine zL fun K9 hK9=> ?_
      refine zL fun K hK=> ?_
      refine zM zO zN [] rfl ?_
      all_goals push_cast [↓zK,↓zJ]
      all_goals repeat'(first|(apply zP<;>(intro hg;(try simp only [push_cast]at hg)))|apply And.intro|(intro hg;(try simp only [push_cast]at hg)))
      all_goals first|exact gA|(exact zb (by omega))|skip
      all_goals(refine hK _ ?_;clear hK K)
      refine zT rfl (fun hc=> ?_) (fun hc=> ?_)<;>(try simp only [push_cast]at hc)
      ·
       refine zL fun K hK=> ?_
       refine zj false zO zN ?_ rfl ?_
       ·kernel_rfl
       push_cast [↓zK,↓zJ]
       all_goals repeat'(first|(apply zP<;>(intro hg;(try simp only [push_cast]at hg)))|apply And.intro|(intro hg;(try simp only [push_cast]at hg)))
       all_goals first|exact gA|(exact zb (by omega))|skip
       all_goals(refine hK _ ?_;clear hK K)
       refine zW ?_
       refine⟨Or.inl rfl,?_⟩
       push_cast [za,yB,yZ,↓zK,↓zJ]
       obtain⟨e1,e2,e3⟩:=zER (a:=a) (f:=f) (s:=s) (zH3 (i:=i) (k:=k) (by omega) (by omega) (by show k<(gl a.next (gq (stQ (usA a) rcF ⟨s,f.names⟩ i) i).at_.toNat).length;omega) (by show ixQ (ym (gi (gl a.next (gq (stQ (usA a) rcF ⟨s,f.names⟩ i) i).at_.toNat) k) (zt (gq (stQ (usA a) rcF ⟨s,f.names⟩ i) i).record (gq (stQ (usA a) rcF ⟨s,f.names⟩ i) i).at_)) (zp (zt (gq (stQ (usA a) rcF ⟨s,f.names⟩ i) i).record (gq (stQ (usA a) rcF ⟨s,f.names⟩ i) i).at_) (gl a.next (gq (stQ (usA a) rcF ⟨s,f.names⟩ i) i).at_.toNat) (stQ (usA a) rcF ⟨s,f.names⟩ i) k).1<0;with_reducible assumption) (by show 256≤(zp (zt (gq (stQ (usA a) rcF ⟨s,f.names⟩ i) i).record (gq (stQ (usA a) rcF ⟨s,f.names⟩ i) i).at_) (gl a.next (gq (stQ (usA a) rcF ⟨s,f.names⟩ i) i).at_.toNat) (stQ (usA a) rcF ⟨s,f.names⟩ i) k).1.length;omega))
       rw [e1,e2,e3]
       all_goals first|rfl|exact⟨rfl,rfl⟩|(simp [dI,dII,yw];done)
      ·
       refine zU ?_
       refine hK9 _ ?_
       refine Jk 7 13 1 1648 160 [160] zO zN ?_ rfl rfl rfl fun K9 hK9=> ?_
       ·kernel_rfl
       all_goals push_cast [↓zK,↓zJ]
       all_goals repeat'(first|(apply zP<;>(intro hg;(try simp only [push_cast]at hg)))|apply And.intro|(intro hg;(try simp only [push_cast]at hg)))
       all_goals first|exact gA|(exact zb (by omega))|skip
       all_goals(refine hK9 _ ?_;clear hK9 K9)
       all_goals push_cast [↓zK,↓zJ]
       all_goals repeat'(first|(apply zP<;>(intro hg;(try simp only [push_cast]at hg)))|apply And.intro|(intro hg;(try simp only [push_cast]at hg)))
       all_goals first|exact gA|(exact zb (by omega))|skip
       refine hK8 _ ?_
       refine zM zO zN [] rfl ?_
       all_goals push_cast [↓zK,↓zJ]
       all_goals repeat'(first|(apply zP<;>(intro hg;(try simp only [push_cast]at hg)))|apply And.intro|(intro hg;(try simp only [push_cast]at hg)))
       all_goals first|exact gA|(exact zb (by omega))|skip
       refine hK7 _ ?_
       refine zM zO zN [] rfl ?_
       all_goals push_cast [↓zK,↓zJ]
       all_goals repeat'(first|(apply zP<;>(intro hg;(try simp only [push_cast]at hg)))|apply And.intro|(intro hg;(try simp only [push_cast]at hg)))
       all_goals first|exact gA|(exact zb (by omega))|skip
       refine hL1 _ ⟨k+1,⟨by omega,(by rw [vi (by omega) (by with_reducible assumption),List.length_append,List.length_singleton];omega)⟩,by omega,?_⟩
       (try rw [List.take_of_length_le (l:=(zp (zt (gq (stQ (usA a) rcF ⟨s,f.names⟩ i) i).record (gq (stQ (usA a) rcF ⟨s,f.names⟩ i) i).at_) (gl a.next (gq (stQ (usA a) rcF ⟨s,f.names⟩ i) i).at_.toNat) (stQ (usA a) rcF ⟨s,f.names⟩ i) k).2) (by omega)])
       rw [vi (by omega) (by with_reducible assumption)]
       refine zX rfl ?_ ?_ ?_<;>push_cast [zg,zf,↓zK,↓zJ]
       all_goals first|rfl|(rw [List.length_append];rfl)|exact⟨rfl,rfl⟩|skip
     ·
      refine zU ?_
      refine hK8 _ ?_
      refine zM zO zN [] rfl ?_
      all_goals push_cast [↓zK,↓zJ]
      all_goals repeat'(first|(apply zP<;>(intro hg;(try simp only [push_cast]at hg)))|apply And.intro|(intro hg;(try simp only [push_cast]at hg)))
      all_goals first|exact gA|(exact zb (by omega))|skip
      refine hK7 _ ?_
      refine zM zO zN [] rfl ?_
      all_goals push_cast [↓zK,↓zJ]
      all_goals repeat'(first|(apply zP<;>(intro hg;(try simp only [push_cast]at hg)))|apply And.intro|(intro hg;(try simp only [push_cast]at hg)))
      all_goals first|exact gA|(exact zb (by omega))|skip
      refine hL1 _ ⟨k+1,⟨by omega,(by rw [wL (by omega) (by with_reducible assumption)];omega)⟩,by omega,?_⟩
      (try rw [List.take_of_length_le (l:=(zp (zt (gq (stQ (usA a) rcF ⟨s,f.names⟩ i) i).record (gq (stQ (usA a) rcF ⟨s,f.names⟩ i) i).at_) (gl a.next (gq (stQ (usA a) rcF ⟨s,f.names⟩ i) i).at_.toNat) (stQ (usA a) rcF ⟨s,f.names⟩ i) k).2) (by omega)])
      rw [wL (by omega) (by with_reducible assumption)]
      refine zX rfl ?_ ?_ ?_<;>push_cast [zg,zf,↓zK,↓zJ]
      all_goals first|rfl|(rw [List.length_append];rfl)|exact⟨rfl,rfl⟩|skip
    ·
     refine zi ?_
     have hkk:k=(gl a.next (gq (stQ (usA a) rcF ⟨s,f.names⟩ i) i).at_.toNat).length:=by omega
     subst hkk
     refine hK5 _ ?_
     refine zL fun K hK=> ?_
     refine yo false zO zN xj ?_ rfl ?_
     ·kernel_rfl
     intro E hE
     all_goals push_cast [↓zK,↓zJ]
     all_goals repeat'(first|(apply zP<;>(intro hg;(try simp only [push_cast]at hg)))|apply And.intro|(intro hg;(try simp only [push_cast]at hg)))
     all_goals first|exact gA|(refine hE _ _ ?_ ?_;kernel_rfl)|(exact zb (by omega))|skip
     all_goals clear hE E
     all_goals(refine hK _ ?_;clear hK K)
     have hSo:Fn Tryz.prog tyT 104 [.c (DI (List.take (gl a.next (gq (stQ (usA a) rcF ⟨s,f.names⟩ i) i).at_.toNat).length (zp (zt (gq (stQ (usA a) rcF ⟨s,f.names⟩ i) i).record (gq (stQ (usA a) rcF ⟨s,f.names⟩ i) i).at_) (gl a.next (gq (stQ (usA a) rcF ⟨s,f.names⟩ i) i).at_.toNat) (stQ (usA a) rcF ⟨s,f.names⟩ i) (gl a.next (gq (stQ (usA a) rcF ⟨s,f.names⟩ i) i).at_.toNat).length).2))] [.c (DI (zy (zp (zt (gq (stQ (usA a) rcF ⟨s,f.names⟩ i) i).record (gq (stQ (usA a) rcF ⟨s,f.names⟩ i) i).at_) (gl a.next (gq (stQ (usA a) rcF ⟨s,f.names⟩ i) i).at_.toNat) (stQ (usA a) rcF ⟨s,f.names⟩ i) (gl a.next (gq (stQ (usA a) rcF ⟨s,f.names⟩ i) i).at_.toNat).length).2))]:=by rw [List.take_of_length_le (l:=(zp (zt (gq (stQ (usA a) rcF ⟨s,f.names⟩ i) i).record (gq (stQ (usA a) rcF ⟨s,f.names⟩ i) i).at_) (gl a.next (gq (stQ (usA a) rcF ⟨s,f.names⟩ i) i).at_.toNat) (stQ (usA a) rcF ⟨s,f.names⟩ i) (gl a.next (gq (stQ (usA a) rcF ⟨s,f.names⟩ i) i).at_.toNat).length).2) (by omega)];exact zAt _ (by omega)
     refine zL fun K hK=> ?_
     refine yo false zO zN xj ?_ rfl ?_
     ·kernel_rfl
     intro E hE
     all_goals refine xR 5 (by decide) fun K9 hK9=> ?_
     all_goals push_cast [↓zK,↓zJ]
     all_goals repeat'(first|(apply zP<;>(intro hg;(try simp only [push_cast]at hg)))|(refine⟨_,hSo,?_⟩;push_cast [↓zK,↓zJ])|apply And.intro|(intro hg;(try simp only [push_cast]at hg)))
     all_goals first|exact gA|(exact zb (by omega))|skip
     all_goals(refine hK9 _ _ ?_;clear hK9 K9)
     all_goals push_cast [↓zK,↓zJ]
     all_goals repeat'(first|(apply zP<;>(intro hg;(try simp only [push_cast]at hg)))|(refine⟨_,hSo,?_⟩;push_cast [↓zK,↓zJ])|apply And.intro|(intro hg;(try simp only [push_cast]at hg)))
     all_goals first|exact gA|(refine hE _ _ ?_ ?_;kernel_rfl)|(exact zb (by omega))|skip
     all_goals clear hE E
     all_goals(refine hK _ ?_;clear hK K)
     have hgi:gq (zp (zt (gq (stQ (usA a) rcF ⟨s,f.names⟩ i) i).record (gq (stQ (usA a) rcF ⟨s,f.names⟩ i) i).at_) (gl a.next (gq (stQ (usA a) rcF ⟨s,f.names⟩ i) i).at_.toNat) (stQ (usA a) rcF ⟨s,f.names⟩ i) (gl a.next (gq (stQ (usA a) rcF ⟨s,f.names⟩ i) i).at_.toNat).length).1 i=(gq (stQ (usA a) rcF ⟨s,f.names⟩ i) i):=kl (by omega) (Nat.le_refl _)
     have hPq:Fn Tryz.prog tyT 105 [.agg [DI f.names,DII f.sets], .c (DI (List.take (gq (stQ (usA a) rcF ⟨s,f.names⟩ i) i).record.length (gq (zp (zt (gq (stQ (usA a) rcF ⟨s,f.names⟩ i) i).record (gq (stQ (usA a) rcF ⟨s,f.names⟩ i) i).at_) (gl a.next (gq (stQ (usA a) rcF ⟨s,f.names⟩ i) i).at_.toNat) (stQ (usA a) rcF ⟨s,f.names⟩ i) (gl a.next (gq (stQ (usA a) rcF ⟨s,f.names⟩ i) i).at_.toNat).length).1 i).record)), .c (.int .i64 (gq (stQ (usA a) rcF ⟨s,f.names⟩ i) i).at_)] [.c (.int .i64 (yl f (gq (stQ (usA a) rcF ⟨s,f.names⟩ i) i).record (gq (stQ (usA a) rcF ⟨s,f.names⟩ i) i).at_))]:=by rw [hgi,List.take_length];exact hPr _ (by omega) _
     refine yo false zO zN xj ?_ rfl ?_
     ·kernel_rfl
     intro E hE
     all_goals refine xR 8 (by decide) fun K9 hK9=> ?_
     all_goals push_cast [↓zK,↓zJ]
     all_goals repeat'(first|(apply zP<;>(intro hg;(try simp only [push_cast]at hg)))|(refine⟨_,hPq,?_⟩;push_cast [↓zK,↓zJ])|apply And.intro|(intro hg;(try simp only [push_cast]at hg)))
     all_goals first|exact gA|(exact zb (by omega))|skip
     all_goals(refine hK9 _ _ ?_;clear hK9 K9)
     all_goals push_cast [↓zK,↓zJ]
     all_goals repeat'(first|(apply zP<;>(intro hg;(try simp only [push_cast]at hg)))|(refine⟨_,hPq,?_⟩;push_cast [↓zK,↓zJ])|apply And.intro|(intro hg;(try simp only [push_cast]at hg)))
     all_goals first|exact gA|(refine hE _ _ ?_ ?_;kernel_rfl)|(exact zb (by omega))|skip
     all_goals clear hE E
     refine hK4 _ ?_
     refine Jl [.sl 2, .sl 22, .sl 2] 11 ?_
     push_cast [↓zK,↓zJ]
     refine zM zO zN [] rfl ?_
     all_goals push_cast [↓zK,↓zJ]
     all_goals repeat'(first|(apply zP<;>(intro hg;(try simp only [push_cast]at hg)))|apply And.intro|(intro hg;(try simp only [push_cast]at hg)))
     all_goals first|exact gA|(exact zb (by omega))|skip
     have hst:(stQ (usA a) rcF ⟨s,f.names⟩ (i+1))=(zp (zt (gq (stQ (usA a) rcF ⟨s,f.names⟩ i) i).record (gq (stQ (usA a) rcF ⟨s,f.names⟩ i) i).at_) (gl a.next (gq (stQ (usA a) rcF ⟨s,f.names⟩ i) i).at_.toNat) (stQ (usA a) rcF ⟨s,f.names⟩ i) (gl a.next (gq (stQ (usA a) rcF ⟨s,f.names⟩ i) i).at_.toNat).length).1:=Vt (by omega)
     refine hL0 _ ⟨i+1,⟨by omega,(by rw [hst];omega),(by rw [hst];omega)⟩,by omega,?_⟩
     (try rw [List.take_of_length_le (l:=qE a rcF ⟨s,f.names⟩ i) (by omega)])
     (try rw [List.take_of_length_le (l:=nxG a rcF ⟨s,f.names⟩ i) (by omega)])
     (try rw [List.take_of_length_le (l:=prG a rcF (prF f) ⟨s,f.names⟩ i) (by omega)])
     rw [hst,zE0,zG0,zG3,show plQ (usA a) rcF ⟨s,f.names⟩ i=(gq (stQ (usA a) rcF ⟨s,f.names⟩ i) i)from rfl,show nxQ (usA a) rcF ⟨s,f.names⟩ i=zy (zp (zt (gq (stQ (usA a) rcF ⟨s,f.names⟩ i) i).record (gq (stQ (usA a) rcF ⟨s,f.names⟩ i) i).at_) (gl a.next (gq (stQ (usA a) rcF ⟨s,f.names⟩ i) i).at_.toNat) (stQ (usA a) rcF ⟨s,f.names⟩ i) (gl a.next (gq (stQ (usA a) rcF ⟨s,f.names⟩ i) i).at_.toNat).length).2 from rfl,show prF f (gq (stQ (usA a) rcF ⟨s,f.names⟩ i) i)=yl f (gq (stQ (usA a) rcF ⟨s,f.names⟩ i) i).record (gq (stQ (usA a) rcF ⟨s,f.names⟩ i) i).at_ from rfl]
     refine zX rfl ?_ ?_ ?_<;>push_cast [zg,zf,↓zK,↓zJ]
     all_goals first|rfl|exact⟨rfl,rfl,rfl,rfl⟩|skip
  ·
   refine zi ?_
   refine hK2 _ ?_
   refine zL fun K hK=> ?_
   refine zM zO zN [] rfl ?_
   all_goals push_cast [↓zK,↓zJ]
   all_goals repeat'(first|(apply zP<;>(intro hg;(try simp only [push_cast]at hg)))|apply And.intro|(intro hg;(try simp only [push_cast]at hg)))
   all_goals first|exact gA|(exact zb (by omega))|skip
   all_goals(refine hK _ ?_;clear hK K)
   refine zW ?_
   refine⟨Or.inl rfl,?_⟩
   push_cast [za,yB,yZ,↓zK,↓zJ]
   obtain⟨e1,e2,e3⟩:=zCc (a:=a) (rc:=rcF) (pr:=prF f) (p0:=⟨s,f.names⟩) (i:=i) hC hi (by omega) hil
   unfold fgG fgP fgB
   rw [e1,e2,e3]
   simp only [gmA,ho1,ho2,ho3]
   all_goals first|rfl|exact⟨⟨⟨rfl,rfl⟩,⟨rfl,rfl⟩,⟨rfl,rfl⟩⟩,rfl,rfl⟩|exact⟨rfl,rfl⟩|(simp;done)
theorem zEa {xs:List Int}{x:Int}{j:Nat}(h:j<xs.length):gi (xs++ [x]) j=gi xs j:=by
 unfold gi
 rw [List.getD_eq_getElem?_getD,List.getD_eq_getElem?_getD,List.getElem?_append_left h]
theorem zEb (xs:List Int)(x:Int):gi (xs++ [x]) xs.length=x:=by
 unfold gi
 rw [List.getD_eq_getElem?_getD,List.getElem?_append_right (Nat.le_refl _)]
 simp
theorem zJM (ps:List Plc)(p:Plc):gq (ps++ [p]) ps.length=p:=by
 unfold gq
 rw [List.getD_eq_getElem?_getD,List.getElem?_append_right (Nat.le_refl _)]
 simp
theorem zJR {p:Plc→Bool}{ps:List Plc}(h: ¬ixQ p ps<0):(ixQ p ps).toNat<ps.length∧p (gq ps (ixQ p ps).toNat)=true:=by
 unfold ixQ at h⊢
 split
 ·rename_i h1
  rw [Int.toNat_natCast]
  refine⟨h1,?_⟩
  rw [←jU h1]
  exact List.findIdx_getElem (w:=h1)
 ·rename_i h1
  rw [if_neg h1]at h
  omega
theorem zGb {u:Int}{r:List Int}{p:Plc}(h:ym u r p=true):p=⟨u,r⟩:=by
 unfold ym at h
 rw [Bool.and_eq_true,decide_eq_true_eq,decide_eq_true_eq]at h
 obtain⟨a,b⟩:=p
 obtain⟨h1,h2⟩:=h
 simp only at h1 h2
 rw [h1,h2]
theorem jn {r us:List Int}{ps:List Plc}: ∀{k:Nat},k≤us.length→∀j,j<k→(0≤gi (zp r us ps k).2 j∧gi (zp r us ps k).2 j<(zp r us ps k).1.length)∧gq (zp r us ps k).1 (gi (zp r us ps k).2 j).toNat=⟨gi us j,r⟩
 |0,_,j,hj=>absurd hj (Nat.not_lt_zero j)
 |k+1,hk,j,hj=>by
  have ih:=jn (r:=r) (us:=us) (ps:=ps) (k:=k) (by omega)
  have hl:=qV (r:=r) (us:=us) (ps:=ps) (k:=k) (by omega)
  by_cases h2:ixQ (ym (gi us k) r) (zp r us ps k).1<0
  ·rw [vi (by omega) h2]
   simp only
   by_cases e:j=k
   ·subst e
    rw [show gi ((zp r us ps j).2++ [((zp r us ps j).1.length:Int)]) j=((zp r us ps j).1.length:Int)from by
     have :=zEb (zp r us ps j).2 ((zp r us ps j).1.length:Int)
     rw [hl.1]at this
     exact this]
    rw [List.length_append,List.length_singleton,Int.toNat_natCast,zJM]
    exact⟨by omega,rfl⟩
   ·have h3:=ih j (by omega)
    rw [zEa (by omega),List.length_append,List.length_singleton,zEd (by omega)]
    exact⟨by omega,h3.2⟩
  ·rw [wL (by omega) h2]
   simp only
   by_cases e:j=k
   ·subst e
    have h4:=zJR h2
    rw [show gi ((zp r us ps j).2++ [ixQ (ym (gi us j) r) (zp r us ps j).1]) j=ixQ (ym (gi us j) r) (zp r us ps j).1 from by
     have :=zEb (zp r us ps j).2 (ixQ (ym (gi us j) r) (zp r us ps j).1)
     rw [hl.1]at this
     exact this]
    exact⟨by omega,zGb h4.2⟩
   ·have h3:=ih j (by omega)
    rw [zEa (by omega)]
    exact h3
theorem YG {r:List Int}{i:Nat}(h:i<r.length):gi r i=r[i]:=by
 unfold gi
 rw [List.getD_eq_getElem?_getD,List.getElem?_eq_getElem h]
 rfl
theorem zE9 {r us:List Int}{ps:List Plc}(hu:us.Pairwise (· < ·)):(zp r us ps us.length).2.Nodup:=by
 have hl:=(qV (r:=r) (us:=us) (ps:=ps) (Nat.le_refl _)).1
 rw [List.Nodup,List.pairwise_iff_getElem]
 intro i j hi hj hij e
 rw [hl]at hi hj
 have h1:=(jn (r:=r) (us:=us) (ps:=ps) (Nat.le_refl _) i hi).2
 have h2:=(jn (r:=r) (us:=us) (ps:=ps) (Nat.le_refl _) j hj).2
 rw [YG (by omega),e,←YG (by omega),h2]at h1
 have h3:gi us j=gi us i:=congrArg Plc.at_ h1
 rw [YG hi,YG hj]at h3
 have :=(List.pairwise_iff_getElem.1 hu) i j hi hj hij
 omega
theorem zFE {xs:List Int}{n:Int}(h:xs.Pairwise (· < ·))(h2: ∀x∈xs,0≤x∧x<n):yf xs n=true:=by
 refine vZ fun k hk=> ?_
 unfold xy
 have h3:=h2 (gi xs k) (by rw [YG hk];exact List.getElem_mem hk)
 refine decide_eq_true ⟨h3.1,h3.2,?_⟩
 rcases Nat.eq_zero_or_pos k with e|e
 ·exact .inl e
 ·right
  rw [YG hk,YG (by omega)]
  exact(List.pairwise_iff_getElem.1 h) (k - 1) k (by omega) hk (by omega)
theorem zII {xs:List Int}(h:xs.Nodup):(zy xs).Pairwise (· < ·):=by
 have h1:=qn xs
 have h2:(zy xs).Nodup:=(xp xs).nodup_iff.2 h
 exact(h1.and h2).imp fun{a b} hab=>by
  have h3:=hab.1
  have h4:=hab.2
  omega
section
variable {a:Ar} {rc:Plc→List Int} {pr:Plc→Int} {p0:Plc} {V:List Int→Prop} {B:Nat}
theorem zIJ (hok:okQ (usA a) rc p0=true){n:Nat}(hn:n=(stQ (usA a) rc p0 257).length):n≤256∧stQ (usA a) rc p0 n=stQ (usA a) rc p0 257∧1≤n∧∀j,j<n→j<(stQ (usA a) rc p0 j).length:=by
 have h1:n≤256:=by unfold okQ at hok;rw [decide_eq_true_eq]at hok;omega
 have h2:=zCt (a:=a) (rc:=rc) (p0:=p0) (n:=n) (by omega) (by omega)
 have h3:1≤(stQ (usA a) rc p0 257).length:=by
  have :=Vs (us:=usA a) (rc:=rc) (p0:=p0) (i:=0) (j:=257) (by omega)
  exact this
 have h4:=Vs (us:=usA a) (rc:=rc) (p0:=p0) (i:=n) (j:=257) (by omega)
 have h5:=Vu (us:=usA a) (rc:=rc) (p0:=p0) (i:=n) (by omega) (j:=257) (by omega)
 exact⟨h1,h5.symm,by omega,h2⟩
theorem zEc (ha:ye a=true)(h:VB a rc p0 V B)(hok:okQ (usA a) rc p0=true)(hpr: ∀p:Plc,0≤p.at_→p.at_<(a.owner.length:Int)→V p.record→0≤pr p∧pr p≤40):qw (gmA a rc pr p0 (stQ (usA a) rc p0 257).length)=true:=by
 obtain⟨n,hn⟩: ∃n,n=(stQ (usA a) rc p0 257).length:=⟨_,rfl⟩
 rw [←hn]
 obtain⟨h1,h2,h3,h4⟩:=zIJ hok hn
 have hl:=yr ha
 have hplq: ∀v,v<n→0≤(plQ (usA a) rc p0 v).at_∧(plQ (usA a) rc p0 v).at_<a.owner.length∧V (plQ (usA a) rc p0 v).record:=fun v hv=>YW ha h v _ (YQ (h4 v hv))
 refine zBz (QG ⟨?_,?_,?_⟩ fun v hv=> ?_) ?_ fun k hk=> ?_
 ·show 1≤(qE a rc p0 n).length;rw [vO];exact h3
 ·show(qE a rc p0 n).length≤256;rw [vO];exact h1
 ·show(nxG a rc p0 n).length=(qE a rc p0 n).length;rw [vO,Qq]
 ·have hv:v<n:=by have :v<(qE a rc p0 n).length:=hv;rwa [vO]at this
  have hp:=hplq v hv
  have ho:gi (qE a rc p0 n) v=gi a.owner (plQ (usA a) rc p0 v).at_.toNat:=by
   unfold qE
   rw [YG (by simp;exact hv)]
   simp
  have hx:gl (nxG a rc p0 n) v=nxQ (usA a) rc p0 v:=by
   unfold nxG gl
   rw [List.getD_eq_getElem?_getD,List.getElem?_map,List.getElem?_range hv]
   rfl
  have hat:=xZ ha (v:=(plQ (usA a) rc p0 v).at_.toNat) (by omega)
  have hnl:(nxQ (usA a) rc p0 v).length=(usA a (plQ (usA a) rc p0 v)).length:=by
   unfold nxQ
   rw [xT]
   exact(qV (Nat.le_refl _)).1
  unfold vT Vk
  rw [Bool.and_eq_true,decide_eq_true_eq]
  show(0≤gi (qE a rc p0 n) v∧gi (qE a rc p0 n) v≤1∧1≤(gl (nxG a rc p0 n) v).length∧(gl (nxG a rc p0 n) v).length≤16)∧yf (gl (nxG a rc p0 n) v) (qE a rc p0 n).length=true
  rw [ho,hx,hnl,vO]
  refine⟨⟨hat.1,hat.2.1,hat.2.2.1,hat.2.2.2.1⟩,?_⟩
  refine zFE (zII (zE9 (jq hat.2.2.2.2))) fun x hx=> ?_
  have hx2:=(xp _).mem_iff.1 hx
  obtain⟨j,hj,rfl⟩:=List.mem_iff_getElem.1 hx2
  have hlen:=(qV (r:=rc (plQ (usA a) rc p0 v)) (us:=usA a (plQ (usA a) rc p0 v)) (ps:=stQ (usA a) rc p0 v) (Nat.le_refl _)).1
  have hj2:j<(usA a (plQ (usA a) rc p0 v)).length:=Nat.lt_of_lt_of_eq hj hlen
  have h5:=(jn (r:=rc (plQ (usA a) rc p0 v)) (us:=usA a (plQ (usA a) rc p0 v)) (ps:=stQ (usA a) rc p0 v) (Nat.le_refl _) j hj2).1
  rw [YG (by omega)]at h5
  have h6:(stQ (usA a) rc p0 (v+1)).length≤n:=by
   have :=Vs (us:=usA a) (rc:=rc) (p0:=p0) (i:=v+1) (j:=n) (by omega)
   rw [h2]at this
   omega
  rw [Vt (h4 v hv)]at h6
  have h7:(zp (rc (plQ (usA a) rc p0 v)) (usA a (plQ (usA a) rc p0 v)) (stQ (usA a) rc p0 v) (usA a (plQ (usA a) rc p0 v)).length).1.length≤n:=h6
  exact⟨h5.1,Int.lt_of_lt_of_le h5.2 (by omega)⟩
 ·show(prG a rc pr p0 n).length=(qE a rc p0 n).length;rw [vO,XD]
 ·have hk:k<n:=by have :k<(prG a rc pr p0 n).length:=hk;rwa [XD]at this
  have hp:=hplq k hk
  have :gi (prG a rc pr p0 n) k=pr (plQ (usA a) rc p0 k):=by
   unfold prG
   rw [YG (by simp;exact hk)]
   simp
  show 0≤gi (prG a rc pr p0 n) k∧gi (prG a rc pr p0 n) k≤40
  rw [this]
  exact hpr _ hp.1 hp.2.1 hp.2.2
end
theorem JR {r:List Int}{i:Nat}(h:i<r.length):gi r i=r[i]:=by
 unfold gi
 rw [List.getD_eq_getElem?_getD,List.getElem?_eq_getElem h]
 rfl
theorem UX {r:List Int}{x:Int}(h:x∈r): ∃i,i<r.length∧gi r i=x:=by
 obtain⟨i,hi,e⟩:=List.mem_iff_getElem.1 h
 exact⟨i,hi,by rw [JR hi];exact e⟩
theorem zGv {r:List Int}(h:r.Nodup){i j:Nat}(hi:i<r.length)(hj:j<r.length)(e:gi r i=gi r j):i=j:=by
 rw [JR hi,JR hj]at e
 have h2:=List.pairwise_iff_getElem.1 h
 rcases Nat.lt_trichotomy i j with h1|h1|h1
 ·exact absurd e (h2 i j hi hj h1)
 ·exact h1
 ·exact absurd e.symm (h2 j i hj hi h1)
theorem zH6 {q:Int→Bool}{r:List Int}{i:Nat}(hi:i<r.length)(hx:q (gi r i)=false): ∃j,i≤j∧j<(r.filter q++r.filter (fun x=> !q x)).length∧gi (r.filter q++r.filter (fun x=> !q x)) j=gi r i∧((∃m,i<m∧m<r.length∧q (gi r m)=true)→i<j):=by
 have hr:r=r.take i++gi r i::r.drop (i+1):=by
  rw [JR hi]
  rw [List.getElem_cons_drop,List.take_append_drop]
 have hsplit: ∀l:List Int,l.length=(l.filter q).length+(l.filter (fun x=> !q x)).length:=fun l=>by
  induction l with
  |nil=>rfl
  |cons y l ih=>
   cases hy:q y<;>simp only [List.filter_cons,hy,List.length_cons,ih]<;>simp<;>omega
 have hti:(r.take i).length=i:=by rw [List.length_take];omega
 have h1:=hsplit (r.take i)
 rw [hti]at h1
 have hp:(r.filter q).length=((r.take i).filter q).length+((r.drop (i+1)).filter q).length:=by
  conv=>lhs;rw [hr]
  rw [List.filter_append,List.filter_cons,if_neg (by rw [hx];decide),List.length_append]
 have hq:r.filter (fun x=> !q x)=(r.take i).filter (fun x=> !q x)++gi r i::(r.drop (i+1)).filter (fun x=> !q x):=by
  conv=>lhs;rw [hr]
  rw [List.filter_append,List.filter_cons,if_pos (by rw [hx];rfl)]
 refine⟨(r.filter q).length+((r.take i).filter (fun x=> !q x)).length,by omega,?_,?_,?_⟩
 ·rw [List.length_append,hq,List.length_append,List.length_cons]
  omega
 ·unfold gi
  rw [List.getD_eq_getElem?_getD,List.getElem?_append_right (by omega),Nat.add_sub_cancel_left,hq,List.getElem?_append_right (Nat.le_refl _),Nat.sub_self]
  rfl
 ·rintro⟨m,h2,h3,h4⟩
  have h5:gi r m∈(r.drop (i+1)).filter q:=by
   refine List.mem_filter.2 ⟨?_,h4⟩
   rw [JR h3]
   refine List.mem_iff_getElem.2 ⟨m - (i+1),by rw [List.length_drop];omega,?_⟩
   rw [List.getElem_drop]
   congr 1
   omega
  have h6:0<((r.drop (i+1)).filter q).length:=List.length_pos_of_mem h5
  omega
theorem zFy {r:List Int}(hn:r.Nodup){v:Int}(h:v∈r):r.filter (fun x=>decide (x=v))= [v]:=by
 induction r with
 |nil=>cases h
 |cons y r ih=>
  rw [List.nodup_cons]at hn
  by_cases e:y=v
  ·subst e
   rw [List.filter_cons,if_pos (decide_eq_true rfl)]
   congr 1
   rw [List.filter_eq_nil_iff]
   intro x hx h9
   rw [decide_eq_true_eq]at h9
   subst h9
   exact hn.1 hx
  ·rw [List.filter_cons,if_neg (by rw [decide_eq_true_eq];exact e)]
   rcases List.mem_cons.1 h with h9|h9
   ·exact absurd h9.symm e
   ·exact ih hn.2 h9
theorem zDc {r:List Int}(hn:r.Nodup)(v:Int):zt r v=r.filter (fun x=>decide (x=v))++r.filter (fun x=> !decide (x=v)):=by
 cases hb:yD r v with
 |true=>
  rw [Xr hb,zFy hn ((xD _ _).1 hb)]
  rfl
 |false=>
  have hnv: ¬v∈r:=fun h=>by rw [(xD _ _).2 h]at hb;cases hb
  rw [Vf hb,List.filter_eq_nil_iff.2 fun x hx h9=>by rw [decide_eq_true_eq]at h9;subst h9;exact hnv hx,List.nil_append]
  symm
  rw [List.filter_eq_self]
  intro x hx
  rw [Bool.not_eq_true',decide_eq_false_iff_not]
  rintro rfl
  exact hnv hx
structure qM (f:Fm)(L:Nat)(rec:Nat→List Int)(v:Nat→Int):Prop where
 pos:0<L
 ok: ∀t,vk f (rec t)=true
 next: ∀t,rec (t+1)=zt (rec t) (v t)
 perR: ∀t,rec (t+L)=rec t
 perV: ∀t,v (t+L)=v t
section
variable {f:Fm} {L:Nat} {rec:Nat→List Int} {v:Nat→Int}
theorem qM.nd (h:qM f L rec v)(t:Nat):(rec t).Nodup:=(vH (h.ok t)).2.2.2.1
theorem qM.mem (h:qM f L rec v)(t:Nat)(x:Int):x∈rec t↔x∈f.names:=(vH (h.ok t)).2.2.2.2 x
theorem qM.len (h:qM f L rec v)(t:Nat):(rec t).length=f.names.length:=by
 have :=(vH (h.ok t)).2.1
 rw [←this,xT]
theorem qM.up (h:qM f L rec v){t i:Nat}(hi:i<f.names.length)(hx: ¬gi (rec t) i=v t): ∃j,i≤j∧j<f.names.length∧gi (rec (t+1)) j=gi (rec t) i∧((∃m,i<m∧m<f.names.length∧gi (rec t) m=v t)→i<j):=by
 obtain⟨j,h1,h2,h3,h4⟩:=zH6 (q:=fun x=>decide (x=v t)) (r:=rec t) (i:=i) (by rw [h.len];exact hi) (decide_eq_false hx)
 rw [←zDc (h.nd t),←h.next]at h2 h3
 rw [h.len]at h2
 exact⟨j,h1,h2,h3,fun⟨m,m1,m2,m3⟩=>h4 ⟨m,m1,by rw [h.len];exact m2,decide_eq_true m3⟩⟩
theorem qM.mono (h:qM f L rec v){T i:Nat}(hi:i<f.names.length): ∀d,(∀s,s<d→¬gi (rec T) i=v (T+s))→∃j,i≤j∧j<f.names.length∧gi (rec (T+d)) j=gi (rec T) i
 |0,_=>⟨i,Nat.le_refl _,hi,rfl⟩
 |d+1,hg=>by
  obtain⟨j,h1,h2,h3⟩:=qM.mono h hi d fun s hs=>hg s (by omega)
  have hgd:=hg d (by omega)
  rw [←h3]at hgd
  obtain⟨m,k1,k2,k3,-⟩:=h.up h2 hgd
  exact⟨m,by omega,k2,k3.trans h3⟩
theorem qM.per (h:qM f L rec v)(t:Nat): ∀m,rec (t+m*L)=rec t∧v (t+m*L)=v t
 |0=>by simp
 |m+1=>by
  have ih:=qM.per h t m
  rw [show t+(m+1)*L=(t+m*L)+L from by rw [Nat.succ_mul];omega,h.perR,h.perV]
  exact ih
theorem qM.mod (h:qM f L rec v)(t:Nat):rec t=rec (t%L)∧v t=v (t%L):=by
 have :=h.per (t%L) (t / L)
 rw [show t%L+t / L*L=t from by rw [Nat.mul_comm];exact Nat.mod_add_div t L]at this
 exact this
theorem qM.never (h:qM f L rec v){t i:Nat}(hi:i<f.names.length)(hn: ∀s,¬gi (rec t) i=v s){m:Nat}(hm:m<f.names.length)(hg:gi (rec t) m=v t):m<i:=by
 rcases Nat.lt_trichotomy m i with h1|h1|h1
 ·exact h1
 ·subst h1;exact absurd hg (hn t)
 ·exfalso
  obtain⟨j,k1,k2,k3,k4⟩:=h.up (t:=t) hi (hn t)
  have k5:=k4 ⟨m,h1,hm,hg⟩
  obtain⟨q,q1,q2,q3⟩:=h.mono (T:=t+1) k2 (L - 1) fun s _=>by rw [k3];exact hn _
  rw [show t+1+(L - 1)=t+L from by have :=h.pos;omega,h.perR,k3]at q3
  have hl:=h.len t
  have :=zGv (h.nd t) (by omega) (by omega) q3
  omega
theorem Wu {r:List Int}{x:Int}(hn:r.Nodup){i:Nat}(hi:i<r.length)(e:gi r i=x):yl f r x=2*i+(if qD f.sets (xi f.names (r.take (i+1)))then 2 else 1):=
 Km hi (fun j hj e9=>by have :=zGv hn (i:=j) (j:=i) (by omega) hi (e9.trans e.symm);omega) e
theorem qM.law (h:qM f L rec v){M:Int}(h1: ∃T,T<L∧yl f (rec T) (v T)=M)(h2: ∀t,t<L→yl f (rec t) (v t)≤M){met:List Int}(hm: ∀x,x∈f.names→(yD met x=true↔∃t,t<L∧v t=x)):
  M%2=0↔qD f.sets (xi f.names met)=true:=by
 have hmax: ∀t,yl f (rec t) (v t)≤M:=fun t=>by
  have :=h.mod t
  rw [this.1,this.2]
  exact h2 _ (Nat.mod_lt _ h.pos)
 obtain⟨T,hT,hM⟩:=h1
 have hnone: ∀t,yD (rec t) (v t)=false→yl f (rec t) (v t)=if qD f.sets []then 0 else 1:=fun t e=>by unfold yl;rw [e];rfl
 rcases Classical.em (∃t,yD (rec t) (v t)=true)with hex|hno
 ·-- a time at which a name is met,with the greatest priority
  have key: ∃T1,yD (rec T1) (v T1)=true∧yl f (rec T1) (v T1)=M:=by
   cases hb:yD (rec T) (v T)with
   |true=>exact⟨T,hb,hM⟩
   |false=>
    obtain⟨t0,ht0⟩:=hex
    refine⟨t0,ht0,?_⟩
    obtain⟨i,hi,e⟩:=UX ((xD _ _).1 ht0)
    have e1:=Wu (f:=f) (h.nd t0) hi e
    have e2:=hnone T hb
    have e3:=hmax t0
    have e4:M≤1:=by rw [←hM,e2];split<;>omega
    have e5:(1:Int)≤(if qD f.sets (xi f.names ((rec t0).take (i+1)))then 2 else 1):=by split<;>omega
    rw [e1]at e3⊢
    omega
  obtain⟨T1,ht1,hM1⟩:=key
  obtain⟨c,hc,hce⟩:=UX ((xD _ _).1 ht1)
  have hlc:=h.len T1
  have e1:=Wu (f:=f) (h.nd T1) hc hce
  have hset:xi f.names ((rec T1).take (c+1))=xi f.names met:=by
   unfold xi
   refine List.filter_congr fun x hx=> ?_
   rw [Bool.eq_iff_iff,hm x hx,xD]
   constructor
   ·intro hxm
    obtain⟨p,hp,hpe⟩:=UX hxm
    rw [List.length_take]at hp
    have hpe2:gi (rec T1) p=x:=by
     rw [←hpe]
     unfold gi
     rw [List.getD_eq_getElem?_getD,List.getD_eq_getElem?_getD,List.getElem?_take,if_pos (by omega)]
    rcases Classical.em (∃s,v s=x)with⟨s,hs⟩|hv
    ·exact⟨s%L,Nat.mod_lt _ h.pos,by rw [←(h.mod s).2];exact hs⟩
    ·exfalso
     have :=h.never (t:=T1) (i:=p) (by omega) (fun s e=>hv ⟨s,by rw [←e];exact hpe2⟩) (m:=c) (by omega) hce
     omega
   ·rintro⟨s,hs,hse⟩
    obtain⟨p,hp,hpe⟩:=UX ((h.mem T1 x).2 hx)
    rcases Nat.lt_or_ge c p with hcp|hcp
    ·exfalso
     -- its first visit from T1 on
     have hexd: ∃d,v (T1+d)=x:=by
      have h9:=h.per s (T1+1)
      have h10:T1+1≤(T1+1)*L:=Nat.le_mul_of_pos_right _ h.pos
      refine⟨s+(T1+1)*L - T1,?_⟩
      rw [show T1+(s+(T1+1)*L - T1)=s+(T1+1)*L from by omega,h9.2]
      exact hse
     have hfst9: ∀n,(∃d,d<n∧v (T1+d)=x∧∀q,q<d→¬v (T1+q)=x)∨∀q,q<n→¬v (T1+q)=x:=by
      intro n
      induction n with
      |zero=>exact .inr fun q hq=>absurd hq (Nat.not_lt_zero q)
      |succ n ih=>
       rcases ih with⟨d,d1,d2,d3⟩|ih
       ·exact .inl ⟨d,by omega,d2,d3⟩
       ·by_cases hb:v (T1+n)=x
        ·exact .inl ⟨n,by omega,hb,ih⟩
        ·refine .inr fun q hq=> ?_
         rcases Nat.lt_or_ge q n with h9|h9
         ·exact ih q h9
         ·rw [show q=n by omega];exact hb
     obtain⟨d0,hd0⟩:=hexd
     rcases hfst9 (d0+1)with⟨d,-,d2,d3⟩|hk
     ·obtain⟨j,j1,j2,j3⟩:=h.mono (T:=T1) (i:=p) (by omega) d fun q hq=>by rw [hpe];exact fun e=>d3 q hq e.symm
      have hlj:=h.len (T1+d)
      have e5:=Wu (f:=f) (h.nd (T1+d)) (i:=j) (x:=v (T1+d)) (by omega) (by rw [j3,hpe,d2])
      have e6:=hmax (T1+d)
      rw [e5]at e6
      rw [←hM1,e1]at e6
      split at e6<;>split at e6<;>omega
     ·exact absurd hd0 (hk d0 (by omega))
    ·refine List.mem_iff_getElem.2 ⟨p,by rw [List.length_take];omega,?_⟩
     rw [List.getElem_take,←JR hp]
     exact hpe
  rw [←hset,←hM1,e1]
  cases qD f.sets (xi f.names ((rec T1).take (c+1)))with
  |true=>simp only [if_true,iff_true];omega
  |false=>simp only [Bool.false_eq_true,if_false,iff_false];omega
 ·have hb: ∀t,yD (rec t) (v t)=false:=fun t=>by
   cases hb:yD (rec t) (v t)with
   |false=>rfl
   |true=>exact absurd ⟨t,hb⟩ hno
  have hset:xi f.names met= []:=by
   unfold xi
   rw [List.filter_eq_nil_iff]
   intro x hx hxm
   obtain⟨t,ht,e⟩:=(hm x hx).1 hxm
   have :=hb t
   rw [e,(xD _ _).2 ((h.mem t x).2 hx)]at this
   cases this
  rw [hset,←hM,hnone T (hb T)]
  cases qD f.sets []<;>simp
end
section
variable {a:Ar} {rc:Plc→List Int} {pr:Plc→Int} {p0:Plc} {V:List Int→Prop} {B:Nat}
abbrev plA (a:Ar)(rc:Plc→List Int)(p0:Plc):List Plc:=stQ (usA a) rc p0 257
end
def p2 (i:Nat):Nat:=2^i
def Kc (p:List Int→Bool)(rows:List (List Int))(k:Nat):List D:=(rows.take k).map (fun r=>if p r then D.hole else .lst 2 (dI r))++dII (rows.drop k)
theorem kT (p:List Int→Bool)(rows:List (List Int))(k:Nat):(Kc p rows k)[k]? =(dII rows)[k]? :=by
 unfold Kc dII
 rcases Nat.lt_or_ge k rows.length with h|h
 ·have hl:((rows.take k).map (fun r=>if p r then D.hole else .lst 2 (dI r))).length=k:=by simp;omega
  rw [List.getElem?_append_right (by omega),hl,Nat.sub_self,List.getElem?_map,List.getElem?_map,List.getElem?_drop]
  rfl
 ·rw [List.getElem?_eq_none (by simp;omega),List.getElem?_eq_none (by simp;omega)]
theorem zGC (p:List Int→Bool)(rows:List (List Int))(k:Nat):(Kc p rows k).length=rows.length:=by simp [Kc,dII];omega
theorem zEY (p:List Int→Bool)(rows:List (List Int))(k:Nat):xO (Kc p rows k) k=dI (gl rows k):=by
 rw [←zAn]
 unfold xO
 rw [kT]
theorem zDu (p:List Int→Bool)(rows:List (List Int))(k:Nat):xX (.sl 2) (Kc p rows k) k=(k<rows.length):=by
 rw [←Uj]
 unfold xX
 rw [kT]
theorem zBx (p:List Int→Bool)(rows:List (List Int))(k:Nat):zk (Kc p rows k) [k]=(k<rows.length):=by
 rw [←jf]
 unfold zk
 rw [kT]
attribute [push_cast] zGC zEY zDu zBx
theorem zGV (f:Fm)(r:List Int)(v:Int):0≤yl f r v∧yl f r v≤2*r.length+2:=by
 unfold yl
 have :=zHe r v
 split<;>split<;>omega
section
variable {a:Ar} {f:Fm} {s:Int}
theorem uX (h:fgB a f s=true):fgC a f s=true∧okQ (usA a) rcF ⟨s,f.names⟩=true:=by
 unfold fgB at h
 rw [Bool.and_eq_true]at h
 exact h
theorem zJD (h:fgB a f s=true):fgG a f s=gmA a rcF (prF f) ⟨s,f.names⟩ (plA a rcF ⟨s,f.names⟩).length∧fgP a f s=plA a rcF ⟨s,f.names⟩:=by
 obtain⟨h1,h2⟩:=uX h
 unfold fgG fgP gmR plR
 rw [h1,h2,Bool.and_self,if_pos rfl,if_pos rfl]
 unfold plA
 exact⟨Eq.refl _,Eq.refl _⟩
theorem fg_pr {p:Plc}(h:vk f p.record=true):0≤prF f p∧prF f p≤40:=by
 have h1:=(vH h).2.2.1
 have h2:=zGV f p.record p.at_
 unfold prF
 omega
theorem Xl (h:fgB a f s=true):qw (fgG a f s)=true:=by
 obtain⟨h1,h2⟩:=uX h
 obtain⟨k1,k2,k3⟩:=wG h1
 rw [(zJD h).1]
 exact zEc k1 k3 h2 fun p _ _ hp=>fg_pr hp
end
attribute [local irreducible] okQ stQ gmR plR
noncomputable def fwR (a:Ar)(f:Fm)(s:Int):Int:=if fgB a f s then gi (QU (fgG a f s)) 0 else -1
theorem zET {a:Ar}{f:Fm}{s:Int}(h:fgB a f s=false):fwR a f s= -1:=by unfold fwR;rw [h];rfl
theorem zCb {a:Ar}{f:Fm}{s:Int}(h:fgB a f s=true):fwR a f s=gi (QU (fgG a f s)) 0:=by unfold fwR;rw [h];rfl
set_option maxRecDepth 20000 in
set_option maxHeartbeats 8000000 in
theorem KL (a:Ar)(ha:a.Ln 1048576)(f:Fm)(hf:f.Ln 1048576)(s:Int):Fn Tryz.prog tyT 12 [.agg (dAr a), .agg (dFm f), .c (.int .i64 s)] [.c (.int .i64 (fwR a f s))]:=by
 have hno:=ha.owner
 have hnn:=ha.next.1
 unfold LnI at hno
 have hRc:=jy a ha f hf s
 have hWn:=fun h:fgB a f s=true=>zDq (fgG a f s) kO (Xl h)
 have hWl:=XZ (fgG a f s)
 have hpos:=fun h:fgB a f s=true=>(yr (xu (Xl h)).1).1
 obtain⟨G,hGd⟩: ∃G,fgG a f s=G:=⟨_,rfl⟩
 obtain⟨Q,hQd⟩: ∃Q,fgP a f s=Q:=⟨_,rfl⟩
 obtain⟨b9,hBd⟩: ∃b,fgB a f s=b:=⟨_,rfl⟩
 rw [hGd,hQd,hBd]at hRc
 rw [hGd,hBd]at hWn hpos
 rw [hGd]at hWl
 have hGl:G.a.owner.length≤1048576∧G.a.next.length≤1048576∧G.prio.length≤1048576:=by have h9:=kO (a:=a) (f:=f) (s:=s);rw [hGd]at h9;have h1:=h9.a.owner;have h2:=h9.a.next.1;have h3:=h9.prio;unfold LnI at h1 h3;exact⟨h1,h2,h3⟩
 have hQl:Q.length≤1048576:=by have h9:=zCZ (a:=a) (f:=f) (s:=s);rw [hQd]at h9;exact h9.1
 unfold dPa at hRc hWn
 unfold dAr dFm at hRc
 unfold dAr dFm
 refine zr (fn:=Tryz.f12) (ts:= [6]) Tryz.func12 (by kernel_rfl) rfl rfl (by rw [Tryz.ntmps12];exact Nat.le_of_ble_eq_true rfl) rfl (by simp only [szA,List.mem_cons,List.not_mem_nil,or_false,forall_eq_or_imp,forall_eq,VT.cells,szL];try decide) ?_
 rw [Tryz.ntmps12]
 push_cast
 refine zL fun K hK=> ?_
 refine zM zO zN [] rfl ?_
 push_cast
 repeat' apply And.intro
 all_goals try exact gB
 refine hK _ ?_;clear hK K
 refine zL fun K hK=> ?_
 refine zM zO zN [] rfl ?_
 all_goals refine zl 4 fun K9 hK9=> ?_
 all_goals push_cast
 all_goals repeat'(first|(apply zP<;>(intro hg;push_cast at hg))|(refine⟨_,hRc,?_⟩;push_cast)|apply And.intro|(intro hg;push_cast at hg))
 all_goals try exact gA
 refine hK9 _ ?_;clear hK9 K9
 all_goals push_cast
 all_goals repeat'(first|(apply zP<;>(intro hg;push_cast at hg))|(refine⟨_,hRc,?_⟩;push_cast)|apply And.intro|(intro hg;push_cast at hg))
 all_goals try exact gA
 refine hK _ ?_;clear hK K
 refine zL fun K1 hK1=> ?_
 refine zL fun K hK=> ?_
 refine zM zO zN [] rfl ?_
 push_cast
 repeat' apply And.intro
 all_goals try exact gB
 refine hK _ ?_;clear hK K
 refine zT rfl (fun hc=> ?_) (fun hc=> ?_)<;>(try simp only [push_cast]at hc)
 ·
  refine zL fun K hK=> ?_
  refine zM zO zN [] rfl ?_
  push_cast
  repeat' apply And.intro
  all_goals try exact gB
  refine hK _ ?_;clear hK K
  refine zW ?_
  refine⟨Or.inl rfl,?_⟩
  push_cast [za]
  rw [zET (by rw [hBd];first|assumption|(simpa using hc))]
 ·
  refine zU ?_
  refine hK1 _ ?_
  have hb1:b9=true:=by first|assumption|(simpa using hc)
  have hWy:=hWn hb1
  have hp9:=hpos hb1
  refine zL fun K hK=> ?_
  refine zM zO zN [] rfl ?_
  all_goals refine zl 2 fun K9 hK9=> ?_
  all_goals push_cast
  all_goals repeat'(first|(apply zP<;>(intro hg;push_cast at hg))|(refine⟨_,hWy,?_⟩;push_cast)|apply And.intro|(intro hg;push_cast at hg))
  all_goals try exact gA
  refine hK9 _ ?_;clear hK9 K9
  all_goals push_cast
  all_goals repeat'(first|(apply zP<;>(intro hg;push_cast at hg))|(refine⟨_,hWy,?_⟩;push_cast)|apply And.intro|(intro hg;push_cast at hg))
  all_goals try exact gA
  refine hK _ ?_;clear hK K
  refine zW ?_
  refine⟨Or.inl rfl,?_⟩
  push_cast [za]
  rw [zCb (hBd.trans hb1),hGd]
  all_goals first|rfl|(simp;done)|skip
set_option maxRecDepth 20000 in
set_option maxHeartbeats 8000000 in
theorem KM (a:Ar)(ha:a.Ln 1048576)(f:Fm)(hf:f.Ln 1048576)(s:Int):Fn Tryz.prog tyT 9 [.agg (dAr a), .agg (dFm f), .c (.int .i64 s)] [.c (.int .i64 (fwR a f s))]:=by
 have hno:=ha.owner
 have hnn:=ha.next.1
 unfold LnI at hno
 have hRc:=jz a ha f hf s
 have hWn:=fun h:fgB a f s=true=>zF8 (fgG a f s) (Xl h)
 have hWl:=XZ (fgG a f s)
 have hpos:=fun h:fgB a f s=true=>(yr (xu (Xl h)).1).1
 obtain⟨G,hGd⟩: ∃G,fgG a f s=G:=⟨_,rfl⟩
 obtain⟨Q,hQd⟩: ∃Q,fgP a f s=Q:=⟨_,rfl⟩
 obtain⟨b9,hBd⟩: ∃b,fgB a f s=b:=⟨_,rfl⟩
 rw [hGd,hQd,hBd]at hRc
 rw [hGd,hBd]at hWn hpos
 rw [hGd]at hWl
 have hGl:G.a.owner.length≤1048576∧G.a.next.length≤1048576∧G.prio.length≤1048576:=by have h9:=kO (a:=a) (f:=f) (s:=s);rw [hGd]at h9;have h1:=h9.a.owner;have h2:=h9.a.next.1;have h3:=h9.prio;unfold LnI at h1 h3;exact⟨h1,h2,h3⟩
 have hQl:Q.length≤1048576:=by have h9:=zCZ (a:=a) (f:=f) (s:=s);rw [hQd]at h9;exact h9.1
 unfold dPa at hRc hWn
 unfold dAr dFm at hRc
 unfold dAr dFm
 refine zr (fn:=Tryz.f9) (ts:= [6]) Tryz.func9 (by kernel_rfl) rfl rfl (by rw [Tryz.ntmps9];exact Nat.le_of_ble_eq_true rfl) rfl (by simp only [szA,List.mem_cons,List.not_mem_nil,or_false,forall_eq_or_imp,forall_eq,VT.cells,szL];try decide) ?_
 rw [Tryz.ntmps9]
 push_cast
 refine zL fun K hK=> ?_
 refine zM zO zN [] rfl ?_
 push_cast
 repeat' apply And.intro
 all_goals try exact gB
 refine hK _ ?_;clear hK K
 refine zL fun K hK=> ?_
 refine zM zO zN [] rfl ?_
 all_goals refine zl 4 fun K9 hK9=> ?_
 all_goals push_cast
 all_goals repeat'(first|(apply zP<;>(intro hg;push_cast at hg))|(refine⟨_,hRc,?_⟩;push_cast)|apply And.intro|(intro hg;push_cast at hg))
 all_goals try exact gA
 refine hK9 _ ?_;clear hK9 K9
 all_goals push_cast
 all_goals repeat'(first|(apply zP<;>(intro hg;push_cast at hg))|(refine⟨_,hRc,?_⟩;push_cast)|apply And.intro|(intro hg;push_cast at hg))
 all_goals try exact gA
 refine hK _ ?_;clear hK K
 refine zL fun K1 hK1=> ?_
 refine zL fun K hK=> ?_
 refine zM zO zN [] rfl ?_
 push_cast
 repeat' apply And.intro
 all_goals try exact gB
 refine hK _ ?_;clear hK K
 refine zT rfl (fun hc=> ?_) (fun hc=> ?_)<;>(try simp only [push_cast]at hc)
 ·
  refine zL fun K hK=> ?_
  refine zM zO zN [] rfl ?_
  push_cast
  repeat' apply And.intro
  all_goals try exact gB
  refine hK _ ?_;clear hK K
  refine zW ?_
  refine⟨Or.inl rfl,?_⟩
  push_cast [za]
  rw [zET (by rw [hBd];first|assumption|(simpa using hc))]
 ·
  refine zU ?_
  refine hK1 _ ?_
  have hb1:b9=true:=by first|assumption|(simpa using hc)
  have hWy:=hWn hb1
  have hp9:=hpos hb1
  refine zL fun K hK=> ?_
  refine zM zO zN [] rfl ?_
  all_goals refine zl 2 fun K9 hK9=> ?_
  all_goals push_cast
  all_goals repeat'(first|(apply zP<;>(intro hg;push_cast at hg))|(refine⟨_,hWy,?_⟩;push_cast)|apply And.intro|(intro hg;push_cast at hg))
  all_goals try exact gA
  refine hK9 _ ?_;clear hK9 K9
  all_goals push_cast
  all_goals repeat'(first|(apply zP<;>(intro hg;push_cast at hg))|(refine⟨_,hWy,?_⟩;push_cast)|apply And.intro|(intro hg;push_cast at hg))
  all_goals try exact gA
  refine hK _ ?_;clear hK K
  refine zW ?_
  refine⟨Or.inl rfl,?_⟩
  push_cast [za]
  rw [zCb (hBd.trans hb1),hGd]
  all_goals first|rfl|(simp;done)|skip
end Go.Proofs.YthepmdkpbjfdcaaGreat
