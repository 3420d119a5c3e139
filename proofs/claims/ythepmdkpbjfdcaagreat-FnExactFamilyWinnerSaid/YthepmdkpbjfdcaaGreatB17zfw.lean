/- the game of places over an arena, as data: the game so far, its bounds -/
import Derived.Test.YthepmdkpbjfdcaaGreatB16zfw
import Derived.Test.YthepmdkpbjfdcaaGreatB7zfw
import Derived.Test.YthepmdkpbjfdcaaGreatB14zfw
import Derived.Test.YthepmdkpbjfdcaaGreatB10zfw
namespace Go.Proofs.YthepmdkpbjfdcaaGreat
open Go.RowKit
set_option linter.unusedVariables false
set_option linter.unusedSimpArgs false
def usA (a:Ar)(p:Plc):List Int:=gl a.next p.at_.toNat
section
variable (a:Ar) (rc:Plc→List Int) (pr:Plc→Int) (p0:Plc)
def qE (n:Nat):List Int:=(List.range n).map fun j=>gi a.owner (plQ (usA a) rc p0 j).at_.toNat
def nxG (n:Nat):List (List Int):=(List.range n).map fun j=>nxQ (usA a) rc p0 j
def prG (n:Nat):List Int:=(List.range n).map fun j=>pr (plQ (usA a) rc p0 j)
def gmA (n:Nat):Pa:=⟨⟨qE a rc p0 n,nxG a rc p0 n⟩,prG a rc pr p0 n⟩
def gmR (c:Bool):Pa:=if c&&okQ (usA a) rc p0 then gmA a rc pr p0 (stQ (usA a) rc p0 257).length else⟨⟨[],[]⟩,[]⟩
def plR (c:Bool):List Plc:=if c&&okQ (usA a) rc p0 then stQ (usA a) rc p0 257 else []
end
variable {a:Ar} {rc:Plc→List Int} {pr:Plc→Int} {p0:Plc}
theorem vO (n:Nat):(qE a rc p0 n).length=n:=by simp [qE]
theorem Qq (n:Nat):(nxG a rc p0 n).length=n:=by simp [nxG]
theorem XD (n:Nat):(prG a rc pr p0 n).length=n:=by simp [prG]
theorem zE0 (n:Nat):qE a rc p0 (n+1)=qE a rc p0 n++ [gi a.owner (plQ (usA a) rc p0 n).at_.toNat]:=by simp [qE,List.range_succ]
theorem zG0 (n:Nat):nxG a rc p0 (n+1)=nxG a rc p0 n++ [nxQ (usA a) rc p0 n]:=by simp [nxG,List.range_succ]
theorem zG3 (n:Nat):prG a rc pr p0 (n+1)=prG a rc pr p0 n++ [pr (plQ (usA a) rc p0 n)]:=by simp [prG,List.range_succ]
theorem zEz :qE a rc p0 0= []:=rfl
theorem zGz :nxG a rc p0 0= []:=rfl
theorem zG2 :prG a rc pr p0 0= []:=rfl
theorem zAo {c:Bool}(h:(c&&okQ (usA a) rc p0)=false):gmR a rc pr p0 c=⟨⟨[],[]⟩,[]⟩:=by unfold gmR;rw [h];rfl
theorem zBB {c:Bool}(h:(c&&okQ (usA a) rc p0)=false):plR a rc p0 c= []:=by unfold plR;rw [h];rfl
theorem zCc {c:Bool}{i:Nat}(hc:c=true)(hi:i≤256)(h: ¬i<(stQ (usA a) rc p0 i).length)(h2:i≤(stQ (usA a) rc p0 i).length):(c&&okQ (usA a) rc p0)=true∧gmR a rc pr p0 c=gmA a rc pr p0 i∧plR a rc p0 c=stQ (usA a) rc p0 i:=by
 obtain⟨h3,h4⟩:=zH2 hi h
 have h5:(c&&okQ (usA a) rc p0)=true:=by rw [hc,h3];rfl
 have h6:(stQ (usA a) rc p0 i).length=i:=by omega
 refine⟨h5,?_,?_⟩
 ·unfold gmR;rw [h5,if_pos rfl,h4,h6]
 ·unfold plR;rw [h5,if_pos rfl,h4]
theorem Jf (ha:ye a=true){p:Plc}(h:0≤p.at_∧p.at_<a.owner.length):1≤(usA a p).length∧(usA a p).length≤16∧∀u∈usA a p,0≤u∧u<a.owner.length:=by
 have hv:p.at_.toNat<a.owner.length:=by omega
 obtain⟨h1,h2,h3,h4,h5⟩:=xZ ha hv
 refine⟨h3,h4,fun u hu=> ?_⟩
 have hu:u∈gl a.next p.at_.toNat:=hu
 obtain⟨j,hj,rfl⟩:=List.mem_iff_getElem.1 hu
 have :=qc h5 hj
 unfold xy at this
 have :=of_decide_eq_true this
 have e:gi (gl a.next p.at_.toNat) j=(gl a.next p.at_.toNat)[j]:=by
  unfold gi
  rw [List.getD_eq_getElem?_getD,List.getElem?_eq_getElem hj]
  rfl
 rw [e]at this
 exact⟨this.1,this.2.1⟩
theorem zEd {ps qs:List Plc}{i:Nat}(h:i<ps.length):gq (ps++qs) i=gq ps i:=by
 unfold gq
 rw [List.getD_eq_getElem?_getD,List.getElem?_append_left h,List.getD_eq_getElem?_getD]
theorem kl {r us:List Int}{ps:List Plc}{i:Nat}(hi:i<ps.length): ∀{k:Nat},k≤us.length→gq (zp r us ps k).1 i=gq ps i
 |0,_=>rfl
 |k+1,h=>by
  have h1:=kl (r:=r) (us:=us) hi (k:=k) (by omega)
  have h3:=(qV (r:=r) (us:=us) (ps:=ps) (k:=k) (by omega)).2.1
  by_cases h2:ixQ (ym (gi us k) r) (zp r us ps k).1<0
  ·rw [vi (by omega) h2]
   show gq ((zp r us ps k).1++ [_]) i=_
   rw [zEd (by omega)];exact h1
  ·rw [wL (by omega) h2];exact h1
structure VB (a:Ar)(rc:Plc→List Int)(p0:Plc)(V:List Int→Prop)(B:Nat):Prop where
 first:0≤p0.at_∧p0.at_<(a.owner.length:Int)∧V p0.record
 next: ∀p:Plc,0≤p.at_→p.at_<(a.owner.length:Int)→V p.record→V (rc p)
 small: ∀r,V r→r.length≤B
theorem YW {V:List Int→Prop}{B:Nat}(ha:ye a=true)(h:VB a rc p0 V B)(i:Nat): ∀p∈stQ (usA a) rc p0 i,0≤p.at_∧p.at_<a.owner.length∧V p.record:=
 Jc (O:=fun p=>0≤p.at_∧p.at_<a.owner.length∧V p.record) h.first (fun p hp u hu=>by
  have :=(Jf ha ⟨hp.1,hp.2.1⟩).2.2 u hu
  exact⟨this.1,this.2,h.next p hp.1 hp.2.1 hp.2.2⟩) i
theorem zE2 {V:List Int→Prop}{B:Nat}(ha:ye a=true)(h:VB a rc p0 V B){i k:Nat}(hi:i<(stQ (usA a) rc p0 i).length)(hk:k≤(usA a (gq (stQ (usA a) rc p0 i) i)).length): ∀p∈(zp (rc (gq (stQ (usA a) rc p0 i) i)) (usA a (gq (stQ (usA a) rc p0 i) i)) (stQ (usA a) rc p0 i) k).1,0≤p.at_∧p.at_<a.owner.length∧V p.record:=by
 have hp:=YW ha h i _ (YQ hi)
 exact Vn (O:=fun p=>0≤p.at_∧p.at_<a.owner.length∧V p.record) (YW ha h i) (fun u hu=>by
  have :=(Jf ha ⟨hp.1,hp.2.1⟩).2.2 u hu
  exact⟨this.1,this.2,h.next _ hp.1 hp.2.1 hp.2.2⟩) hk
theorem zJd {V:List Int→Prop}{B:Nat}(ha:ye a=true)(h:VB a rc p0 V B){n:Nat}(hn:n≤1048576)(hall: ∀j,j<n→j<(stQ (usA a) rc p0 j).length):vx 1048576 (nxG a rc p0 n):=by
 refine⟨by rw [Qq];exact hn,fun r hr=> ?_⟩
 unfold nxG at hr
 obtain⟨j,hj,rfl⟩:=List.mem_map.1 hr
 have hj:=hall j (List.mem_range.1 hj)
 have hp:=YW ha h j _ (YQ hj)
 have h2:=(Jf ha ⟨hp.1,hp.2.1⟩).2.1
 unfold nxQ
 rw [xT]
 have h3:=(qV (r:=rc (gq (stQ (usA a) rc p0 j) j)) (us:=usA a (gq (stQ (usA a) rc p0 j) j)) (ps:=stQ (usA a) rc p0 j) (Nat.le_refl _)).1
 show(zp _ _ _ _).2.length≤_
 rw [h3]
 omega
theorem zCt {n:Nat}(h:n≤(stQ (usA a) rc p0 257).length)(hn:n≤257): ∀j,j<n→j<(stQ (usA a) rc p0 j).length:=fun j hj=>by
 rcases Nat.lt_or_ge j (stQ (usA a) rc p0 j).length with h1|h1
 ·exact h1
 ·have :=Vu (us:=usA a) (rc:=rc) (p0:=p0) (i:=j) (by omega) (j:=257) (by omega)
  rw [this]at h
  omega
theorem zJL {V:List Int→Prop}{B:Nat}{c:Bool}(ha:c=true→ye a=true∧VB a rc p0 V B):(gmR a rc pr p0 c).Ln 1048576:=by
 cases hc:(c&&okQ (usA a) rc p0)with
 |false=>
  rw [zAo hc]
  exact⟨⟨by unfold LnI;simp,⟨by simp,by simp⟩⟩,by unfold LnI;simp⟩
 |true=>
  have h1:=hc
  rw [Bool.and_eq_true]at h1
  obtain⟨h2,h3⟩:=ha h1.1
  have h4:(stQ (usA a) rc p0 257).length≤256:=by have :=h1.2;unfold okQ at this;exact of_decide_eq_true this
  unfold gmR
  rw [hc,if_pos rfl]
  have h5:=zCt (a:=a) (rc:=rc) (p0:=p0) (n:=(stQ (usA a) rc p0 257).length) (Nat.le_refl _) (by omega)
  obtain⟨n9,hn9⟩: ∃n9,n9=(stQ (usA a) rc p0 257).length:=⟨_,rfl⟩
  rw [←hn9]at h4 h5⊢
  refine⟨⟨?_,zJd h2 h3 (by omega) h5⟩,?_⟩
  ·show(qE a rc p0 _).length≤_;rw [vO];omega
  ·show(prG a rc pr p0 _).length≤_;rw [XD];omega
theorem zJf {V:List Int→Prop}{B:Nat}{c:Bool}(hB:B≤1048576)(ha:c=true→ye a=true∧VB a rc p0 V B):QLn 1048576 (plR a rc p0 c):=by
 cases hc:(c&&okQ (usA a) rc p0)with
 |false=>
  rw [zBB hc]
  exact⟨by simp,by simp⟩
 |true=>
  have h1:=hc
  rw [Bool.and_eq_true]at h1
  obtain⟨h2,h3⟩:=ha h1.1
  have h4:(stQ (usA a) rc p0 257).length≤256:=by have :=h1.2;unfold okQ at this;exact of_decide_eq_true this
  unfold plR
  rw [hc,if_pos rfl]
  exact⟨by omega,fun p hp=>Nat.le_trans (h3.small _ (YW h2 h3 257 p hp).2.2) hB⟩
theorem zBN {xs:List Int}{n m:Int}(h:yf xs n=true)(hm:n≤m):yf xs m=true:=by
 refine vZ fun k hk=> ?_
 have :=qc h hk
 unfold xy at this⊢
 have :=of_decide_eq_true this
 exact decide_eq_true (by omega)
theorem zEP {f:Fm}{n m:Int}(h:qr f n=true)(hm:n≤m):qr f m=true:=by
 unfold qr at h⊢
 rw [Bool.and_eq_true,Bool.and_eq_true]at h⊢
 refine⟨zBN h.1 hm,h.2.1,vZ fun i hi=> ?_⟩
 have :=qc h.2.2 hi
 unfold vt at this⊢
 rw [Bool.and_eq_true]at this⊢
 exact⟨zBN this.1 hm,this.2⟩
theorem zDd {r:List Int}(hn:r.Nodup)(v:Int):(zt r v).Perm r:=by
 cases h:yD r v with
 |false=>rw [Vf h]
 |true=>
  rw [Xr h]
  have h1:=List.perm_cons_erase ((xD _ _).1 h)
  rw [List.Nodup.erase_eq_filter hn]at h1
  have e:(fun x=> !decide (x=v))=(fun x=>x !=v):=funext fun x=>by
   by_cases h:x=v<;>simp [h]
  rw [e]
  exact h1.symm
theorem zEu {f:Fm}{r:List Int}{v:Int}(h:vk f r=true):vk f (zt r v)=true:=by
 obtain⟨h1,h2,h3,h4,h5⟩:=vH h
 rw [zCz h1]
 refine decide_eq_true ?_
 rw [←h2]
 exact wc ((xp _).trans ((zDd h4 v).trans (xp _).symm)) (qn _) (qn _)
theorem zFO {f:Fm}(h:qr f 256=true):vk f f.names=true:=by
 rw [zCz h]
 exact decide_eq_true (wc (xp _) (qn _) (pw_le (jq (VQ h).1)))
def rcF (p:Plc):List Int:=zt p.record p.at_
def prF (f:Fm)(p:Plc):Int:=yl f p.record p.at_
def fgC (a:Ar)(f:Fm)(s:Int):Bool:=ye a&&(WW f a.owner.length&&decide (0≤s∧s≤(a.owner.length:Int) - 1))
def fgB (a:Ar)(f:Fm)(s:Int):Bool:=fgC a f s&&okQ (usA a) rcF ⟨s,f.names⟩
def fgG (a:Ar)(f:Fm)(s:Int):Pa:=gmR a rcF (prF f) ⟨s,f.names⟩ (fgC a f s)
def fgP (a:Ar)(f:Fm)(s:Int):List Plc:=plR a rcF ⟨s,f.names⟩ (fgC a f s)
theorem wG {a:Ar}{f:Fm}{s:Int}(h:fgC a f s=true):ye a=true∧qr f 256=true∧VB a rcF ⟨s,f.names⟩ (fun r=>vk f r=true) 4:=by
 unfold fgC at h
 rw [Bool.and_eq_true,Bool.and_eq_true,decide_eq_true_eq]at h
 obtain⟨h1,h2,h3⟩:=h
 have hl:=yr h1
 have h4:qr f 256=true:=zEP (by rw [Zw (by omega)]at h2;exact h2) (by omega)
 exact⟨h1,h4,⟨⟨h3.1,by show s<_;omega,zFO h4⟩,fun p _ _ h=>zEu h,fun r hr=>(vH hr).2.2.1⟩⟩
theorem kO {a:Ar}{f:Fm}{s:Int}:(fgG a f s).Ln 1048576:=zJL (V:=fun r=>vk f r=true) (B:=4) fun h=>⟨(wG h).1,(wG h).2.2⟩
theorem zCZ {a:Ar}{f:Fm}{s:Int}:QLn 1048576 (fgP a f s):=zJf (V:=fun r=>vk f r=true) (B:=4) (by decide) fun h=>⟨(wG h).1,(wG h).2.2⟩
theorem zEQ {a:Ar}{f:Fm}{s:Int}(h:fgC a f s=false):fgB a f s=false∧fgG a f s=⟨⟨[],[]⟩,[]⟩∧fgP a f s= []:=by
 have :(fgC a f s&&okQ (usA a) rcF ⟨s,f.names⟩)=false:=by rw [h];rfl
 exact⟨this,zAo this,zBB this⟩
theorem zER {a:Ar}{f:Fm}{s:Int}(h:okQ (usA a) rcF ⟨s,f.names⟩=false):fgB a f s=false∧fgG a f s=⟨⟨[],[]⟩,[]⟩∧fgP a f s= []:=by
 have :(fgC a f s&&okQ (usA a) rcF ⟨s,f.names⟩)=false:=by rw [h,Bool.and_false]
 exact⟨this,zAo this,zBB this⟩
theorem zCV {a:Ar}{f:Fm}{s:Int}(h:ye a=false):fgC a f s=false:=by unfold fgC;rw [h];rfl
theorem zCW {a:Ar}{f:Fm}{s:Int}(h:WW f a.owner.length=false):fgC a f s=false:=by unfold fgC;rw [h,Bool.false_and,Bool.and_false]
theorem zCX {a:Ar}{f:Fm}{s:Int}(h: ¬(0≤s∧s≤(a.owner.length:Int) - 1)):fgC a f s=false:=by unfold fgC;rw [decide_eq_false h,Bool.and_false,Bool.and_false]
theorem zCY {a:Ar}{f:Fm}{s:Int}(h1:ye a=true)(h2:WW f a.owner.length=true)(h3:0≤s∧s≤(a.owner.length:Int) - 1):fgC a f s=true:=by unfold fgC;rw [h1,h2,decide_eq_true h3];rfl
open Nat renaming reduceMod → zA, reduceMul → zB, reduceDiv → zC, reduceAdd → zD, reduceSub → zE, reduceEqDiff → zF, reduceBEq → zG, reduceLT → zH, reduceLeDiff → zI
set_option maxRecDepth 20000 in
set_option maxHeartbeats 4000000 in
theorem Jy (p:Plc)(hp:p.record.length≤1048576)(u:Int)(r:List Int)(hr:r.length≤1048576):FnX Tryz.prog tyT 180 [.v (.agg [.int .i64 p.at_,DI p.record]), .ref (.lst 2 [.int .i64 u]), .ref (.lst 2 [DI r])] [.c (.bool (ym u r p))]:=by
 have hE:=KK p.record r hp hr
 refine XK (fn:=Tryz.f180) (rs:= [.tmp 4]) zO zN Tryz.func180 (by kernel_rfl) rfl rfl (by rw [Tryz.ntmps180];exact Nat.le_of_ble_eq_true rfl) rfl (by simp only [szX,List.mem_cons,List.not_mem_nil,or_false,forall_eq_or_imp,forall_eq,XT.cells,VT.cells,szL];try decide) ?_
 rw [Tryz.ntmps180]
 push_cast [↓zK,↓zJ]
 refine zL fun K hK=> ?_
 refine zM zO zN [] rfl ?_
 push_cast [↓zK,↓zJ]
 repeat' apply And.intro
 all_goals try exact gB
 all_goals(refine hK _ ?_;clear hK K)
 refine zL fun K hK=> ?_
 refine zj false zO zN ?_ rfl ?_
 ·kernel_rfl
 all_goals refine yF 9 fun K9 hK9=> ?_
 all_goals push_cast [↓zK,↓zJ]
 all_goals repeat'(first|(apply zP<;>(intro hg;(try simp only [push_cast]at hg)))|(refine⟨_,hE,?_⟩;push_cast [↓zK,↓zJ])|apply And.intro|(intro hg;(try simp only [push_cast]at hg)))
 all_goals try exact gA
 all_goals(refine hK9 _ ?_;clear hK9 K9)
 all_goals push_cast [↓zK,↓zJ]
 all_goals repeat'(first|(apply zP<;>(intro hg;(try simp only [push_cast]at hg)))|(refine⟨_,hE,?_⟩;push_cast [↓zK,↓zJ])|apply And.intro|(intro hg;(try simp only [push_cast]at hg)))
 all_goals try exact gA
 all_goals(refine hK _ ?_;clear hK K)
 all_goals(
   refine zW ?_
   refine⟨Or.inl rfl,?_⟩
   push_cast [za,yB,yZ,↓zK,↓zJ]
   all_goals first|exact(uz (by omega)).symm|(unfold ym;rw [decide_eq_true (by with_reducible assumption)];rfl)|(unfold ym;simp_all;done))
set_option maxRecDepth 20000 in
set_option maxHeartbeats 4000000 in
theorem Vx (ps:List Plc)(ha:QLn 1048576 ps)(g:FuncId)(d1 d2:D)(c1 c2:List D)(q:Plc→Bool)(hp: ∀k,k<ps.length→FnX Tryz.prog tyT g [.v (.agg [.int .i64 (gq ps k).at_,DI (gq ps k).record]), .ref (.lst 2 (d1::c1)), .ref (.lst 2 (d2::c2))] [.c (.bool (q (gq ps k)))]):FnX Tryz.prog tyT 179 [.v (.c (.lst 112 (yw ps))), .clo g [.lst 2 (d1::c1), .lst 2 (d2::c2)]] [.c (.int .i64 (ixQ q ps))]:=by
 have hl:=ha.1
 have hgl:=fun k=>JS ha k
 refine XK (fn:=Tryz.f179) (rs:= [.tmp 4]) zO zN Tryz.func179 (by kernel_rfl) rfl rfl (by rw [Tryz.ntmps179];exact Nat.le_of_ble_eq_true rfl) rfl (by simp only [szX,List.mem_cons,List.not_mem_nil,or_false,forall_eq_or_imp,forall_eq,XT.cells,VT.cells,szL];try decide) ?_
 rw [Tryz.ntmps179]
 push_cast [↓zK,↓zJ]
 refine zL fun K hK=> ?_
 refine zM zO zN [] rfl ?_
 all_goals push_cast [↓zK,↓zJ]
 all_goals repeat'(first|(apply zP<;>(intro hg;(try simp only [push_cast]at hg)))|apply And.intro|(intro hg;(try simp only [push_cast]at hg)))
 all_goals first|exact gA|(exact zb (by omega))|skip
 all_goals(refine hK _ ?_;clear hK K)
 refine zL fun K1 hK1=> ?_
 refine zL fun K hK=> ?_
 refine zM zO zN [] rfl ?_
 all_goals push_cast [↓zK,↓zJ]
 all_goals repeat'(first|(apply zP<;>(intro hg;(try simp only [push_cast]at hg)))|apply And.intro|(intro hg;(try simp only [push_cast]at hg)))
 all_goals first|exact gA|(exact zb (by omega))|skip
 all_goals(refine hK _ ?_;clear hK K)
 refine zV ?_
 refine zh [4,5,8,9,10,11,12,13,14,15,16,17,18] [] (fun(k:Nat)=> [(8, .int .i64 k)]) (fun k=> []) (fun k=> []) (fun k=>k≤ps.length∧∀j,j<k→q (gq ps j)=false) (fun k=>ps.length - k) 0 ?_ ⟨by omega,fun j hj=>by omega⟩ ?_
 ·
  refine zX rfl ?_ ?_ ?_<;>push_cast [zg,zf,↓zK,↓zJ]
 ·rintro k ⟨hk,hall⟩ KL0 hL0
  push_cast [↓zK,↓zJ]
  refine zL fun K hK=> ?_
  refine zM zO zN [] rfl ?_
  all_goals push_cast [↓zK,↓zJ]
  all_goals repeat'(first|(apply zP<;>(intro hg;(try simp only [push_cast]at hg)))|apply And.intro|(intro hg;(try simp only [push_cast]at hg)))
  all_goals first|exact gA|(exact zb (by omega))|skip
  all_goals(refine hK _ ?_;clear hK K)
  refine zL fun K2 hK2=> ?_
  refine zT rfl (fun hc=> ?_) (fun hc=> ?_)<;>(try simp only [push_cast]at hc)
  ·
   refine zU ?_
   refine hK2 _ ?_
   refine zL fun K3 hK3=> ?_
   refine zV ?_
   refine zL fun K hK=> ?_
   refine zM zO zN [] rfl ?_
   all_goals push_cast [↓zK,↓zJ]
   all_goals repeat'(first|(apply zP<;>(intro hg;(try simp only [push_cast]at hg)))|apply And.intro|(intro hg;(try simp only [push_cast]at hg)))
   all_goals first|exact gA|(exact zb (by omega))|skip
   all_goals(refine hK _ ?_;clear hK K)
   refine zL fun K hK=> ?_
   refine vp 16 2 rfl zO zN [] rfl ?_
   push_cast [↓zK,↓zJ]
   repeat' apply And.intro
   all_goals(try push_cast [↓zK,↓zJ])
   all_goals repeat'(first|(apply zP<;>(intro hg;(try simp only [push_cast]at hg)))|(refine⟨_,hp k (by omega),?_⟩;push_cast [↓zK,↓zJ])|apply And.intro|(intro hg;(try simp only [push_cast]at hg)))
   all_goals first|exact gA|(exact zb (by omega))|skip
   all_goals(refine hK _ ?_;clear hK K)
   refine zT rfl (fun hc=> ?_) (fun hc=> ?_)<;>(try simp only [push_cast]at hc)
   ·
    refine zL fun K hK=> ?_
    refine zM zO zN [] rfl ?_
    all_goals push_cast [↓zK,↓zJ]
    all_goals repeat'(first|(apply zP<;>(intro hg;(try simp only [push_cast]at hg)))|apply And.intro|(intro hg;(try simp only [push_cast]at hg)))
    all_goals first|exact gA|(exact zb (by omega))|skip
    all_goals(refine hK _ ?_;clear hK K)
    refine zW ?_
    refine⟨Or.inl rfl,?_⟩
    push_cast [za,yB,yZ,↓zK,↓zJ]
    rw [uf (k:=k) (by omega) (fun j hj=>hall j hj) hc]
   ·
    refine zU ?_
    refine hK3 _ ?_
    refine zM zO zN [] rfl ?_
    all_goals push_cast [↓zK,↓zJ]
    all_goals repeat'(first|(apply zP<;>(intro hg;(try simp only [push_cast]at hg)))|apply And.intro|(intro hg;(try simp only [push_cast]at hg)))
    all_goals first|exact gA|(exact zb (by omega))|skip
    refine hL0 _ ⟨k+1,⟨by omega,fun j hj=>(by
      by_cases hjk:j=k
      ·subst hjk;exact hc
      ·exact hall j (by omega))⟩,by omega,?_⟩
    refine zX rfl ?_ ?_ ?_<;>push_cast [zg,zf,↓zK,↓zJ]
  ·
   refine zi ?_
   refine hK1 _ ?_
   refine zL fun K hK=> ?_
   refine zM zO zN [] rfl ?_
   all_goals push_cast [↓zK,↓zJ]
   all_goals repeat'(first|(apply zP<;>(intro hg;(try simp only [push_cast]at hg)))|apply And.intro|(intro hg;(try simp only [push_cast]at hg)))
   all_goals first|exact gA|(exact zb (by omega))|skip
   all_goals(refine hK _ ?_;clear hK K)
   refine zW ?_
   refine⟨Or.inl rfl,?_⟩
   push_cast [za,yB,yZ,↓zK,↓zJ]
   rw [Kf fun j hj=>hall j (by omega)]
set_option maxRecDepth 20000 in
set_option maxHeartbeats 4000000 in
theorem jj (ps:List Plc)(ha:QLn 1048576 ps)(u:Int)(r:List Int)(hr:r.length≤1048576):Fn Tryz.prog tyT 156 [.c (.lst 112 (yw ps)), .c (.int .i64 u), .c (DI r)] [.c (.int .i64 (ixQ (ym u r) ps))]:=by
 refine zr (fn:=Tryz.f156) (ts:= [6]) Tryz.func156 (by kernel_rfl) rfl rfl (by rw [Tryz.ntmps156];exact Nat.le_of_ble_eq_true rfl) rfl (by simp only [szA,List.mem_cons,List.not_mem_nil,or_false,forall_eq_or_imp,forall_eq,VT.cells,szL];try decide) ?_
 rw [Tryz.ntmps156]
 push_cast [↓zK,↓zJ]
 refine zL fun K hK=> ?_
 refine zM zO zN [] rfl ?_
 all_goals push_cast [↓zK,↓zJ]
 all_goals repeat'(first|(apply zP<;>(intro hg;(try simp only [push_cast]at hg)))|(refine⟨_,Vx ps ha _ (.int .i64 u) (DI r) [] [] (ym u r) (fun k hk=>Jy (gq ps k) (JS ha k) u r hr),?_⟩;push_cast [↓zK,↓zJ])|apply And.intro|(intro hg;(try simp only [push_cast]at hg)))
 all_goals first|exact gA|decide|skip
 all_goals(refine hK _ ?_;clear hK K)
 refine zL fun K hK=> ?_
 refine vp 9 2 rfl zO zN [] rfl ?_
 push_cast [↓zK,↓zJ]
 repeat' apply And.intro
 all_goals(try push_cast [↓zK,↓zJ])
 all_goals repeat'(first|(apply zP<;>(intro hg;(try simp only [push_cast]at hg)))|(refine⟨_,Vx ps ha _ (.int .i64 u) (DI r) [] [] (ym u r) (fun k hk=>Jy (gq ps k) (JS ha k) u r hr),?_⟩;push_cast [↓zK,↓zJ])|apply And.intro|(intro hg;(try simp only [push_cast]at hg)))
 all_goals first|exact gA|decide|skip
 all_goals(refine hK _ ?_;clear hK K)
 refine zW ?_
 refine⟨Or.inl rfl,?_⟩
 push_cast [za,↓zK,↓zJ]
set_option maxRecDepth 20000 in
set_option maxHeartbeats 4000000 in
theorem jw (f:Fm)(hf:f.Ln 1048576)(p:Plc)(hp:p.record.length≤1048576)(hv:vk f p.record=true):FnX Tryz.prog tyT 111 [.v (.agg [.int .i64 p.at_,DI p.record]), .ref (.lst 2 [DI f.names,DII f.sets])] [.c (DI (zt p.record p.at_))]:=by
 have hN:=UI f hf p.record hp p.at_ hv
 unfold dFm at hN
 refine XK (fn:=Tryz.f111) (rs:= [.tmp 3]) zO zN Tryz.func111 (by kernel_rfl) rfl rfl (by rw [Tryz.ntmps111];exact Nat.le_of_ble_eq_true rfl) rfl (by simp only [szX,List.mem_cons,List.not_mem_nil,or_false,forall_eq_or_imp,forall_eq,XT.cells,VT.cells,szL];try decide) ?_
 rw [Tryz.ntmps111]
 push_cast
 refine zL fun K hK=> ?_
 refine zM zO zN [] rfl ?_
 push_cast
 repeat' apply And.intro
 all_goals try exact gB
 refine hK _ ?_;clear hK K
 refine zL fun K hK=> ?_
 refine zM zO zN [] rfl ?_
 all_goals refine zl 6 fun K9 hK9=> ?_
 all_goals push_cast
 all_goals repeat'(first|(apply zP<;>(intro hg;push_cast at hg))|(refine⟨_,hN,?_⟩;push_cast)|apply And.intro|(intro hg;push_cast at hg))
 all_goals try exact gA
 refine hK9 _ ?_;clear hK9 K9
 all_goals push_cast
 all_goals repeat'(first|(apply zP<;>(intro hg;push_cast at hg))|(refine⟨_,hN,?_⟩;push_cast)|apply And.intro|(intro hg;push_cast at hg))
 all_goals try exact gA
 refine hK _ ?_;clear hK K
 refine zW ?_
 refine⟨Or.inl rfl,?_⟩
 push_cast [za,yB,yZ]
set_option maxRecDepth 20000 in
set_option maxHeartbeats 4000000 in
theorem jx (f:Fm)(hf:f.Ln 1048576)(p:Plc)(hp:p.record.length≤1048576)(hv:vk f p.record=true):FnX Tryz.prog tyT 113 [.v (.agg [.int .i64 p.at_,DI p.record]), .ref (.lst 2 [DI f.names,DII f.sets])] [.c (.int .i64 (yl f p.record p.at_))]:=by
 have hN:=zBY f hf p.record hp p.at_ hv
 unfold dFm at hN
 refine XK (fn:=Tryz.f113) (rs:= [.tmp 3]) zO zN Tryz.func113 (by kernel_rfl) rfl rfl (by rw [Tryz.ntmps113];exact Nat.le_of_ble_eq_true rfl) rfl (by simp only [szX,List.mem_cons,List.not_mem_nil,or_false,forall_eq_or_imp,forall_eq,XT.cells,VT.cells,szL];try decide) ?_
 rw [Tryz.ntmps113]
 push_cast
 refine zL fun K hK=> ?_
 refine zM zO zN [] rfl ?_
 push_cast
 repeat' apply And.intro
 all_goals try exact gB
 refine hK _ ?_;clear hK K
 refine zL fun K hK=> ?_
 refine zM zO zN [] rfl ?_
 all_goals refine zl 6 fun K9 hK9=> ?_
 all_goals push_cast
 all_goals repeat'(first|(apply zP<;>(intro hg;push_cast at hg))|(refine⟨_,hN,?_⟩;push_cast)|apply And.intro|(intro hg;push_cast at hg))
 all_goals try exact gA
 refine hK9 _ ?_;clear hK9 K9
 all_goals push_cast
 all_goals repeat'(first|(apply zP<;>(intro hg;push_cast at hg))|(refine⟨_,hN,?_⟩;push_cast)|apply And.intro|(intro hg;push_cast at hg))
 all_goals try exact gA
 refine hK _ ?_;clear hK K
 refine zW ?_
 refine⟨Or.inl rfl,?_⟩
 push_cast [za,yB,yZ]
section
variable {P:Program} {τ:Ty} {st:St}
def YX :List (Nat×zn)→List (Nat×zn)
 | []=> []
 |(d,R)::l=>(d,{R with pin:=none})::YX l
def St.unpin (st:St):St:=⟨st.n,st.s,st.b,YX st.r⟩
theorem YU : ∀(l:List (Nat×zn)) (d:Nat) (R':zn),lk (YX l) d=some R'→∃R,lk l d=some R∧R'={R with pin:=none}
 | [],d,R',h=>by simp [YX,lk]at h
 |(k,R)::l,d,R',h=>by
  simp only [YX,lk]at h⊢
  split at h
  ·rename_i e
   rw [if_pos e]
   cases h
   exact⟨R,rfl,rfl⟩
  ·rename_i e
   rw [if_neg e]
   exact YU l d R' h
mutual
theorem uC {w:World}{rr:List (Nat×zn)}{bb:List (Nat×List AV)}{hd:Nat→Value}{bk:Nat→Nat}: ∀(v:AV) (z:Value),AvR τ w rr bb hd bk v z→AvR τ w (YX rr) bb hd bk v z
 | .int k n,z,h=>by simp only [AvR]at h⊢;exact h
 | .bool b,z,h=>by simp only [AvR]at h⊢;exact h
 | .sl d p off len e,z,h=>by
  simp only [AvR]at h⊢
  refine⟨h.1,fun R' hR' hp=> ?_⟩
  obtain⟨R,hR,rfl⟩:=YU _ _ _ hR'
  exact h.2 R hR hp
 | .nil,z,h=>by simp only [AvR]at h⊢;exact h
 | .ep d p i,z,h=>by
  simp only [AvR]at h⊢
  refine⟨h.1,fun R' hR' hp=> ?_⟩
  obtain⟨R,hR,rfl⟩:=YU _ _ _ hR'
  exact h.2 R hR hp
 | .bp t i,z,h=>by simp only [AvR]at h⊢;exact h
 | .agg vs,z,h=>by
  simp only [AvR]at h⊢
  obtain⟨cs,h1,h2⟩:=h
  exact⟨cs,h1,ZW vs cs h2⟩
 | .tup vs,z,h=>by
  simp only [AvR]at h⊢
  obtain⟨cs,h1,h2⟩:=h
  exact⟨cs,h1,ZW vs cs h2⟩
 | .fn f vs,z,h=>by
  simp only [AvR]at h⊢
  obtain⟨cs,h1,h2⟩:=h
  exact⟨cs,h1,ZW vs cs h2⟩
 | .dead,z,h=>by simp only [AvR]
 | .raw u,z,h=>by simpa only [AvR]using h
theorem ZW {w:World}{rr:List (Nat×zn)}{bb:List (Nat×List AV)}{hd:Nat→Value}{bk:Nat→Nat}: ∀(vs:List AV) (zs:List Value),zZ τ w rr bb hd bk vs zs→zZ τ w (YX rr) bb hd bk vs zs
 | [],zs,h=>by simp only [zZ]at h⊢;exact h
 |x::xs,zs,h=>by
  simp only [zZ]at h⊢
  obtain⟨v,vs',h1,h2,h3⟩:=h
  exact⟨v,vs',h1,uC x v h2,ZW xs vs' h3⟩
end
theorem zED {c:Code}{Q:Exit→St→Prop}(hK:awp P τ c Q st.unpin):awp P τ c Q st:=fun lo w0 a w hr=>by
 obtain⟨ow,hd,bk,h⟩:=hr
 refine hK lo w0 a w ⟨ow,hd,bk,h.big,h.defers,h.size,h.low,h.below,h.ge,h.new,fun k v hv=>uC v _ (h.slot k v hv),fun d R' hR'=> ?_,fun t vs hv=> ?_,fun d R' i hR' hp=> ?_⟩
 ·obtain⟨R,hR,rfl⟩:=YU _ _ _ hR'
  exact h.root d R hR
 ·obtain⟨cs,ty,h1,h2,h3⟩:=h.box t vs hv
  exact⟨cs,ty,h1,h2,ZW vs cs h3⟩
 ·obtain⟨R,hR,rfl⟩:=YU _ _ _ hR'
  cases hp
end
attribute [push_cast] St.unpin YX
set_option maxRecDepth 20000 in
set_option maxHeartbeats 4000000 in
theorem UL (g:Pa)(hg:g.Ln 1000000)(o p:Int)(nx:List Int)(hx:nx.length≤1000000):FnG Tryz.prog tyT 157 [.agg (dPa g), .c (.int .i64 o), .c (.int .i64 p), .c (DI nx)] [0,1,2,48] [] [.agg (dPa ⟨⟨g.a.owner++ [o],g.a.next++ [nx]⟩,g.prio++ [p]⟩)]:=by
 have h1:=hg.a.owner
 have h2:=hg.a.next.1
 have h3:=hg.prio
 unfold LnI at h1 h3
 unfold dPa
 refine zIb (fn:=Tryz.f157) (rs:= [.cell 8 80]) (own:= [0,1,2,48]) (outs:= []) zO zN Tryz.func157 (by kernel_rfl) rfl rfl (by rw [Tryz.ntmps157];exact Nat.le_of_ble_eq_true rfl) rfl (by simp only [szA,List.mem_cons,List.not_mem_nil,or_false,forall_eq_or_imp,forall_eq,VT.cells,szL];try decide) ?_
 rw [Tryz.ntmps157]
 push_cast
 refine zL fun K hK=> ?_
 refine zM zO zN [] rfl ?_
 push_cast
 repeat' apply And.intro
 all_goals try exact gB
 refine hK _ ?_;clear hK K
 refine zED ?_
 push_cast
 refine zL fun K hK=> ?_
 refine zM zO zN [] rfl ?_
 push_cast
 repeat' apply And.intro
 all_goals try exact gB
 refine hK _ ?_;clear hK K
 refine zL fun K hK=> ?_
 refine zj false zO zN ?_ rfl ?_
 ·kernel_rfl
 push_cast
 all_goals repeat'(first|(apply zP<;>(intro hg;push_cast at hg))|apply And.intro|(intro hg;push_cast at hg))
 all_goals try exact gA
 refine hK _ ?_;clear hK K
 refine zL fun K hK=> ?_
 refine zM zO zN [] rfl ?_
 push_cast
 repeat' apply And.intro
 all_goals try exact gB
 refine hK _ ?_;clear hK K
 refine zL fun K hK=> ?_
 refine zM zO zN [] rfl ?_
 push_cast
 repeat' apply And.intro
 all_goals try exact gB
 refine hK _ ?_;clear hK K
 refine zW ?_
 refine⟨Or.inl rfl,?_⟩
 push_cast [za,yB,yZ]
 exact⟨by decide,by simp,by simp,by simp⟩
theorem zGd {us rc:Plc→List Int}{p0:Plc}{n:Nat}(h:n≤(stQ us rc p0 n).length): ∀j,j<n→j<(stQ us rc p0 j).length:=fun j hj=>by
 rcases Nat.lt_or_ge j (stQ us rc p0 j).length with h1|h1
 ·exact h1
 ·have :=Vu (us:=us) (rc:=rc) (p0:=p0) (i:=j) (by omega) (j:=n) (by omega)
  rw [this]at h
  omega
theorem zH1 {a:Ar}{rc:Plc→List Int}{p0:Plc}{V:List Int→Prop}{B:Nat}(ha:ye a=true)(h:VB a rc p0 V B){n:Nat}(hall: ∀j,j<n→j<(stQ (usA a) rc p0 j).length): ∀r∈nxG a rc p0 n,r.length≤16:=fun r hr=>by
 unfold nxG at hr
 obtain⟨j,hj,rfl⟩:=List.mem_map.1 hr
 have hj:=hall j (List.mem_range.1 hj)
 have hp:=YW ha h j _ (YQ hj)
 have h2:=(Jf ha ⟨hp.1,hp.2.1⟩).2.1
 unfold nxQ
 rw [xT]
 have h3:=(qV (r:=rc (gq (stQ (usA a) rc p0 j) j)) (us:=usA a (gq (stQ (usA a) rc p0 j) j)) (ps:=stQ (usA a) rc p0 j) (Nat.le_refl _)).1
 show(zp _ _ _ _).2.length≤_
 rw [h3]
 omega
set_option maxRecDepth 20000 in
set_option maxHeartbeats 16000000 in
theorem ki (a:Ar)(ha:a.Ln 1048576)(f:Fm)(hf:f.Ln 1048576)(s:Int)(hPre:ye a=true∧VB a rcF ⟨s,f.names⟩ (fun r=>vk f r=true) 4)(K0:AV→List AV→List (Nat×zn)→Prop)(hKA:okQ (usA a) rcF ⟨s,f.names⟩=false→K0 (.tup [.agg [.sl 128 [] 0 0 2, .sl 129 [] 0 0 22, .sl 130 [] 0 0 2], .sl 144 [] 0 0 112, .bool false]) [.sl 96 [] 0 0 2, .sl 97 [] 0 0 22, .sl 98 [] 0 0 2] [(128,⟨.ex,2,[],none⟩),(129,⟨.ex,22,[],none⟩),(130,⟨.ex,2,[],none⟩),(144,⟨.ex,112,[],none⟩)])(hKB: ∀i,i≤256→¬i<(stQ (usA a) rcF ⟨s,f.names⟩ i).length→i≤(stQ (usA a) rcF ⟨s,f.names⟩ i).length→K0 (.tup [.agg [.sl 128 [] 0 i 2, .sl 129 [] 0 i 22, .sl 130 [] 0 i 2], .sl 144 [] 0 (stQ (usA a) rcF ⟨s,f.names⟩ i).length 112, .bool true]) [.sl 96 [] 0 0 2, .sl 97 [] 0 0 22, .sl 98 [] 0 0 2] [(128,⟨.ex,2,dI (qE a rcF ⟨s,f.names⟩ i),none⟩),(129,⟨.ex,22,dII (nxG a rcF ⟨s,f.names⟩ i),none⟩),(130,⟨.ex,2,dI (prG a rcF (prF f) ⟨s,f.names⟩ i),none⟩),(144,⟨.ex,112,yw (stQ (usA a) rcF ⟨s,f.names⟩ i),none⟩)]):awp Tryz.prog tyT (Tryz.f110.body.getD .skip) (RetI tyT [.cell 8 80, .tmp 9, .tmp 10] K0) ⟨89,[(0, .agg [.sl 0 [] 0 a.owner.length 2, .sl 1 [] 0 a.next.length 22]),(1, .agg [.int .i64 s, .sl 496 [] 0 f.names.length 2]),(2, .fn 111 [.bp 4 0]),(3, .fn 113 [.bp 4 0])],[(1000000,[.sl 96 [] 0 0 2, .sl 97 [] 0 0 22, .sl 98 [] 0 0 2]),(4,[.sl 16 [] 0 f.names.length 2, .sl 17 [] 0 f.sets.length 22])],[(0,⟨.sh,2,dI a.owner,none⟩),(1,⟨.sh,22,dII a.next,none⟩),(16,⟨.sh,2,dI f.names,none⟩),(17,⟨.sh,22,dII f.sets,none⟩),(496,⟨.ex,2,dI f.names,none⟩)]⟩:=by
 have hno:=ha.owner
 have hnn:=ha.next.1
 have hrr: ∀v,(gl a.next v).length≤1048576:=fun v=>Yl ha.next v
 unfold LnI at hno
 have h1:=hPre.1
 have h3:=hPre.2
 have hln:=yr h1
 refine zFo 4 2000 rfl rfl ?_
 push_cast [↓zK,↓zJ]
 refine zJN rfl ?_
 (try push_cast [↓zK,↓zJ])
 refine zL fun K hK=> ?_
 refine zM zO zN [] rfl ?_
 all_goals push_cast [↓zK,↓zJ]
 all_goals repeat'(first|(apply zP<;>(intro hg;(try simp only [push_cast]at hg)))|apply And.intro|(intro hg;(try simp only [push_cast]at hg)))
 all_goals first|exact gA|(exact zb (by omega))|skip
 all_goals(refine hK _ ?_;clear hK K)
 refine zL fun K hK=> ?_
 refine zj false zO zN ?_ rfl ?_
 ·kernel_rfl
 push_cast [↓zK,↓zJ]
 all_goals repeat'(first|(apply zP<;>(intro hg;(try simp only [push_cast]at hg)))|apply And.intro|(intro hg;(try simp only [push_cast]at hg)))
 all_goals first|exact gA|(exact zb (by omega))|skip
 all_goals(refine hK _ ?_;clear hK K)
 refine zL fun K hK=> ?_
 refine zM zO zN [] rfl ?_
 all_goals push_cast [↓zK,↓zJ]
 all_goals repeat'(first|(apply zP<;>(intro hg;(try simp only [push_cast]at hg)))|apply And.intro|(intro hg;(try simp only [push_cast]at hg)))
 all_goals first|exact gA|(exact zb (by omega))|skip
 all_goals(refine hK _ ?_;clear hK K)
 refine zL fun K1 hK1=> ?_
 refine vA 112 11 (Nat.le_of_ble_eq_true rfl) ?_
 push_cast [↓zK,↓zJ]
 refine zL fun K hK=> ?_
 refine zM zO zN [] rfl ?_
 all_goals push_cast [↓zK,↓zJ]
 all_goals repeat'(first|(apply zP<;>(intro hg;(try simp only [push_cast]at hg)))|apply And.intro|(intro hg;(try simp only [push_cast]at hg)))
 all_goals first|exact gA|(exact zb (by omega))|skip
 all_goals(refine hK _ ?_;clear hK K)
 refine zV ?_
 refine zh [9,10,11,12,13,14,15,16,18,19,23,24,25,26,27,28,29,30,31,32,33,34,35,36,37,38,39,40,41,42,43,44,45,46,47,48,49,50,51,52,53,54,55,56,57,58,59,60,61,62,63,64,65,66,67,68,69,70,71,72,73,74,75,76,77,78,79,80,81,82,83,84,85,86] [] (fun(i:Nat)=> [(13, .int .i64 i),(11, .sl 176 [] 0 (stQ (usA a) rcF ⟨s,f.names⟩ i).length 112),(12, .bp 12 0)]) (fun i=> [(12,[.sl 192 [] 0 i 2, .sl 193 [] 0 i 22, .sl 194 [] 0 i 2])]) (fun i=> [(176,⟨.ex,112,yw (stQ (usA a) rcF ⟨s,f.names⟩ i),none⟩),(192,⟨.ex,2,dI (qE a rcF ⟨s,f.names⟩ i),none⟩),(193,⟨.ex,22,dII (nxG a rcF ⟨s,f.names⟩ i),none⟩),(194,⟨.ex,2,dI (prG a rcF (prF f) ⟨s,f.names⟩ i),none⟩)]) (fun i=>i≤256∧i≤(stQ (usA a) rcF ⟨s,f.names⟩ i).length∧(stQ (usA a) rcF ⟨s,f.names⟩ i).length≤256) (fun i=>257 - i) 0 ?_ ⟨by omega,Nat.zero_le _,(by show 1≤256;decide)⟩ ?_
 ·
  rw [show stQ (usA a) rcF ⟨s,f.names⟩ 0= [⟨s,f.names⟩]from rfl,zEz,zGz,zG2]
  refine zX rfl ?_ ?_ ?_<;>push_cast [zg,zf,↓zK,↓zJ]
  all_goals first|rfl|exact⟨rfl,rfl,rfl,rfl⟩|skip
 ·rintro i ⟨hi,hil,hsl⟩ KL0 hL0
  have hall:=YW h1 h3 i
  have hq:QLn 1048576 (stQ (usA a) rcF ⟨s,f.names⟩ i):=⟨by omega,fun p hp=>by have :=h3.small _ (hall p hp).2.2;omega⟩
  have hgl:=fun k=>JS hq k
  have ho1:=vO (a:=a) (rc:=rcF) (p0:=⟨s,f.names⟩) i
  have ho2:=Qq (a:=a) (rc:=rcF) (p0:=⟨s,f.names⟩) i
  have ho3:=XD (a:=a) (rc:=rcF) (pr:=(prF f)) (p0:=⟨s,f.names⟩) i
  push_cast [↓zK,↓zJ]
  refine zL fun K2 hK2=> ?_
  refine zL fun K hK=> ?_
  refine zM zO zN [] rfl ?_
  all_goals push_cast [↓zK,↓zJ]
  all_goals repeat'(first|(apply zP<;>(intro hg;(try simp only [push_cast]at hg)))|apply And.intro|(intro hg;(try simp only [push_cast]at hg)))
  all_goals first|exact gA|(exact zb (by omega))|skip
  all_goals(refine hK _ ?_;clear hK K)
  refine zT rfl (fun hc=> ?_) (fun hc=> ?_)<;>(try simp only [push_cast]at hc)
  ·
   refine zU ?_
   refine hK2 _ ?_
   refine zL fun K3 hK3=> ?_
   refine zV ?_
   have hP:=hall _ (YQ (k:=i) (by omega))
   have hU:1≤(gl a.next (gq (stQ (usA a) rcF ⟨s,f.names⟩ i) i).at_.toNat).length∧(gl a.next (gq (stQ (usA a) rcF ⟨s,f.names⟩ i) i).at_.toNat).length≤16∧∀u∈(gl a.next (gq (stQ (usA a) rcF ⟨s,f.names⟩ i) i).at_.toNat),0≤u∧u<(a.owner.length:Int):=Jf h1 ⟨hP.1,hP.2.1⟩
   have hpl:=h3.small _ hP.2.2
   have hnl:(zt (gq (stQ (usA a) rcF ⟨s,f.names⟩ i) i).record (gq (stQ (usA a) rcF ⟨s,f.names⟩ i) i).at_).length≤4:=h3.small _ (h3.next _ hP.1 hP.2.1 hP.2.2)
   refine zL fun K hK=> ?_
   refine zM zO zN [] rfl ?_
   all_goals push_cast [↓zK,↓zJ]
   all_goals repeat'(first|(apply zP<;>(intro hg;(try simp only [push_cast]at hg)))|apply And.intro|(intro hg;(try simp only [push_cast]at hg)))
   all_goals first|exact gA|(exact zb (by omega))|skip
   all_goals(refine hK _ ?_;clear hK K)
   refine zL fun K hK=> ?_
   refine vp 35 2 rfl zO zN [] rfl ?_
   push_cast [↓zK,↓zJ]
   repeat' apply And.intro
   all_goals(try push_cast [↓zK,↓zJ])
   all_goals repeat'(first|(apply zP<;>(intro hg;(try simp only [push_cast]at hg)))|(refine⟨_,jw f hf (gq (stQ (usA a) rcF ⟨s,f.names⟩ i) i) (by omega) hP.2.2,?_⟩;push_cast [↓zK,↓zJ])|apply And.intro|(intro hg;(try simp only [push_cast]at hg)))
   all_goals first|exact gA|(exact zb (by omega))|skip
   all_goals(refine hK _ ?_;clear hK K)
   refine zL fun K hK=> ?_
   refine zM zO zN [] rfl ?_
   all_goals push_cast [↓zK,↓zJ]
   all_goals repeat'(first|(apply zP<;>(intro hg;(try simp only [push_cast]at hg)))|apply And.intro|(intro hg;(try simp only [push_cast]at hg)))
   all_goals first|exact gA|(exact zb (by omega))|skip
   all_goals(refine hK _ ?_;clear hK K)
   refine zL fun K4 hK4=> ?_
   refine zL fun K hK=> ?_
   refine zM zO zN [] rfl ?_
   all_goals push_cast [↓zK,↓zJ]
   all_goals repeat'(first|(apply zP<;>(intro hg;(try simp only [push_cast]at hg)))|apply And.intro|(intro hg;(try simp only [push_cast]at hg)))
   all_goals first|exact gA|(exact zb (by omega))|skip
   all_goals(refine hK _ ?_;clear hK K)
   refine zV ?_
   refine zh [11,14,16,18,19,24,29,31,32,33,34,44,45,46,47,48,49,50,51,52,53,54,55,56,57,58,59,60,61,62,63,64,65,66,67,68] [256,224,225] (fun(k:Nat)=> [(44, .int .i64 k),(11, .sl 176 [] 0 (zp (zt (gq (stQ (usA a) rcF ⟨s,f.names⟩ i) i).record (gq (stQ (usA a) rcF ⟨s,f.names⟩ i) i).at_) (gl a.next (gq (stQ (usA a) rcF ⟨s,f.names⟩ i) i).at_.toNat) (stQ (usA a) rcF ⟨s,f.names⟩ i) k).1.length 112),(16, .sl 256 [] 0 k 2),(14, .bp 14 0)]) (fun k=> [(14,[.int .i64 (gq (stQ (usA a) rcF ⟨s,f.names⟩ i) i).at_, .sl 176 [i*2+1] 0 (gq (stQ (usA a) rcF ⟨s,f.names⟩ i) i).record.length 2])]) (fun k=> [(176,⟨.ex,112,yw (zp (zt (gq (stQ (usA a) rcF ⟨s,f.names⟩ i) i).record (gq (stQ (usA a) rcF ⟨s,f.names⟩ i) i).at_) (gl a.next (gq (stQ (usA a) rcF ⟨s,f.names⟩ i) i).at_.toNat) (stQ (usA a) rcF ⟨s,f.names⟩ i) k).1,none⟩),(256,⟨.ex,2,dI (zp (zt (gq (stQ (usA a) rcF ⟨s,f.names⟩ i) i).record (gq (stQ (usA a) rcF ⟨s,f.names⟩ i) i).at_) (gl a.next (gq (stQ (usA a) rcF ⟨s,f.names⟩ i) i).at_.toNat) (stQ (usA a) rcF ⟨s,f.names⟩ i) k).2,none⟩)]) (fun k=>k≤(gl a.next (gq (stQ (usA a) rcF ⟨s,f.names⟩ i) i).at_.toNat).length) (fun k=>(gl a.next (gq (stQ (usA a) rcF ⟨s,f.names⟩ i) i).at_.toNat).length - k) 0 ?_ (Nat.zero_le _) ?_
   ·
    rw [zBG]
    refine zX rfl ?_ ?_ ?_<;>push_cast [zg,zf,↓zK,↓zJ]
    all_goals first|rfl|skip
   ·rintro k hk KL1 hL1
    have hrl:=qV (r:=(zt (gq (stQ (usA a) rcF ⟨s,f.names⟩ i) i).record (gq (stQ (usA a) rcF ⟨s,f.names⟩ i) i).at_)) (us:=(gl a.next (gq (stQ (usA a) rcF ⟨s,f.names⟩ i) i).at_.toNat)) (ps:=(stQ (usA a) rcF ⟨s,f.names⟩ i)) (k:=k) hk
    have hQr:QLn 1048576 (zp (zt (gq (stQ (usA a) rcF ⟨s,f.names⟩ i) i).record (gq (stQ (usA a) rcF ⟨s,f.names⟩ i) i).at_) (gl a.next (gq (stQ (usA a) rcF ⟨s,f.names⟩ i) i).at_.toNat) (stQ (usA a) rcF ⟨s,f.names⟩ i) k).1:=⟨by omega,fun p hp=>by have :=h3.small _ (zE2 h1 h3 (i:=i) (k:=k) (by omega) hk p hp).2.2;omega⟩
    have hx:=zEh (ym (gi (gl a.next (gq (stQ (usA a) rcF ⟨s,f.names⟩ i) i).at_.toNat) k) (zt (gq (stQ (usA a) rcF ⟨s,f.names⟩ i) i).record (gq (stQ (usA a) rcF ⟨s,f.names⟩ i) i).at_)) (zp (zt (gq (stQ (usA a) rcF ⟨s,f.names⟩ i) i).record (gq (stQ (usA a) rcF ⟨s,f.names⟩ i) i).at_) (gl a.next (gq (stQ (usA a) rcF ⟨s,f.names⟩ i) i).at_.toNat) (stQ (usA a) rcF ⟨s,f.names⟩ i) k).1
    push_cast [↓zK,↓zJ]
    refine zL fun K hK=> ?_
    refine zM zO zN [] rfl ?_
    all_goals push_cast [↓zK,↓zJ]
    all_goals repeat'(first|(apply zP<;>(intro hg;(try simp only [push_cast]at hg)))|apply And.intro|(intro hg;(try simp only [push_cast]at hg)))
    all_goals first|exact gA|(exact zb (by omega))|skip
    all_goals(refine hK _ ?_;clear hK K)
    refine zL fun K5 hK5=> ?_
    refine zT rfl (fun hc=> ?_) (fun hc=> ?_)<;>(try simp only [push_cast]at hc)
    ·
     refine zU ?_
     refine hK5 _ ?_
     refine zL fun K6 hK6=> ?_
     refine zV ?_
     refine zL fun K hK=> ?_
     refine zM zO zN [] rfl ?_
     all_goals push_cast [↓zK,↓zJ]
     all_goals repeat'(first|(apply zP<;>(intro hg;(try simp only [push_cast]at hg)))|apply And.intro|(intro hg;(try simp only [push_cast]at hg)))
     all_goals first|exact gA|(exact zb (by omega))|skip
     all_goals(refine hK _ ?_;clear hK K)
     refine zL fun K hK=> ?_
     refine zM zO zN [] rfl ?_
     all_goals refine zl 4 fun K9 hK9=> ?_
     all_goals push_cast [↓zK,↓zJ]
     all_goals repeat'(first|(apply zP<;>(intro hg;(try simp only [push_cast]at hg)))|(refine⟨_,jj (zp (zt (gq (stQ (usA a) rcF ⟨s,f.names⟩ i) i).record (gq (stQ (usA a) rcF ⟨s,f.names⟩ i) i).at_) (gl a.next (gq (stQ (usA a) rcF ⟨s,f.names⟩ i) i).at_.toNat) (stQ (usA a) rcF ⟨s,f.names⟩ i) k).1 hQr (gi (gl a.next (gq (stQ (usA a) rcF ⟨s,f.names⟩ i) i).at_.toNat) k) (zt (gq (stQ (usA a) rcF ⟨s,f.names⟩ i) i).record (gq (stQ (usA a) rcF ⟨s,f.names⟩ i) i).at_) (by omega),?_⟩;push_cast [↓zK,↓zJ])|apply And.intro|(intro hg;(try simp only [push_cast]at hg)))
     all_goals first|exact gA|(exact zb (by omega))|skip
     all_goals(refine hK9 _ ?_;clear hK9 K9)
     all_goals push_cast [↓zK,↓zJ]
     all_goals repeat'(first|(apply zP<;>(intro hg;(try simp only [push_cast]at hg)))|(refine⟨_,jj (zp (zt (gq (stQ (usA a) rcF ⟨s,f.names⟩ i) i).record (gq (stQ (usA a) rcF ⟨s,f.names⟩ i) i).at_) (gl a.next (gq (stQ (usA a) rcF ⟨s,f.names⟩ i) i).at_.toNat) (stQ (usA a) rcF ⟨s,f.names⟩ i) k).1 hQr (gi (gl a.next (gq (stQ (usA a) rcF ⟨s,f.names⟩ i) i).at_.toNat) k) (zt (gq (stQ (usA a) rcF ⟨s,f.names⟩ i) i).record (gq (stQ (usA a) rcF ⟨s,f.names⟩ i) i).at_) (by omega),?_⟩;push_cast [↓zK,↓zJ])|apply And.intro|(intro hg;(try simp only [push_cast]at hg)))
     all_goals first|exact gA|(exact zb (by omega))|skip
     all_goals(refine hK _ ?_;clear hK K)
     refine zL fun K7 hK7=> ?_
     refine zL fun K hK=> ?_
     refine zM zO zN [] rfl ?_
     all_goals push_cast [↓zK,↓zJ]
     all_goals repeat'(first|(apply zP<;>(intro hg;(try simp only [push_cast]at hg)))|apply And.intro|(intro hg;(try simp only [push_cast]at hg)))
     all_goals first|exact gA|(exact zb (by omega))|skip
     all_goals(refine hK _ ?_;clear hK K)
     refine zT rfl (fun hc=> ?_) (fun hc=> ?_)<;>(try simp only [push_cast]at hc)
     ·
      refine zL fun K hK=> ?_
      refine zM zO zN [] rfl ?_
      all_goals push_cast [↓zK,↓zJ]
      all_goals repeat'(first|(apply zP<;>(intro hg;(try simp only [push_cast]at hg)))|apply And.intro|(intro hg;(try simp only [push_cast]at hg)))
      all_goals first|exact gA|(exact zb (by omega))|skip
      all_goals(refine hK _ ?_;clear hK K)
      refine Jk 7 14 1 1008 176 [176] zO zN ?_ rfl rfl rfl fun K9 hK9=> ?_
      ·kernel_rfl
      all_goals push_cast [↓zK,↓zJ]
      all_goals repeat'(first|(apply zP<;>(intro hg;(try simp only [push_cast]at hg)))|apply And.intro|(intro hg;(try simp only [push_cast]at hg)))
      all_goals first|exact gA|(exact zb (by omega))|skip
      all_goals(refine hK9 _ ?_;clear hK9 K9)
      all_goals push_cast [↓zK,↓zJ]
      all_goals repeat'(first|(apply zP<;>(intro hg;(try simp only [push_cast]at hg)))|apply And.intro|(intro hg;(try simp only [push_cast]at hg)))
      all_goals first|exact gA|(exact zb (by omega))|skip
      refine hK7 _ ?_
      refine zM zO zN [] rfl ?_
      all_goals push_cast [↓zK,↓zJ]
      all_goals repeat'(first|(apply zP<;>(intro hg;(try simp only [push_cast]at hg)))|apply And.intro|(intro hg;(try simp only [push_cast]at hg)))
      all_goals first|exact gA|(exact zb (by omega))|skip
      refine hK6 _ ?_
      refine zM zO zN [] rfl ?_
      all_goals push_cast [↓zK,↓zJ]
      all_goals repeat'(first|(apply zP<;>(intro hg;(try simp only [push_cast]at hg)))|apply And.intro|(intro hg;(try simp only [push_cast]at hg)))
      all_goals first|exact gA|(exact zb (by omega))|skip
      refine hL1 _ ⟨k+1,by omega,by omega,?_⟩
      (try rw [List.take_of_length_le (l:=(zp (zt (gq (stQ (usA a) rcF ⟨s,f.names⟩ i) i).record (gq (stQ (usA a) rcF ⟨s,f.names⟩ i) i).at_) (gl a.next (gq (stQ (usA a) rcF ⟨s,f.names⟩ i) i).at_.toNat) (stQ (usA a) rcF ⟨s,f.names⟩ i) k).2) (by omega)])
      rw [vi (by omega) (by with_reducible assumption)]
      refine zX rfl ?_ ?_ ?_<;>push_cast [zg,zf,↓zK,↓zJ]
      all_goals first|rfl|(rw [List.length_append];rfl)|exact⟨rfl,rfl⟩|skip
     ·
      refine zU ?_
      refine hK7 _ ?_
      refine zM zO zN [] rfl ?_
      all_goals push_cast [↓zK,↓zJ]
      all_goals repeat'(first|(apply zP<;>(intro hg;(try simp only [push_cast]at hg)))|apply And.intro|(intro hg;(try simp only [push_cast]at hg)))
      all_goals first|exact gA|(exact zb (by omega))|skip
      refine hK6 _ ?_
      refine zM zO zN [] rfl ?_
      all_goals push_cast [↓zK,↓zJ]
      all_goals repeat'(first|(apply zP<;>(intro hg;(try simp only [push_cast]at hg)))|apply And.intro|(intro hg;(try simp only [push_cast]at hg)))
      all_goals first|exact gA|(exact zb (by omega))|skip
      refine hL1 _ ⟨k+1,by omega,by omega,?_⟩
      (try rw [List.take_of_length_le (l:=(zp (zt (gq (stQ (usA a) rcF ⟨s,f.names⟩ i) i).record (gq (stQ (usA a) rcF ⟨s,f.names⟩ i) i).at_) (gl a.next (gq (stQ (usA a) rcF ⟨s,f.names⟩ i) i).at_.toNat) (stQ (usA a) rcF ⟨s,f.names⟩ i) k).2) (by omega)])
      rw [wL (by omega) (by with_reducible assumption)]
      refine zX rfl ?_ ?_ ?_<;>push_cast [zg,zf,↓zK,↓zJ]
      all_goals first|rfl|(rw [List.length_append];rfl)|exact⟨rfl,rfl⟩|skip
    ·
     refine zi ?_
     have hkk:k=(gl a.next (gq (stQ (usA a) rcF ⟨s,f.names⟩ i) i).at_.toNat).length:=by omega
     subst hkk
     refine hK4 _ ?_
     refine zL fun K8 hK8=> ?_
     have hgi:gq (zp (zt (gq (stQ (usA a) rcF ⟨s,f.names⟩ i) i).record (gq (stQ (usA a) rcF ⟨s,f.names⟩ i) i).at_) (gl a.next (gq (stQ (usA a) rcF ⟨s,f.names⟩ i) i).at_.toNat) (stQ (usA a) rcF ⟨s,f.names⟩ i) (gl a.next (gq (stQ (usA a) rcF ⟨s,f.names⟩ i) i).at_.toNat).length).1 i=(gq (stQ (usA a) rcF ⟨s,f.names⟩ i) i):=kl (by omega) (Nat.le_refl _)
     have hrl9:=qV (r:=(zt (gq (stQ (usA a) rcF ⟨s,f.names⟩ i) i).record (gq (stQ (usA a) rcF ⟨s,f.names⟩ i) i).at_)) (us:=(gl a.next (gq (stQ (usA a) rcF ⟨s,f.names⟩ i) i).at_.toNat)) (ps:=(stQ (usA a) rcF ⟨s,f.names⟩ i)) (k:=(gl a.next (gq (stQ (usA a) rcF ⟨s,f.names⟩ i) i).at_.toNat).length) (Nat.le_refl _)
     refine zL fun K hK=> ?_
     refine zM zO zN [] rfl ?_
     all_goals push_cast [↓zK,↓zJ]
     all_goals repeat'(first|(apply zP<;>(intro hg;(try simp only [push_cast]at hg)))|apply And.intro|(intro hg;(try simp only [push_cast]at hg)))
     all_goals first|exact gA|(exact zb (by omega))|skip
     all_goals(refine hK _ ?_;clear hK K)
     refine zT rfl (fun hc=> ?_) (fun hc=> ?_)<;>(try simp only [push_cast]at hc)
     ·
      refine zL fun K hK=> ?_
      refine zM zO zN [] rfl ?_
      all_goals push_cast [↓zK,↓zJ]
      all_goals repeat'(first|(apply zP<;>(intro hg;(try simp only [push_cast]at hg)))|apply And.intro|(intro hg;(try simp only [push_cast]at hg)))
      all_goals first|exact gA|(exact zb (by omega))|skip
      all_goals(refine hK _ ?_;clear hK K)
      refine zW ?_
      refine⟨Or.inl rfl,?_⟩
      push_cast [yB,yZ,↓zK,↓zJ]
      refine⟨_,?_,hKA (zEw hi (by rw [Vt (by omega)];show 256<(zp (zt (gq (stQ (usA a) rcF ⟨s,f.names⟩ i) i).record (gq (stQ (usA a) rcF ⟨s,f.names⟩ i) i).at_) (gl a.next (gq (stQ (usA a) rcF ⟨s,f.names⟩ i) i).at_.toNat) (stQ (usA a) rcF ⟨s,f.names⟩ i) (gl a.next (gq (stQ (usA a) rcF ⟨s,f.names⟩ i) i).at_.toNat).length).1.length;omega))⟩
      push_cast [↓zK,↓zJ]
      all_goals first|exact⟨trivial,trivial⟩|skip
     ·
      refine zU ?_
      refine hK8 _ ?_
      have hSo:FnG Tryz.prog tyT 118 [.c (DI (List.take (gl a.next (gq (stQ (usA a) rcF ⟨s,f.names⟩ i) i).at_.toNat).length (zp (zt (gq (stQ (usA a) rcF ⟨s,f.names⟩ i) i).record (gq (stQ (usA a) rcF ⟨s,f.names⟩ i) i).at_) (gl a.next (gq (stQ (usA a) rcF ⟨s,f.names⟩ i) i).at_.toNat) (stQ (usA a) rcF ⟨s,f.names⟩ i) (gl a.next (gq (stQ (usA a) rcF ⟨s,f.names⟩ i) i).at_.toNat).length).2))] [0] [(0,2,dI (zy (zp (zt (gq (stQ (usA a) rcF ⟨s,f.names⟩ i) i).record (gq (stQ (usA a) rcF ⟨s,f.names⟩ i) i).at_) (gl a.next (gq (stQ (usA a) rcF ⟨s,f.names⟩ i) i).at_.toNat) (stQ (usA a) rcF ⟨s,f.names⟩ i) (gl a.next (gq (stQ (usA a) rcF ⟨s,f.names⟩ i) i).at_.toNat).length).2))] []:=by rw [List.take_of_length_le (l:=(zp (zt (gq (stQ (usA a) rcF ⟨s,f.names⟩ i) i).record (gq (stQ (usA a) rcF ⟨s,f.names⟩ i) i).at_) (gl a.next (gq (stQ (usA a) rcF ⟨s,f.names⟩ i) i).at_.toNat) (stQ (usA a) rcF ⟨s,f.names⟩ i) (gl a.next (gq (stQ (usA a) rcF ⟨s,f.names⟩ i) i).at_.toNat).length).2) (by omega)];exact zCJ _ (by omega)
      refine zL fun K hK=> ?_
      refine zAK 74 [0] [(0,2,dI (zy (zp (zt (gq (stQ (usA a) rcF ⟨s,f.names⟩ i) i).record (gq (stQ (usA a) rcF ⟨s,f.names⟩ i) i).at_) (gl a.next (gq (stQ (usA a) rcF ⟨s,f.names⟩ i) i).at_.toNat) (stQ (usA a) rcF ⟨s,f.names⟩ i) (gl a.next (gq (stQ (usA a) rcF ⟨s,f.names⟩ i) i).at_.toNat).length).2))] zO zN [] rfl ?_
      push_cast [↓zK,↓zJ]
      all_goals repeat'(first|(apply zP<;>(intro hg;(try simp only [push_cast]at hg)))|(refine⟨_,hSo,?_⟩;push_cast [↓zK,↓zJ])|apply And.intro|(intro hg;(try simp only [push_cast]at hg)))
      all_goals first|exact gA|(exact zb (by omega))|skip
      all_goals(refine hK _ ?_;clear hK K)
      have hPv:FnX Tryz.prog tyT 113 [.v (.agg [.int .i64 (gq (stQ (usA a) rcF ⟨s,f.names⟩ i) i).at_,DI (List.take (gq (stQ (usA a) rcF ⟨s,f.names⟩ i) i).record.length (gq (zp (zt (gq (stQ (usA a) rcF ⟨s,f.names⟩ i) i).record (gq (stQ (usA a) rcF ⟨s,f.names⟩ i) i).at_) (gl a.next (gq (stQ (usA a) rcF ⟨s,f.names⟩ i) i).at_.toNat) (stQ (usA a) rcF ⟨s,f.names⟩ i) (gl a.next (gq (stQ (usA a) rcF ⟨s,f.names⟩ i) i).at_.toNat).length).1 i).record)]), .ref (.lst 2 [DI f.names,DII f.sets])] [.c (.int .i64 (yl f (gq (stQ (usA a) rcF ⟨s,f.names⟩ i) i).record (gq (stQ (usA a) rcF ⟨s,f.names⟩ i) i).at_))]:=by rw [hgi,List.take_length];exact jx f hf (gq (stQ (usA a) rcF ⟨s,f.names⟩ i) i) (by omega) hP.2.2
      have hsl9:=xT (zp (zt (gq (stQ (usA a) rcF ⟨s,f.names⟩ i) i).record (gq (stQ (usA a) rcF ⟨s,f.names⟩ i) i).at_) (gl a.next (gq (stQ (usA a) rcF ⟨s,f.names⟩ i) i).at_.toNat) (stQ (usA a) rcF ⟨s,f.names⟩ i) (gl a.next (gq (stQ (usA a) rcF ⟨s,f.names⟩ i) i).at_.toNat).length).2
      have hWV:FnG Tryz.prog tyT 157 [.agg [DI (List.take i (qE a rcF ⟨s,f.names⟩ i)),DII (List.take i (nxG a rcF ⟨s,f.names⟩ i)),DI (List.take i (prG a rcF (prF f) ⟨s,f.names⟩ i))], .c (.int .i64 (gi a.owner (gq (stQ (usA a) rcF ⟨s,f.names⟩ i) i).at_.toNat)), .c (.int .i64 (yl f (gq (stQ (usA a) rcF ⟨s,f.names⟩ i) i).record (gq (stQ (usA a) rcF ⟨s,f.names⟩ i) i).at_)), .c (DI (List.take (gl a.next (gq (stQ (usA a) rcF ⟨s,f.names⟩ i) i).at_.toNat).length (zy (zp (zt (gq (stQ (usA a) rcF ⟨s,f.names⟩ i) i).record (gq (stQ (usA a) rcF ⟨s,f.names⟩ i) i).at_) (gl a.next (gq (stQ (usA a) rcF ⟨s,f.names⟩ i) i).at_.toNat) (stQ (usA a) rcF ⟨s,f.names⟩ i) (gl a.next (gq (stQ (usA a) rcF ⟨s,f.names⟩ i) i).at_.toNat).length).2)))] [0,1,2,48] [] [.agg [DI (qE a rcF ⟨s,f.names⟩ i++ [gi a.owner (gq (stQ (usA a) rcF ⟨s,f.names⟩ i) i).at_.toNat]),DII (nxG a rcF ⟨s,f.names⟩ i++ [zy (zp (zt (gq (stQ (usA a) rcF ⟨s,f.names⟩ i) i).record (gq (stQ (usA a) rcF ⟨s,f.names⟩ i) i).at_) (gl a.next (gq (stQ (usA a) rcF ⟨s,f.names⟩ i) i).at_.toNat) (stQ (usA a) rcF ⟨s,f.names⟩ i) (gl a.next (gq (stQ (usA a) rcF ⟨s,f.names⟩ i) i).at_.toNat).length).2]),DI (prG a rcF (prF f) ⟨s,f.names⟩ i++ [yl f (gq (stQ (usA a) rcF ⟨s,f.names⟩ i) i).record (gq (stQ (usA a) rcF ⟨s,f.names⟩ i) i).at_])]]:=by rw [List.take_of_length_le (l:=qE a rcF ⟨s,f.names⟩ i) (by omega),List.take_of_length_le (l:=nxG a rcF ⟨s,f.names⟩ i) (by omega),List.take_of_length_le (l:=prG a rcF (prF f) ⟨s,f.names⟩ i) (by omega),List.take_of_length_le (l:=zy (zp (zt (gq (stQ (usA a) rcF ⟨s,f.names⟩ i) i).record (gq (stQ (usA a) rcF ⟨s,f.names⟩ i) i).at_) (gl a.next (gq (stQ (usA a) rcF ⟨s,f.names⟩ i) i).at_.toNat) (stQ (usA a) rcF ⟨s,f.names⟩ i) (gl a.next (gq (stQ (usA a) rcF ⟨s,f.names⟩ i) i).at_.toNat).length).2) (by omega)];exact UL (gmA a rcF (prF f) ⟨s,f.names⟩ i) ⟨⟨by show(qE _ _ _ i).length≤_;omega,⟨by show(nxG _ _ _ i).length≤_;omega,fun r hr=>by have :=zH1 h1 h3 (n:=i) (zGd hil) r hr;omega⟩⟩,by show(prG _ _ _ _ i).length≤_;omega⟩ (gi a.owner (gq (stQ (usA a) rcF ⟨s,f.names⟩ i) i).at_.toNat) (yl f (gq (stQ (usA a) rcF ⟨s,f.names⟩ i) i).record (gq (stQ (usA a) rcF ⟨s,f.names⟩ i) i).at_) (zy (zp (zt (gq (stQ (usA a) rcF ⟨s,f.names⟩ i) i).record (gq (stQ (usA a) rcF ⟨s,f.names⟩ i) i).at_) (gl a.next (gq (stQ (usA a) rcF ⟨s,f.names⟩ i) i).at_.toNat) (stQ (usA a) rcF ⟨s,f.names⟩ i) (gl a.next (gq (stQ (usA a) rcF ⟨s,f.names⟩ i) i).at_.toNat).length).2) (by omega)
      refine Jj false false 11 (jE Tryz.prog tyT 2) [84] (fun _ _ _ h=>uJ rfl h) (QZ Tryz.prog tyT [0,1,2,48] []) (fun _ _ _ _ _ _ _ _ _ h1 h2 h3 h4=>Vy h1 h2 h3 h4) zO zN xj ?_ rfl rfl ?_
      ·kernel_rfl
      intro E hE
      all_goals push_cast [↓zK,↓zJ]
      all_goals repeat'(first|(apply zP<;>(intro hg;(try simp only [push_cast]at hg)))|(refine⟨_,_,hPv,?_⟩;(try push_cast [↓zK,↓zJ]))|(refine⟨_,hWV,?_⟩;push_cast [↓zK,↓zJ])|apply And.intro|(intro hg;(try simp only [push_cast]at hg)))
      all_goals first|exact gA|(refine hE _ _ ?_ rfl ?_;kernel_rfl)|(exact zb (by omega))|skip
      all_goals clear hE E
      all_goals push_cast [↓zK,↓zJ]
      all_goals repeat'(first|(apply zP<;>(intro hg;(try simp only [push_cast]at hg)))|(refine⟨_,_,hPv,?_⟩;(try push_cast [↓zK,↓zJ]))|(refine⟨_,hWV,?_⟩;push_cast [↓zK,↓zJ])|apply And.intro|(intro hg;(try simp only [push_cast]at hg)))
      all_goals first|exact gA|(exact zb (by omega))|skip
      all_goals first|(refine hg _ _ ?_ ?_;kernel_rfl)|skip
      refine hK3 _ ?_
      refine Jl [.sl 2, .sl 22, .sl 2] 12 ?_
      push_cast [↓zK,↓zJ]
      refine zM zO zN [] rfl ?_
      all_goals push_cast [↓zK,↓zJ]
      all_goals repeat'(first|(apply zP<;>(intro hg;(try simp only [push_cast]at hg)))|apply And.intro|(intro hg;(try simp only [push_cast]at hg)))
      all_goals first|exact gA|(exact zb (by omega))|skip
      have hst:(stQ (usA a) rcF ⟨s,f.names⟩ (i+1))=(zp (zt (gq (stQ (usA a) rcF ⟨s,f.names⟩ i) i).record (gq (stQ (usA a) rcF ⟨s,f.names⟩ i) i).at_) (gl a.next (gq (stQ (usA a) rcF ⟨s,f.names⟩ i) i).at_.toNat) (stQ (usA a) rcF ⟨s,f.names⟩ i) (gl a.next (gq (stQ (usA a) rcF ⟨s,f.names⟩ i) i).at_.toNat).length).1:=Vt (by omega)
      refine hL0 _ ⟨i+1,⟨by omega,(by rw [hst];omega),(by rw [hst];omega)⟩,by omega,?_⟩
      (try rw [List.take_of_length_le (l:=qE a rcF ⟨s,f.names⟩ i) (by omega)])
      (try rw [List.take_of_length_le (l:=nxG a rcF ⟨s,f.names⟩ i) (by omega)])
      (try rw [List.take_of_length_le (l:=prG a rcF (prF f) ⟨s,f.names⟩ i) (by omega)])
      rw [hst,zE0,zG0,zG3,show plQ (usA a) rcF ⟨s,f.names⟩ i=(gq (stQ (usA a) rcF ⟨s,f.names⟩ i) i)from rfl,show nxQ (usA a) rcF ⟨s,f.names⟩ i=zy (zp (zt (gq (stQ (usA a) rcF ⟨s,f.names⟩ i) i).record (gq (stQ (usA a) rcF ⟨s,f.names⟩ i) i).at_) (gl a.next (gq (stQ (usA a) rcF ⟨s,f.names⟩ i) i).at_.toNat) (stQ (usA a) rcF ⟨s,f.names⟩ i) (gl a.next (gq (stQ (usA a) rcF ⟨s,f.names⟩ i) i).at_.toNat).length).2 from rfl,show(prF f) (gq (stQ (usA a) rcF ⟨s,f.names⟩ i) i)=yl f (gq (stQ (usA a) rcF ⟨s,f.names⟩ i) i).record (gq (stQ (usA a) rcF ⟨s,f.names⟩ i) i).at_ from rfl]
      refine zX rfl ?_ ?_ ?_<;>push_cast [zg,zf,↓zK,↓zJ]
      all_goals first|rfl|exact⟨rfl,rfl,rfl,rfl⟩|(rw [List.length_append,List.length_append,List.length_append,ho1,ho2,ho3];rfl)|skip
  ·
   refine zi ?_
   refine hK1 _ ?_
   refine zL fun K hK=> ?_
   refine zM zO zN [] rfl ?_
   all_goals push_cast [↓zK,↓zJ]
   all_goals repeat'(first|(apply zP<;>(intro hg;(try simp only [push_cast]at hg)))|apply And.intro|(intro hg;(try simp only [push_cast]at hg)))
   all_goals first|exact gA|(exact zb (by omega))|skip
   all_goals(refine hK _ ?_;clear hK K)
   refine zW ?_
   refine⟨Or.inl rfl,?_⟩
   push_cast [yB,yZ,↓zK,↓zJ]
   refine⟨_,?_,hKB i hi (by omega) hil⟩
   push_cast [↓zK,↓zJ]
   all_goals first|exact⟨trivial,trivial⟩|skip
attribute [local irreducible] okQ stQ gmR plR
set_option maxRecDepth 20000 in
set_option maxHeartbeats 8000000 in
theorem jy (a:Ar)(ha:a.Ln 1048576)(f:Fm)(hf:f.Ln 1048576)(s:Int):Fn Tryz.prog tyT 53 [.agg (dAr a), .agg (dFm f), .c (.int .i64 s)] [.agg (dPa (fgG a f s)), .c (.lst 112 (yw (fgP a f s))), .c (.bool (fgB a f s))]:=by
 have hno:=ha.owner
 have hnn:=ha.next.1
 unfold LnI at hno
 have hA:=zBd a ha
 have hF:=zBq f hf (a.owner.length:Int)
 have hSz:=km a
 have hV:=zAq a s
 have hfn:=hf.names
 unfold LnI at hfn
 unfold dAr at hA hSz hV
 unfold dFm at hF
 unfold dAr dFm dPa
 refine Kv (fn:=Tryz.f53) (rs:= [.cell 6 80, .tmp 7, .tmp 8]) zO zN Tryz.func53 (by kernel_rfl) rfl rfl (by rw [Tryz.ntmps53];exact Nat.le_of_ble_eq_true rfl) rfl (by simp only [szA,List.mem_cons,List.not_mem_nil,or_false,forall_eq_or_imp,forall_eq,VT.cells,szL];try decide) ?_
 rw [Tryz.ntmps53]
 push_cast [↓zK,↓zJ]
 refine zL fun K hK=> ?_
 refine zM zO zN [] rfl ?_
 push_cast [↓zK,↓zJ]
 repeat' apply And.intro
 all_goals try exact gB
 all_goals(refine hK _ ?_;clear hK K)
 refine zL fun K1 hK1=> ?_
 refine zL fun K hK=> ?_
 refine yo false zO zN xj ?_ rfl ?_
 ·kernel_rfl
 intro E hE
 all_goals refine xR 2 (by decide) fun K9 hK9=> ?_
 all_goals push_cast [↓zK,↓zJ]
 all_goals repeat'(first|(apply zP<;>(intro hg;(try simp only [push_cast]at hg)))|(refine⟨_,hA,?_⟩;push_cast [↓zK,↓zJ])|apply And.intro|(intro hg;(try simp only [push_cast]at hg)))
 all_goals try exact gA
 all_goals(refine hK9 _ _ ?_;clear hK9 K9)
 all_goals refine xR 5 (by decide) fun K9 hK9=> ?_
 all_goals push_cast [↓zK,↓zJ]
 all_goals repeat'(first|(apply zP<;>(intro hg;(try simp only [push_cast]at hg)))|(refine⟨_,hSz,?_⟩;push_cast [↓zK,↓zJ])|apply And.intro|(intro hg;(try simp only [push_cast]at hg)))
 all_goals try exact gA
 all_goals(refine hK9 _ _ ?_;clear hK9 K9)
 all_goals refine xR 1 (by decide) fun K9 hK9=> ?_
 all_goals push_cast [↓zK,↓zJ]
 all_goals repeat'(first|(apply zP<;>(intro hg;(try simp only [push_cast]at hg)))|(refine⟨_,hF,?_⟩;push_cast [↓zK,↓zJ])|apply And.intro|(intro hg;(try simp only [push_cast]at hg)))
 all_goals try exact gA
 all_goals(refine hK9 _ _ ?_;clear hK9 K9)
 all_goals refine xR 6 (by decide) fun K9 hK9=> ?_
 all_goals push_cast [↓zK,↓zJ]
 all_goals repeat'(first|(apply zP<;>(intro hg;(try simp only [push_cast]at hg)))|(refine⟨_,hV,?_⟩;push_cast [↓zK,↓zJ])|apply And.intro|(intro hg;(try simp only [push_cast]at hg)))
 all_goals try exact gA
 all_goals(refine hK9 _ _ ?_;clear hK9 K9)
 all_goals push_cast [↓zK,↓zJ]
 all_goals repeat'(first|(apply zP<;>(intro hg;(try simp only [push_cast]at hg)))|(refine⟨_,hA,?_⟩;push_cast [↓zK,↓zJ])|(refine⟨_,hSz,?_⟩;push_cast [↓zK,↓zJ])|(refine⟨_,hF,?_⟩;push_cast [↓zK,↓zJ])|(refine⟨_,hV,?_⟩;push_cast [↓zK,↓zJ])|apply And.intro|(intro hg;(try simp only [push_cast]at hg)))
 all_goals first|exact gA|(refine hE _ _ ?_ ?_;kernel_rfl)|skip
 all_goals clear hE E
 all_goals(refine hK _ ?_;clear hK K)
 all_goals refine zT rfl (fun hc=> ?_) (fun hc=> ?_)
 all_goals(first|(cases hc;done)|skip)
 all_goals(try simp only [push_cast]at hc)
 all_goals try(
   refine zL fun K hK=> ?_
   refine zM zO zN [] rfl ?_
   push_cast [↓zK,↓zJ]
   repeat' apply And.intro
   all_goals try exact gB
   all_goals(refine hK _ ?_;clear hK K)
   refine zW ?_
   refine⟨Or.inl rfl,?_⟩
   push_cast [za,yB,yZ,↓zK,↓zJ]
   obtain⟨e1,e2,e3⟩:=zEQ (a:=a) (f:=f) (s:=s) (by first|exact zCV (by with_reducible assumption)|exact zCW (by have hln9:=yr (a:=a) (by with_reducible assumption);rw [Zw (by omega)];with_reducible assumption)|exact zCX (by omega))
   rw [e1,e2,e3]
   all_goals first|rfl|exact⟨rfl,rfl⟩|(simp [dI,dII,yw];done)
   done)
 refine zU ?_
 refine hK1 _ ?_
 have hC:fgC a f s=true:=zCY (by with_reducible assumption) (by have hln9:=yr (a:=a) (by with_reducible assumption);rw [Zw (by omega)];with_reducible assumption) (by omega)
 obtain⟨h1,h2,h3⟩:=wG hC
 have hln:=yr h1
 refine zL fun K hK=> ?_
 refine Jj false false 9 (jE Tryz.prog tyT 2) [33,34] (fun _ _ _ h=>uJ rfl h) (WH Tryz.prog tyT 6) (fun _ _ _ _ _ _ _ _ _ h1 h2 h3 h4=>Uz zO zN h1 h2 h3 h4) zO zN xj ?_ rfl rfl ?_
 ·kernel_rfl
 intro E hE
 all_goals push_cast [↓zK,↓zJ]
 all_goals repeat'(first|(apply zP<;>(intro hg;(try simp only [push_cast]at hg)))|apply And.intro|(intro hg;(try simp only [push_cast]at hg)))
 all_goals first|exact gA|(refine hE _ _ ?_ rfl ?_;kernel_rfl)|skip
 all_goals clear hE E
 refine zD3 (fn:=Tryz.f110) (rs:= [.cell 8 80, .tmp 9, .tmp 10]) rfl rfl (by decide) rfl Tryz.func110 (by kernel_rfl) rfl rfl (by rw [Tryz.ntmps110];exact Nat.le_of_ble_eq_true rfl) ?_
 rw [Tryz.ntmps110]
 push_cast [↓zK,↓zJ]
 refine zCN ?_ (ki a ha f hf s ⟨h1,h3⟩ _ (fun hok9=> ?_) (fun i hi9 hn9 hil9=> ?_))
 ·refine zX rfl ?_ ?_ ?_<;>push_cast [zg,zf,↓zK,↓zJ]
 all_goals intro E hg
 all_goals(try push_cast [↓zK,↓zJ])
 all_goals repeat'(first|(apply zP<;>(intro hg;(try simp only [push_cast]at hg)))|apply And.intro|(intro hg;(try simp only [push_cast]at hg)))
 all_goals try exact gA
 all_goals first|(refine hg _ _ ?_ ?_;kernel_rfl)|skip
 all_goals first|(refine hK _ ?_;clear hg E hK K)|(refine hK _ ?_)|(simp only [push_cast];done)
 all_goals(
   refine zW ?_
   refine⟨Or.inl rfl,?_⟩
   push_cast [za,yB,yZ,↓zK,↓zJ]
   first
    |(
     obtain⟨e1,e2,e3⟩:=zER (a:=a) (f:=f) (s:=s) hok9
     rw [e1,e2,e3]
     all_goals first|rfl|exact⟨rfl,rfl⟩|(simp [dI,dII,yw];done))
    |(
     obtain⟨e1,e2,e3⟩:=zCc (a:=a) (rc:=rcF) (pr:=prF f) (p0:=⟨s,f.names⟩) (i:=i) hC hi9 hn9 hil9
     unfold fgG fgP fgB
     rw [e1,e2,e3]
     simp only [gmA,vO,Qq,XD]
     all_goals first|rfl|exact⟨⟨⟨rfl,rfl⟩,⟨rfl,rfl⟩,⟨rfl,rfl⟩⟩,rfl,rfl⟩|exact⟨rfl,rfl⟩|(simp;done)))
end Go.Proofs.YthepmdkpbjfdcaaGreat
