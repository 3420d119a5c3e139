/- What is left of a memory plays as before; plain. -/
import Derived.Test.YtggpbepdeilpgaaB15zmt
import Derived.Test.YtggpbepdeilpgaaB14zmt
import Derived.Test.YtggpbepdeilpgaaB13zmt
import Derived.Test.YtggpbepdeilpgaaB9zmt
import Derived.Test.YtggpbepdeilpgaaB8zmt
import Derived.Test.YtggpbepdeilpgaaB11zmt
import Derived.Test.YtggpbepdeilpgaaB10zmt
namespace Go.Proofs.Ytggpbepdeilpgaa
open Go.RowKit
set_option linter.unusedVariables false
set_option linter.unusedSimpArgs false
theorem zI6 {ps qs:List Plc}{i:Nat}(h:i<ps.length):gq (ps++qs) i=gq ps i:=by
 unfold gq
 rw [List.getD_eq_getElem?_getD,List.getElem?_append_left h,List.getD_eq_getElem?_getD]
theorem zBJ {r us:List Int}{ps:List Plc}{i:Nat}(hi:i<ps.length): ∀{k:Nat},k≤us.length→gq (zt r us ps k).1 i=gq ps i
 |0,_=>rfl
 |k+1,h=>by
  have h1:=zBJ (r:=r) (us:=us) hi (k:=k) (by omega)
  have h3:=(wH (r:=r) (us:=us) (ps:=ps) (k:=k) (by omega)).2.1
  by_cases h2:ixQ (yc (gi us k) r) (zt r us ps k).1<0
  ·rw [vD (by omega) h2]
   show gq ((zt r us ps k).1++ [_]) i=_
   rw [zI6 (by omega)];exact h1
  ·rw [vE (by omega) h2];exact h1
theorem uv {r us:List Int}{ps:List Plc}: ∀{k:Nat},k≤us.length→∀p∈ps,p∈(zt r us ps k).1
 |0,_,p,hp=>hp
 |k+1,hk,p,hp=>by
  have ih:=uv (r:=r) (us:=us) (k:=k) (by omega) p hp
  by_cases h2:ixQ (yc (gi us k) r) (zt r us ps k).1<0
  ·rw [vD (by omega) h2];exact List.mem_append_left _ ih
  ·rw [vE (by omega) h2];exact ih
section
variable {us rc:Plc→List Int} {p0:Plc}
theorem zBZ {i:Nat}: ∀d,∀p∈stQ us rc p0 i,p∈stQ us rc p0 (i+d)
 |0,p,h=>h
 |d+1,p,h=>by
  have ih:=zBZ d p h
  by_cases h3:i+d<(stQ us rc p0 (i+d)).length
  ·rw [show i+(d+1)=i+d+1 from rfl,JX h3]
   exact uv (Nat.le_refl _) p ih
  ·rw [show i+(d+1)=i+d+1 from rfl,YA h3];exact ih
theorem JV {i:Nat}{k:Nat}(hk:k<(stQ us rc p0 i).length): ∀d,gq (stQ us rc p0 (i+d)) k=gq (stQ us rc p0 i) k
 |0=>rfl
 |d+1=>by
  have ih:=JV hk d
  have hm:=zBY (us:=us) (rc:=rc) (p0:=p0) (i:=i) (j:=i+d) (by omega)
  by_cases h:i+d<(stQ us rc p0 (i+d)).length
  ·rw [show i+(d+1)=i+d+1 from rfl,JX h]
   rw [show rowQ us rc p0 (i+d) (us (plQ us rc p0 (i+d))).length=zt (rc (gq (stQ us rc p0 (i+d)) (i+d))) (us (gq (stQ us rc p0 (i+d)) (i+d))) (stQ us rc p0 (i+d)) (us (gq (stQ us rc p0 (i+d)) (i+d))).length from rfl]
   rw [zBJ (by omega) (Nat.le_refl _)]
   exact ih
  ·rw [show i+(d+1)=i+d+1 from rfl,YA h]
   exact ih
end
section
variable {O:List Int} {n:Nat} {ps:List Plc} {X:Plc→Int} {N:Nat→List (List Int)}
theorem zFv {p q:Plc}(h1:p.at_=q.at_)(h2:p.record=q.record):p=q:=by
 obtain⟨x,y⟩:=p
 obtain⟨x2,y2⟩:=q
 simp only at h1 h2
 rw [h1,h2]
end
section
variable {a:Ar} {m:Me} {s:Int}
theorem zH2 (h:MmI a m s){i:Nat}(hi:i<(stM a m s 6145).length):i<(stM a m s i).length∧gq (stM a m s i) i=gq (stM a m s 6145) i:=by
 have h1:=jA h 6145
 have h2:i<(stM a m s i).length:=by
  refine Classical.byContradiction fun h3=> ?_
  rw [zDu h (by omega) h3]at hi
  exact h3 hi
 have h4:=JV h2 (6145 - i)
 rw [show i+(6145 - i)=6145 by omega]at h4
 exact⟨h2,h4.symm⟩
theorem sub_M {i j:Nat}(hij:i≤j): ∀p∈stM a m s i,p∈stM a m s j:=fun p hp=>by
 have :=zBZ (j - i) p hp
 rwa [show i+(j - i)=j by omega]at this
theorem zIL (a:Ar)(m:Me)(s:Int):stM a m s 0= [⟨s,[0]⟩]:=rfl
theorem zLC (i:Nat):(stM a m s i).Nodup:=JW i
attribute [local irreducible] stM
theorem zCj (h:MmI a m s):(⟨s,[0]⟩:Plc)∈stM a m s 6145:=sub_M (i:=0) (by omega) _ (by rw [zIL];exact List.mem_cons_self)
theorem zIC (h:MmI a m s):1≤(stM a m s 6145).length:=by
 have :=List.length_pos_of_mem (zCj h)
 omega
theorem zGv (h:MmI a m s):gq (stM a m s 6145) 0=⟨s,[0]⟩:=by
 have h1:=zIC h
 rw [←(zH2 h (i:=0) (by omega)).2,zIL]
 rfl
end
open Nat renaming reduceMod → zA, reduceMul → zB, reduceDiv → zC, reduceAdd → zD, reduceSub → zE, reduceEqDiff → zF, reduceBEq → zG, reduceLT → zH, reduceLeDiff → zI
def opW (g:List Int)(P:List Plc)(k:Nat):List Bool:=mkB P.length (fun x=> !zn g (gq P x).at_) k
theorem kf {g:List Int}{P:List Plc}{k:Nat}(h:k≤P.length):(opW g P k).length=P.length:=zC5 h
theorem zKv {g:List Int}{P:List Plc}{x:Nat}(h:x<P.length):gb (opW g P P.length) x= !zn g (gq P x).at_:=by
 unfold opW
 rw [zIF]
 exact YR h
def Xv (X:List (List Int))(P:List Plc)(p:Pr)(x:Nat):Prop:=x<P.length∧zn p.ask (gq P x).at_=true∧ZM X (opW p.give P P.length) x
noncomputable def mwB (a:Ar)(ps:List Pr)(m:Me)(s:Int):Bool:= @decide (mmB a m s=true∧vR ps a.owner.length=true∧(∀x,x<(stM a m s 6145).length→¬(gl (rsM a m s (stM a m s 6145).length) x).length=0)∧∀i,i<ps.length→∀x,¬Xv (rsM a m s (stM a m s 6145).length) (stM a m s 6145) (gp ps i) x) (Classical.propDecidable _)
section
variable {a:Ar} {ps:List Pr} {m:Me} {s:Int}
theorem zA7 :mwB a ps m s=true↔(mmB a m s=true∧vR ps a.owner.length=true∧(∀x,x<(stM a m s 6145).length→¬(gl (rsM a m s (stM a m s 6145).length) x).length=0)∧∀i,i<ps.length→∀x,¬Xv (rsM a m s (stM a m s 6145).length) (stM a m s 6145) (gp ps i) x):=by
 unfold mwB
 exact @decide_eq_true_iff _ (Classical.propDecidable _)
theorem jM (h: ¬(mmB a m s=true∧vR ps a.owner.length=true∧(∀x,x<(stM a m s 6145).length→¬(gl (rsM a m s (stM a m s 6145).length) x).length=0)∧∀i,i<ps.length→∀x,¬Xv (rsM a m s (stM a m s 6145).length) (stM a m s 6145) (gp ps i) x)):mwB a ps m s=false:=by
 cases hb:mwB a ps m s with
 |false=>rfl
 |true=>exact absurd (zA7.1 hb) h
theorem zA8 (h:mmB a m s=false):mwB a ps m s=false:=jM fun h9=>by rw [h]at h9;cases h9.1
theorem zKo (h:vR ps a.owner.length=false):mwB a ps m s=false:=jM fun h9=>by rw [h]at h9;cases h9.2.1
theorem zJM (h:arB ps a.owner.length=false):mwB a ps m s=false:=zKo (Vf h)
theorem zKp {x:Nat}(hx:x<(stM a m s 6145).length)(h:(gl (rsM a m s (stM a m s 6145).length) x).length=0):mwB a ps m s=false:=jM fun h9=>h9.2.2.1 x hx h
theorem zKq {i x:Nat}(hi:i<ps.length)(h:Xv (rsM a m s (stM a m s 6145).length) (stM a m s 6145) (gp ps i) x):mwB a ps m s=false:=jM fun h9=>h9.2.2.2 i hi x h
theorem zIe (h:zu a=true)(h2:arB ps a.owner.length=true):vR ps a.owner.length=true:=by
 have :=zl h
 rw [KR (by omega)]
 exact h2
theorem zH7 {n x:Nat}(hx:x<n):gl (rsM a m s n) x=rwM a m s x:=by
 unfold gl rsM
 rw [List.getD_eq_getElem?_getD,List.getElem?_map,List.getElem?_range hx]
 rfl
theorem je (h:MmI a m s){x:Nat}(hx:x<(stM a m s 6145).length):(gl (rsM a m s (stM a m s 6145).length) x).length=(usM a m (gq (stM a m s 6145) x)).length∧∀u∈gl (rsM a m s (stM a m s 6145).length) x,0≤u∧u<((stM a m s 6145).length:Nat):=by
 have hf:=jA h 6145
 have hx2:x<(stM a m s x).length:=by
  rcases Nat.lt_or_ge x (stM a m s x).length with h1|h1
  ·exact h1
  ·have :=zDu (a:=a) (m:=m) (s:=s) h (i:=x) (by omega) (by omega)
   rw [this]at hx
   omega
 have hq:gq (stM a m s 6145) x=gq (stM a m s x) x:=by
  have :=JV (us:=usM a m) (rc:=rcM m) (p0:=⟨s,[0]⟩) (i:=x) hx2 (6145 - x)
  rw [show x+(6145 - x)=6145 by omega]at this
  exact this
 rw [zH7 hx,hq]
 unfold rwM
 have hl:=(wH (r:=rcM m (gq (stM a m s x) x)) (us:=usM a m (gq (stM a m s x) x)) (ps:=stM a m s x) (k:=(usM a m (gq (stM a m s x) x)).length) (Nat.le_refl _)).1
 refine⟨hl,fun u hu=> ?_⟩
 obtain⟨j,hj,e⟩:=List.getElem_of_mem hu
 have h9:=(zBL (r:=rcM m (gq (stM a m s x) x)) (us:=usM a m (gq (stM a m s x) x)) (ps:=stM a m s x) (k:=(usM a m (gq (stM a m s x) x)).length) (Nat.le_refl _) j (by omega)).1
 rw [JI hj,e]at h9
 have h8:=zBY (us:=usM a m) (rc:=rcM m) (p0:=⟨s,[0]⟩) (i:=x+1) (j:=6145) (by omega)
 have h7:=jg (a:=a) (m:=m) (s:=s) hx2
 unfold stM at h7 h8 h9⊢
 rw [h7]at h8
 omega
theorem zK4 (h:MmI a m s)(x:Nat):(gl (rsM a m s (stM a m s 6145).length) x).length≤16:=by
 rcases Nat.lt_or_ge x (stM a m s 6145).length with h1|h1
 ·rw [(je h h1).1]
  exact(Wn h (vJ h _ _ (xz h1))).1
 ·unfold gl
  rw [List.getD_eq_getElem?_getD,List.getElem?_eq_none (by rw [Yt];exact h1)]
  exact Nat.zero_le _
theorem gr_M (h:MmI a m s){win:List Bool}(hw:win.length=(stM a m s 6145).length):Gr (rsM a m s (stM a m s 6145).length).length (rsM a m s (stM a m s 6145).length) win:=by
 refine⟨rfl,by rw [Yt];exact hw,fun v u hu=> ?_⟩
 have hv:=JK hu
 rw [Yt]at hv⊢
 exact(je h hv).2 u hu
theorem zIH (h:MmI a m s){x:Nat}(hx:x<(stM a m s 6145).length)(h0:(gl (rsM a m s (stM a m s 6145).length) x).length=0):gi a.owner (gq (stM a m s 6145) x).at_.toNat=0:=by
 rw [(je h hx).1]at h0
 by_cases ho:gi a.owner (gq (stM a m s 6145) x).at_.toNat=0
 ·exact ho
 ·rw [Qs ho]at h0
  have hok:=vJ h _ _ (xz hx)
  have :=(xO h.ar (v:=(gq (stM a m s 6145) x).at_.toNat) (by have :=hok.1;have :=hok.2.1;omega)).2.2.1
  omega
end
theorem zGk {X:List (List Int)}{P:List Plc}{p:Pr}(hX:X.length=P.length)(hg:Gr X.length X (opW p.give P P.length)){q:List Int}{y:Int}(hq:q∈vG (Zw X (opW p.give P P.length)))(hy:y∈q)(ha:zn p.ask (gq P y.toNat).at_=true):Xv X P p y.toNat:=by
 obtain⟨h1,-⟩:=kY hg
 obtain⟨h2,h3,h4⟩:=h1 q ((Zi _).mem_iff.1 hq) y hy
 exact⟨by omega,ha,h4⟩
theorem zFO {X:List (List Int)}{P:List Plc}{p:Pr}(hg:Gr X.length X (opW p.give P P.length))(h: ∀q∈vG (Zw X (opW p.give P P.length)),∀y∈q,zn p.ask (gq P y.toNat).at_=false)(x:Nat): ¬Xv X P p x:=by
 rintro⟨-,h1,h2⟩
 obtain⟨-,h3,-⟩:=kY hg
 obtain⟨q,h4,h5⟩:=h3 x h2
 have :=h q ((Zi _).mem_iff.2 h4) _ h5
 rw [Int.toNat_natCast,h1]at this
 cases this
theorem zEH {X:List (List Int)}{win:List Bool}(hg:Gr X.length X win):(vG (Zw X win)).length≤X.length∧(∀q∈vG (Zw X win),q.length≤X.length)∧∀q∈vG (Zw X win),∀y∈q,0≤y∧y<(X.length:Nat):=by
 obtain⟨h1,-,h3,h4⟩:=kY hg
 refine⟨by rw [Xr];exact h3,fun q hq=>(h4 q ((Zi _).mem_iff.1 hq)).2,fun q hq y hy=> ?_⟩
 have :=h1 q ((Zi _).mem_iff.1 hq) y hy
 exact⟨this.1,this.2.1⟩
theorem glm {L:List (List Int)}{k:Nat}(h:k<L.length):gl L k∈L:=by
 unfold gl
 rw [List.getD_eq_getElem?_getD,List.getElem?_eq_getElem h]
 exact List.getElem_mem h
theorem zC4 {L:List (List Int)}{q:List Int}(h:q∈L): ∃k,k<L.length∧gl L k=q:=by
 obtain⟨k,hk,e⟩:=List.getElem_of_mem h
 refine⟨k,hk,?_⟩
 unfold gl
 rw [List.getD_eq_getElem?_getD,List.getElem?_eq_getElem hk]
 exact e
theorem Yp {q:List Int}{y:Int}(h:y∈q): ∃k,k<q.length∧gi q k=y:=by
 obtain⟨k,hk,e⟩:=List.getElem_of_mem h
 exact⟨k,hk,by rw [JI hk];exact e⟩
theorem WP {q:List Int}{k:Nat}(h:k<q.length):gi q k∈q:=by
 rw [JI h]
 exact List.getElem_mem h
set_option maxRecDepth 20000 in
set_option maxHeartbeats 8000000 in
theorem jp (a:Ar)(ha:a.Ln 1048576)(ps:List Pr)(hps:PLn 1048576 ps)(m:Me)(hm:m.Ln 1048576)(s:Int):Fn Try.prog tyT 12 [.agg (dAr a), .c (.lst 76 (dII (ilv ps))), .agg (dMe m), .c (.int .i64 s)] [.c (.bool (mwB a ps m s))]:=by
 have hno:=ha.owner
 unfold LnI at hno
 have hpl:=hps.1
 have hgp:=fun k=>jG hps k
 have hga: ∀k,(gp ps k).ask.length≤1048576:=fun k=>(hgp k).ask
 have hgg: ∀k,(gp ps k).give.length≤1048576:=fun k=>(hgp k).give
 have hli:=wT ps
 have hA:=Xt a ha
 have hM:=fun h=>Jk a ha h m hm
 have hV:=WQ a s
 have hS:=zDH a
 have hPr:=zBs ps hps a.owner.length
 have hW:=jL a ha m hm s
 unfold dAr at hA hM hV hS hW
 unfold dMe at hM hW
 unfold dAr dMe
 refine yK (fn:=Try.f12) (ts:= [8]) Try.func12 (by kernel_rfl) rfl rfl (by rw [Try.ntmps12];exact Nat.le_of_ble_eq_true rfl) rfl (by simp only [szA,List.mem_cons,List.not_mem_nil,or_false,forall_eq_or_imp,forall_eq,VT.cells,szL];try decide) ?_
 rw [Try.ntmps12]
 simp only [push_cast,↓zK,↓zJ,↓reduceIte,zA,zB,zC,zD,zE,zF,zG,zH,zI,reduceCtorEq]
 refine zL fun K hK=> ?_
 refine zM zQ zO [] rfl ?_
 all_goals simp only [push_cast,↓zK,↓zJ,↓reduceIte,zA,zB,zC,zD,zE,zF,zG,zH,zI,reduceCtorEq]
 all_goals repeat'(first|(apply zP<;>(intro hg;(try simp only [push_cast]at hg)))|apply And.intro|(intro hg;(try simp only [push_cast]at hg)))
 all_goals first|exact gA|(exact zW (by omega))|(exact zN (by simp only [push_cast];omega))|(exact zN (by omega))|skip
 all_goals first|(refine hK _ ?_;clear hK K)|(simp only [push_cast];done)
 refine zL fun K1 hK1=> ?_
 refine zL fun K hK=> ?_
 refine za false zQ zO ?_ rfl ?_
 ·kernel_rfl
 all_goals refine zo 2 fun K9 hK9=> ?_
 all_goals simp only [push_cast,↓zK,↓zJ,↓reduceIte,zA,zB,zC,zD,zE,zF,zG,zH,zI,reduceCtorEq]
 all_goals repeat'(first|(apply zP<;>(intro hg;(try simp only [push_cast]at hg)))|(refine⟨_,hA,?_⟩;simp only [push_cast,↓zK,↓zJ,↓reduceIte,zA,zB,zC,zD,zE,zF,zG,zH,zI,reduceCtorEq])|(refine⟨_,hM (zl (by with_reducible assumption)).2.2,?_⟩;simp only [push_cast,↓zK,↓zJ,↓reduceIte,zA,zB,zC,zD,zE,zF,zG,zH,zI,reduceCtorEq])|(refine⟨_,hS,?_⟩;simp only [push_cast,↓zK,↓zJ,↓reduceIte,zA,zB,zC,zD,zE,zF,zG,zH,zI,reduceCtorEq])|(refine⟨_,hPr,?_⟩;simp only [push_cast,↓zK,↓zJ,↓reduceIte,zA,zB,zC,zD,zE,zF,zG,zH,zI,reduceCtorEq])|(refine⟨_,hV,?_⟩;simp only [push_cast,↓zK,↓zJ,↓reduceIte,zA,zB,zC,zD,zE,zF,zG,zH,zI,reduceCtorEq])|apply And.intro|(intro hg;(try simp only [push_cast]at hg)))
 all_goals first|exact gA|(exact zW (by omega))|(exact zN (by simp only [push_cast];omega))|(exact zN (by omega))|skip
 all_goals first|(refine hK9 _ ?_;clear hK9 K9)|(simp only [push_cast];done)
 all_goals refine zo 5 fun K9 hK9=> ?_
 all_goals simp only [push_cast,↓zK,↓zJ,↓reduceIte,zA,zB,zC,zD,zE,zF,zG,zH,zI,reduceCtorEq]
 all_goals repeat'(first|(apply zP<;>(intro hg;(try simp only [push_cast]at hg)))|(refine⟨_,hA,?_⟩;simp only [push_cast,↓zK,↓zJ,↓reduceIte,zA,zB,zC,zD,zE,zF,zG,zH,zI,reduceCtorEq])|(refine⟨_,hM (zl (by with_reducible assumption)).2.2,?_⟩;simp only [push_cast,↓zK,↓zJ,↓reduceIte,zA,zB,zC,zD,zE,zF,zG,zH,zI,reduceCtorEq])|(refine⟨_,hS,?_⟩;simp only [push_cast,↓zK,↓zJ,↓reduceIte,zA,zB,zC,zD,zE,zF,zG,zH,zI,reduceCtorEq])|(refine⟨_,hPr,?_⟩;simp only [push_cast,↓zK,↓zJ,↓reduceIte,zA,zB,zC,zD,zE,zF,zG,zH,zI,reduceCtorEq])|(refine⟨_,hV,?_⟩;simp only [push_cast,↓zK,↓zJ,↓reduceIte,zA,zB,zC,zD,zE,zF,zG,zH,zI,reduceCtorEq])|apply And.intro|(intro hg;(try simp only [push_cast]at hg)))
 all_goals first|exact gA|(exact zW (by omega))|(exact zN (by simp only [push_cast];omega))|(exact zN (by omega))|skip
 all_goals first|(refine hK9 _ ?_;clear hK9 K9)|(simp only [push_cast];done)
 all_goals refine zo 6 fun K9 hK9=> ?_
 all_goals simp only [push_cast,↓zK,↓zJ,↓reduceIte,zA,zB,zC,zD,zE,zF,zG,zH,zI,reduceCtorEq]
 all_goals repeat'(first|(apply zP<;>(intro hg;(try simp only [push_cast]at hg)))|(refine⟨_,hA,?_⟩;simp only [push_cast,↓zK,↓zJ,↓reduceIte,zA,zB,zC,zD,zE,zF,zG,zH,zI,reduceCtorEq])|(refine⟨_,hM (zl (by with_reducible assumption)).2.2,?_⟩;simp only [push_cast,↓zK,↓zJ,↓reduceIte,zA,zB,zC,zD,zE,zF,zG,zH,zI,reduceCtorEq])|(refine⟨_,hS,?_⟩;simp only [push_cast,↓zK,↓zJ,↓reduceIte,zA,zB,zC,zD,zE,zF,zG,zH,zI,reduceCtorEq])|(refine⟨_,hPr,?_⟩;simp only [push_cast,↓zK,↓zJ,↓reduceIte,zA,zB,zC,zD,zE,zF,zG,zH,zI,reduceCtorEq])|(refine⟨_,hV,?_⟩;simp only [push_cast,↓zK,↓zJ,↓reduceIte,zA,zB,zC,zD,zE,zF,zG,zH,zI,reduceCtorEq])|apply And.intro|(intro hg;(try simp only [push_cast]at hg)))
 all_goals first|exact gA|(exact zW (by omega))|(exact zN (by simp only [push_cast];omega))|(exact zN (by omega))|skip
 all_goals first|(refine hK9 _ ?_;clear hK9 K9)|(simp only [push_cast];done)
 all_goals refine zo 1 fun K9 hK9=> ?_
 all_goals simp only [push_cast,↓zK,↓zJ,↓reduceIte,zA,zB,zC,zD,zE,zF,zG,zH,zI,reduceCtorEq]
 all_goals repeat'(first|(apply zP<;>(intro hg;(try simp only [push_cast]at hg)))|(refine⟨_,hA,?_⟩;simp only [push_cast,↓zK,↓zJ,↓reduceIte,zA,zB,zC,zD,zE,zF,zG,zH,zI,reduceCtorEq])|(refine⟨_,hM (zl (by with_reducible assumption)).2.2,?_⟩;simp only [push_cast,↓zK,↓zJ,↓reduceIte,zA,zB,zC,zD,zE,zF,zG,zH,zI,reduceCtorEq])|(refine⟨_,hS,?_⟩;simp only [push_cast,↓zK,↓zJ,↓reduceIte,zA,zB,zC,zD,zE,zF,zG,zH,zI,reduceCtorEq])|(refine⟨_,hPr,?_⟩;simp only [push_cast,↓zK,↓zJ,↓reduceIte,zA,zB,zC,zD,zE,zF,zG,zH,zI,reduceCtorEq])|(refine⟨_,hV,?_⟩;simp only [push_cast,↓zK,↓zJ,↓reduceIte,zA,zB,zC,zD,zE,zF,zG,zH,zI,reduceCtorEq])|apply And.intro|(intro hg;(try simp only [push_cast]at hg)))
 all_goals first|exact gA|(exact zW (by omega))|(exact zN (by simp only [push_cast];omega))|(exact zN (by omega))|skip
 all_goals first|(refine hK9 _ ?_;clear hK9 K9)|(simp only [push_cast];done)
 all_goals refine zo 6 fun K9 hK9=> ?_
 all_goals simp only [push_cast,↓zK,↓zJ,↓reduceIte,zA,zB,zC,zD,zE,zF,zG,zH,zI,reduceCtorEq]
 all_goals repeat'(first|(apply zP<;>(intro hg;(try simp only [push_cast]at hg)))|(refine⟨_,hA,?_⟩;simp only [push_cast,↓zK,↓zJ,↓reduceIte,zA,zB,zC,zD,zE,zF,zG,zH,zI,reduceCtorEq])|(refine⟨_,hM (zl (by with_reducible assumption)).2.2,?_⟩;simp only [push_cast,↓zK,↓zJ,↓reduceIte,zA,zB,zC,zD,zE,zF,zG,zH,zI,reduceCtorEq])|(refine⟨_,hS,?_⟩;simp only [push_cast,↓zK,↓zJ,↓reduceIte,zA,zB,zC,zD,zE,zF,zG,zH,zI,reduceCtorEq])|(refine⟨_,hPr,?_⟩;simp only [push_cast,↓zK,↓zJ,↓reduceIte,zA,zB,zC,zD,zE,zF,zG,zH,zI,reduceCtorEq])|(refine⟨_,hV,?_⟩;simp only [push_cast,↓zK,↓zJ,↓reduceIte,zA,zB,zC,zD,zE,zF,zG,zH,zI,reduceCtorEq])|apply And.intro|(intro hg;(try simp only [push_cast]at hg)))
 all_goals first|exact gA|(exact zW (by omega))|(exact zN (by simp only [push_cast];omega))|(exact zN (by omega))|skip
 all_goals first|(refine hK9 _ ?_;clear hK9 K9)|(simp only [push_cast];done)
 all_goals simp only [push_cast,↓zK,↓zJ,↓reduceIte,zA,zB,zC,zD,zE,zF,zG,zH,zI,reduceCtorEq]
 all_goals repeat'(first|(apply zP<;>(intro hg;(try simp only [push_cast]at hg)))|(refine⟨_,hA,?_⟩;simp only [push_cast,↓zK,↓zJ,↓reduceIte,zA,zB,zC,zD,zE,zF,zG,zH,zI,reduceCtorEq])|(refine⟨_,hM (zl (by with_reducible assumption)).2.2,?_⟩;simp only [push_cast,↓zK,↓zJ,↓reduceIte,zA,zB,zC,zD,zE,zF,zG,zH,zI,reduceCtorEq])|(refine⟨_,hS,?_⟩;simp only [push_cast,↓zK,↓zJ,↓reduceIte,zA,zB,zC,zD,zE,zF,zG,zH,zI,reduceCtorEq])|(refine⟨_,hPr,?_⟩;simp only [push_cast,↓zK,↓zJ,↓reduceIte,zA,zB,zC,zD,zE,zF,zG,zH,zI,reduceCtorEq])|(refine⟨_,hV,?_⟩;simp only [push_cast,↓zK,↓zJ,↓reduceIte,zA,zB,zC,zD,zE,zF,zG,zH,zI,reduceCtorEq])|apply And.intro|(intro hg;(try simp only [push_cast]at hg)))
 all_goals first|exact gA|(exact zW (by omega))|(exact zN (by simp only [push_cast];omega))|(exact zN (by omega))|skip
 all_goals first|(refine hK _ ?_;clear hK K)|(simp only [push_cast];done)
 all_goals refine zU rfl (fun hc=> ?_) (fun hc=> ?_)
 all_goals(first|(cases hc;done)|skip)
 all_goals(try simp only [push_cast]at hc)
 all_goals try(
   refine zL fun K hK=> ?_
   refine zM zQ zO [] rfl ?_
   all_goals simp only [push_cast,↓zK,↓zJ,↓reduceIte,zA,zB,zC,zD,zE,zF,zG,zH,zI,reduceCtorEq]
   all_goals repeat'(first|(apply zP<;>(intro hg;(try simp only [push_cast]at hg)))|apply And.intro|(intro hg;(try simp only [push_cast]at hg)))
   all_goals first|exact gA|(exact zW (by omega))|(exact zN (by simp only [push_cast];omega))|(exact zN (by omega))|skip
   all_goals first|(refine hK _ ?_;clear hK K)|(simp only [push_cast];done)
   refine zc ?_
   (try simp only [zR,zS])
   refine⟨Or.inl rfl,?_⟩
   simp only [zi,push_cast,↓zK,↓zJ,↓reduceIte,zA,zB,zC,zD,zE,zF,zG,zH,zI,reduceCtorEq]
   rw [show mwB a ps m s=false from by first|exact zA8 (zKk (by with_reducible assumption))|exact zA8 (zKl (by with_reducible assumption))|exact zJM (by with_reducible assumption)|exact zA8 (zKm (by omega))]
   all_goals first|rfl|skip
   done)
 refine zV ?_
 (try simp only [zR,zS,reduceIte,zF]);refine hK1 _ ?_
 have hB:mmB a m s=true:=zFf (by with_reducible assumption) (by with_reducible assumption) (by omega)
 have hPB:vR ps a.owner.length=true:=zIe (by with_reducible assumption) (by with_reducible assumption)
 refine zL fun K hK=> ?_
 refine zM zQ zO [] rfl ?_
 all_goals refine yz 4 fun K9 hK9=> ?_
 all_goals simp only [push_cast,↓zK,↓zJ,↓reduceIte,zA,zB,zC,zD,zE,zF,zG,zH,zI,reduceCtorEq]
 all_goals repeat'(first|(apply zP<;>(intro hg;(try simp only [push_cast]at hg)))|(refine⟨_,hW (zA6 hB),?_⟩;simp only [push_cast,↓zK,↓zJ,↓reduceIte,zA,zB,zC,zD,zE,zF,zG,zH,zI,reduceCtorEq])|apply And.intro|(intro hg;(try simp only [push_cast]at hg)))
 all_goals first|exact gA|(exact zW (by omega))|(exact zN (by simp only [push_cast];omega))|(exact zN (by omega))|skip
 all_goals first|(refine hK9 _ ?_;clear hK9 K9)|(simp only [push_cast];done)
 all_goals simp only [push_cast,↓zK,↓zJ,↓reduceIte,zA,zB,zC,zD,zE,zF,zG,zH,zI,reduceCtorEq]
 all_goals repeat'(first|(apply zP<;>(intro hg;(try simp only [push_cast]at hg)))|(refine⟨_,hW (zA6 hB),?_⟩;simp only [push_cast,↓zK,↓zJ,↓reduceIte,zA,zB,zC,zD,zE,zF,zG,zH,zI,reduceCtorEq])|apply And.intro|(intro hg;(try simp only [push_cast]at hg)))
 all_goals first|exact gA|(exact zW (by omega))|(exact zN (by simp only [push_cast];omega))|(exact zN (by omega))|skip
 all_goals first|(refine hK _ ?_;clear hK K)|(simp only [push_cast];done)
 refine zL fun K2 hK2=> ?_
 have hI9:=zA6 hB
 have hno3:=fun x=>zKp (a:=a) (ps:=ps) (m:=m) (s:=s) (x:=x)
 have hno4:=fun i x=>zKq (a:=a) (ps:=ps) (m:=m) (s:=s) (i:=i) (x:=x)
 have hyes:=fun h1 h2=>(zA7 (a:=a) (ps:=ps) (m:=m) (s:=s)).2 ⟨hB,hPB,h1,h2⟩
 have hfew:=jA hI9 6145
 have hXl:=Yt a m s (stM a m s 6145).length
 have hX16:=zK4 hI9
 have hXg:=fun win h=>gr_M (win:=win) hI9 h
 have hown:=fun x hx h0=>zIH (x:=x) hI9 hx h0
 have hok:=vJ hI9 6145
 have hq:QLn 1048576 (stM a m s 6145):=⟨by omega,fun p hp=>by rw [(hok p hp).2.2.1];show 1≤1048576;decide⟩
 have hat: ∀x,x<(stM a m s 6145).length→0≤(gq (stM a m s 6145) x).at_∧(gq (stM a m s 6145) x).at_<a.owner.length:=fun x hx=>⟨(hok _ (xz hx)).1,(hok _ (xz hx)).2.1⟩
 clear hok
 generalize stM a m s 6145=P at*
 generalize rsM a m s P.length=X at*
 refine zL fun K hK=> ?_
 refine zM zQ zO [] rfl ?_
 all_goals simp only [push_cast,↓zK,↓zJ,↓reduceIte,zA,zB,zC,zD,zE,zF,zG,zH,zI,reduceCtorEq]
 all_goals repeat'(first|(apply zP<;>(intro hg;(try simp only [push_cast]at hg)))|apply And.intro|(intro hg;(try simp only [push_cast]at hg)))
 all_goals first|exact gA|(exact zW (by omega))|(exact zN (by simp only [push_cast];omega))|(exact zN (by omega))|skip
 all_goals first|(refine hK _ ?_;clear hK K)|(simp only [push_cast];done)
 refine zT ?_
 refine zh [8,11,12,25,31,38,53,54,55,56,57,58,59,60,61,62,63,64,65,66,67,68,69,70,71,72,73] [] (fun(x0:Nat)=> [(53, .int .i64 x0)]) (fun x0=> []) (fun x0=> []) (fun x0=>x0≤P.length∧∀x,x<x0→¬(gl X x).length=0) (fun x0=>P.length - x0) 0 ?_ ⟨by omega,fun x hx=>by omega⟩ ?_
 ·
  refine zX rfl ?_ ?_ ?_<;>simp only [zg,zf,push_cast,↓zK,↓zJ,↓reduceIte,zA,zB,zC,zD,zE,zF,zG,zH,zI,reduceCtorEq]
 ·rintro x0 ⟨hx0,hal⟩ KL0 hL0
  simp only [push_cast,↓zK,↓zJ,↓reduceIte,zA,zB,zC,zD,zE,zF,zG,zH,zI,reduceCtorEq]
  refine zL fun K hK=> ?_
  refine zM zQ zO [] rfl ?_
  all_goals simp only [push_cast,↓zK,↓zJ,↓reduceIte,zA,zB,zC,zD,zE,zF,zG,zH,zI,reduceCtorEq]
  all_goals repeat'(first|(apply zP<;>(intro hg;(try simp only [push_cast]at hg)))|apply And.intro|(intro hg;(try simp only [push_cast]at hg)))
  all_goals first|exact gA|(exact zW (by omega))|(exact zN (by simp only [push_cast];omega))|(exact zN (by omega))|skip
  all_goals first|(refine hK _ ?_;clear hK K)|(simp only [push_cast];done)
  refine zL fun K3 hK3=> ?_
  refine zU rfl (fun hc=> ?_) (fun hc=> ?_)<;>(try simp only [push_cast]at hc)
  ·
   refine zV ?_
   (try simp only [zR,zS,reduceIte,zF]);refine hK3 _ ?_
   refine zL fun K4 hK4=> ?_
   refine zT ?_
   refine zL fun K hK=> ?_
   refine zM zQ zO [] rfl ?_
   all_goals simp only [push_cast,↓zK,↓zJ,↓reduceIte,zA,zB,zC,zD,zE,zF,zG,zH,zI,reduceCtorEq]
   all_goals repeat'(first|(apply zP<;>(intro hg;(try simp only [push_cast]at hg)))|apply And.intro|(intro hg;(try simp only [push_cast]at hg)))
   all_goals first|exact gA|(exact zW (by omega))|(exact zN (by simp only [push_cast];omega))|(exact zN (by omega))|skip
   all_goals first|(refine hK _ ?_;clear hK K)|(simp only [push_cast];done)
   have hati:=hat x0 (by omega)
   have hx16:=hX16 x0
   by_cases hq0:(gl X x0).length=0
   ·
    have ho9:=hown x0 (by omega) hq0
    refine zL fun K hK=> ?_
    refine za false zQ zO ?_ rfl ?_
    ·kernel_rfl
    all_goals simp only [push_cast,↓zK,↓zJ,↓reduceIte,zA,zB,zC,zD,zE,zF,zG,zH,zI,reduceCtorEq]
    all_goals repeat'(first|(apply zP<;>(intro hg;(try simp only [push_cast]at hg)))|apply And.intro|(intro hg;(try simp only [push_cast]at hg)))
    all_goals first|exact gA|(exact zW (by omega))|(exact zN (by simp only [push_cast];omega))|(exact zN (by omega))|skip
    all_goals first|(refine hK _ ?_;clear hK K)|(simp only [push_cast];done)
    all_goals(
      refine zU rfl (fun hc=> ?_) (fun hc=> ?_)
      rotate_left
      ·exfalso;first|(cases hc;done)|omega|exact absurd (show((gl X x0).length:Int)=0 by omega) (ne_of_beq_false hc)
      refine zL fun K hK=> ?_
      refine zM zQ zO [] rfl ?_
      all_goals simp only [push_cast,↓zK,↓zJ,↓reduceIte,zA,zB,zC,zD,zE,zF,zG,zH,zI,reduceCtorEq]
      all_goals repeat'(first|(apply zP<;>(intro hg;(try simp only [push_cast]at hg)))|apply And.intro|(intro hg;(try simp only [push_cast]at hg)))
      all_goals first|exact gA|(exact zW (by omega))|(exact zN (by simp only [push_cast];omega))|(exact zN (by omega))|skip
      all_goals first|(refine hK _ ?_;clear hK K)|(simp only [push_cast];done)
      refine zc ?_
      (try simp only [zR,zS])
      refine⟨Or.inl rfl,?_⟩
      simp only [zi,push_cast,↓zK,↓zJ,↓reduceIte,zA,zB,zC,zD,zE,zF,zG,zH,zI,reduceCtorEq]
      rw [hno3 x0 (by omega) hq0])
   ·
    refine zL fun K hK=> ?_
    refine za false zQ zO ?_ rfl ?_
    ·kernel_rfl
    all_goals simp only [push_cast,↓zK,↓zJ,↓reduceIte,zA,zB,zC,zD,zE,zF,zG,zH,zI,reduceCtorEq]
    all_goals repeat'(first|(apply zP<;>(intro hg;(try simp only [push_cast]at hg)))|apply And.intro|(intro hg;(try simp only [push_cast]at hg)))
    all_goals first|exact gA|(exact zW (by omega))|(exact zN (by simp only [push_cast];omega))|(exact zN (by omega))|skip
    all_goals first|(refine hK _ ?_;clear hK K)|(simp only [push_cast];done)
    all_goals(
      refine zU rfl (fun hc=> ?_) (fun hc=> ?_)
      skip
      ·exfalso;first|(cases hc;done)|omega|(have h9:=eq_of_beq hc;omega)
      refine zV ?_
      (try simp only [zR,zS,reduceIte,zF]);refine hK4 _ ?_
      refine zM zQ zO [] rfl ?_
      all_goals simp only [push_cast,↓zK,↓zJ,↓reduceIte,zA,zB,zC,zD,zE,zF,zG,zH,zI,reduceCtorEq]
      all_goals repeat'(first|(apply zP<;>(intro hg;(try simp only [push_cast]at hg)))|apply And.intro|(intro hg;(try simp only [push_cast]at hg)))
      all_goals first|exact gA|(exact zW (by omega))|(exact zN (by simp only [push_cast];omega))|(exact zN (by omega))|skip
      refine hL0 _ ⟨x0+1,⟨by omega,fun x hx=>(by
        by_cases e:x=x0
        ·subst e;exact hq0
        ·exact hal x (by omega))⟩,by omega,?_⟩
      refine zX rfl ?_ ?_ ?_<;>simp only [zg,zf,push_cast,↓zK,↓zJ,↓reduceIte,zA,zB,zC,zD,zE,zF,zG,zH,zI,reduceCtorEq])
  ·
   refine zm ?_
   have hxx:x0=P.length:=by omega
   subst hxx
   (try simp only [zR,zS,reduceIte,zF]);refine hK2 _ ?_
   refine zL fun K5 hK5=> ?_
   refine zL fun K hK=> ?_
   refine zM zQ zO [] rfl ?_
   all_goals simp only [push_cast,↓zK,↓zJ,↓reduceIte,zA,zB,zC,zD,zE,zF,zG,zH,zI,reduceCtorEq]
   all_goals repeat'(first|(apply zP<;>(intro hg;(try simp only [push_cast]at hg)))|apply And.intro|(intro hg;(try simp only [push_cast]at hg)))
   all_goals first|exact gA|(exact zW (by omega))|(exact zN (by simp only [push_cast];omega))|(exact zN (by omega))|skip
   all_goals first|(refine hK _ ?_;clear hK K)|(simp only [push_cast];done)
   refine zT ?_
   refine zh [8,14,15,16,17,19,21,25,31,38,65,76,77,78,79,80,81,82,83,84,85,86,87,88,89,90,91,92,93,94,95,96,97,98,99,100,101,102,103,104,105,106,107,108,109,110,111,112,113,114,115,116,117,118,119,120,121,122,123,124] [] (fun(i:Nat)=> [(76, .int .i64 i)]) (fun i=> []) (fun i=> []) (fun i=>i≤ps.length∧∀k,k<i→∀x,¬Xv X P (gp ps k) x) (fun i=>ps.length - i) 0 ?_ ⟨by omega,fun k hk=>by omega⟩ ?_
   ·
    refine zX rfl ?_ ?_ ?_<;>simp only [zg,zf,push_cast,↓zK,↓zJ,↓reduceIte,zA,zB,zC,zD,zE,zF,zG,zH,zI,reduceCtorEq]
   ·rintro i ⟨hi,hall⟩ KL1 hL1
    simp only [push_cast,↓zK,↓zJ,↓reduceIte,zA,zB,zC,zD,zE,zF,zG,zH,zI,reduceCtorEq]
    refine zL fun K hK=> ?_
    refine zM zQ zO [] rfl ?_
    all_goals simp only [push_cast,↓zK,↓zJ,↓reduceIte,zA,zB,zC,zD,zE,zF,zG,zH,zI,reduceCtorEq]
    all_goals repeat'(first|(apply zP<;>(intro hg;(try simp only [push_cast]at hg)))|apply And.intro|(intro hg;(try simp only [push_cast]at hg)))
    all_goals first|exact gA|(exact zW (by omega))|(exact zN (by simp only [push_cast];omega))|(exact zN (by omega))|skip
    all_goals first|(refine hK _ ?_;clear hK K)|(simp only [push_cast];done)
    refine zL fun K6 hK6=> ?_
    refine zU rfl (fun hc=> ?_) (fun hc=> ?_)<;>(try simp only [push_cast]at hc)
    ·
     refine zV ?_
     (try simp only [zR,zS,reduceIte,zF]);refine hK6 _ ?_
     refine zL fun K7 hK7=> ?_
     refine zT ?_
     refine zL fun K hK=> ?_
     refine zM zQ zO [] rfl ?_
     all_goals simp only [push_cast,↓zK,↓zJ,↓reduceIte,zA,zB,zC,zD,zE,zF,zG,zH,zI,reduceCtorEq]
     all_goals repeat'(first|(apply zP<;>(intro hg;(try simp only [push_cast]at hg)))|apply And.intro|(intro hg;(try simp only [push_cast]at hg)))
     all_goals first|exact gA|(exact zW (by omega))|(exact zN (by simp only [push_cast];omega))|(exact zN (by omega))|skip
     all_goals first|(refine hK _ ?_;clear hK K)|(simp only [push_cast];done)
     refine zL fun K hK=> ?_
     refine zM zQ zO [] rfl ?_
     all_goals simp only [push_cast,↓zK,↓zJ,↓reduceIte,zA,zB,zC,zD,zE,zF,zG,zH,zI,reduceCtorEq]
     all_goals repeat'(first|(apply zP<;>(intro hg;(try simp only [push_cast]at hg)))|apply And.intro|(intro hg;(try simp only [push_cast]at hg)))
     all_goals first|exact gA|(exact zW (by omega))|(exact zN (by simp only [push_cast];omega))|(exact zN (by omega))|skip
     all_goals first|(refine hK _ ?_;clear hK K)|(simp only [push_cast];done)
     refine zL fun K8 hK8=> ?_
     refine zL fun K hK=> ?_
     refine zM zQ zO [] rfl ?_
     all_goals simp only [push_cast,↓zK,↓zJ,↓reduceIte,zA,zB,zC,zD,zE,zF,zG,zH,zI,reduceCtorEq]
     all_goals repeat'(first|(apply zP<;>(intro hg;(try simp only [push_cast]at hg)))|apply And.intro|(intro hg;(try simp only [push_cast]at hg)))
     all_goals first|exact gA|(exact zW (by omega))|(exact zN (by simp only [push_cast];omega))|(exact zN (by omega))|skip
     all_goals first|(refine hK _ ?_;clear hK K)|(simp only [push_cast];done)
     refine zT ?_
     refine zh [14,16,17,25,31,38,65,85,86,87,88,89,90,91,92,93,94,95,96,97,98,99] [240] (fun(j:Nat)=> [(85, .int .i64 j),(15, .sl 240 [] 0 P.length 4),(14, .bp 14 0)]) (fun j=> [(14,[.sl 16 [i*2] 0 (gp ps i).ask.length 2, .sl 16 [i*2+1] 0 (gp ps i).give.length 2])]) (fun j=> [(240,⟨.ex,4,dB (opW (gp ps i).give P j),none⟩)]) (fun j=>j≤P.length) (fun j=>P.length - j) 0 ?_ (by omega) ?_
     ·
      rw [show opW (gp ps i).give P 0=List.replicate P.length false from zIE _ _]
      refine zX rfl ?_ ?_ ?_<;>simp only [zg,zf,push_cast,↓zK,↓zJ,↓reduceIte,zA,zB,zC,zD,zE,zF,zG,zH,zI,reduceCtorEq]
      all_goals first|rfl|skip
     ·rintro j hj KL2 hL2
      have hol:=kf (g:=(gp ps i).give) (P:=P) (k:=j) hj
      simp only [push_cast,↓zK,↓zJ,↓reduceIte,zA,zB,zC,zD,zE,zF,zG,zH,zI,reduceCtorEq]
      refine zL fun K hK=> ?_
      refine zM zQ zO [] rfl ?_
      all_goals simp only [push_cast,↓zK,↓zJ,↓reduceIte,zA,zB,zC,zD,zE,zF,zG,zH,zI,reduceCtorEq]
      all_goals repeat'(first|(apply zP<;>(intro hg;(try simp only [push_cast]at hg)))|apply And.intro|(intro hg;(try simp only [push_cast]at hg)))
      all_goals first|exact gA|(exact zW (by omega))|(exact zN (by simp only [push_cast];omega))|(exact zN (by omega))|skip
      all_goals first|(refine hK _ ?_;clear hK K)|(simp only [push_cast];done)
      refine zL fun K9 hK9=> ?_
      refine zU rfl (fun hc=> ?_) (fun hc=> ?_)<;>(try simp only [push_cast]at hc)
      ·
       refine zV ?_
       (try simp only [zR,zS,reduceIte,zF]);refine hK9 _ ?_
       refine zL fun K10 hK10=> ?_
       refine zT ?_
       refine zL fun K hK=> ?_
       refine zM zQ zO [] rfl ?_
       all_goals simp only [push_cast,↓zK,↓zJ,↓reduceIte,zA,zB,zC,zD,zE,zF,zG,zH,zI,reduceCtorEq]
       all_goals repeat'(first|(apply zP<;>(intro hg;(try simp only [push_cast]at hg)))|apply And.intro|(intro hg;(try simp only [push_cast]at hg)))
       all_goals first|exact gA|(exact zW (by omega))|(exact zN (by simp only [push_cast];omega))|(exact zN (by omega))|skip
       all_goals first|(refine hK _ ?_;clear hK K)|(simp only [push_cast];done)
       have hatj:=hat j (by omega)
       have hst:(opW (gp ps i).give P j).set j (!zn (gp ps i).give (gq P j).at_)=opW (gp ps i).give P (j+1):=zC6 (f:=fun x=> !zn (gp ps i).give (gq P x).at_) (by omega)
       refine zM zQ zO [] rfl ?_
       all_goals refine yz 7 fun K9 hK9=> ?_
       all_goals simp only [push_cast,↓zK,↓zJ,↓reduceIte,zA,zB,zC,zD,zE,zF,zG,zH,zI,reduceCtorEq]
       all_goals repeat'(first|(apply zP<;>(intro hg;(try simp only [push_cast]at hg)))|(refine⟨_,yH (gp ps i).give (gq P j).at_ (hgg i),?_⟩;simp only [push_cast,↓zK,↓zJ,↓reduceIte,zA,zB,zC,zD,zE,zF,zG,zH,zI,reduceCtorEq])|apply And.intro|(intro hg;(try simp only [push_cast]at hg)))
       all_goals first|exact gA|(exact zW (by omega))|(exact zN (by simp only [push_cast];omega))|(exact zN (by omega))|skip
       all_goals first|(refine hK9 _ ?_;clear hK9 K9)|(simp only [push_cast];done)
       all_goals simp only [push_cast,↓zK,↓zJ,↓reduceIte,zA,zB,zC,zD,zE,zF,zG,zH,zI,reduceCtorEq]
       all_goals repeat'(first|(apply zP<;>(intro hg;(try simp only [push_cast]at hg)))|(refine⟨_,yH (gp ps i).give (gq P j).at_ (hgg i),?_⟩;simp only [push_cast,↓zK,↓zJ,↓reduceIte,zA,zB,zC,zD,zE,zF,zG,zH,zI,reduceCtorEq])|apply And.intro|(intro hg;(try simp only [push_cast]at hg)))
       all_goals first|exact gA|(exact zW (by omega))|(exact zN (by simp only [push_cast];omega))|(exact zN (by omega))|skip
       (try simp only [zR,zS,reduceIte,zF]);refine hK10 _ ?_
       refine zM zQ zO [] rfl ?_
       all_goals simp only [push_cast,↓zK,↓zJ,↓reduceIte,zA,zB,zC,zD,zE,zF,zG,zH,zI,reduceCtorEq]
       all_goals repeat'(first|(apply zP<;>(intro hg;(try simp only [push_cast]at hg)))|apply And.intro|(intro hg;(try simp only [push_cast]at hg)))
       all_goals first|exact gA|(exact zW (by omega))|(exact zN (by simp only [push_cast];omega))|(exact zN (by omega))|skip
       refine hL2 _ ⟨j+1,by omega,by omega,?_⟩
       refine zX rfl ?_ ?_ ?_<;>simp only [zg,zf,push_cast,↓zK,↓zJ,↓reduceIte,zA,zB,zC,zD,zE,zF,zG,zH,zI,reduceCtorEq]
       all_goals first|rfl|(rw [hst];done)|skip
      ·
       refine zm ?_
       have hjj:j=P.length:=by omega
       subst hjj
       (try simp only [zR,zS,reduceIte,zF]);refine hK8 _ ?_
       have hgr:=hXg (opW (gp ps i).give P P.length) (kf (Nat.le_refl _))
       have hLo:Fn Try.prog tyT 48 [.c (DII X), .c (.lst 4 (dB (List.take P.length (opW (gp ps i).give P P.length))))] [.c (DII (vG (Zw X (opW (gp ps i).give P P.length))))]:=by rw [List.take_of_length_le (l:=opW (gp ps i).give P P.length) (by rw [kf (Nat.le_refl _)];exact Nat.le_refl _)];exact zD5 X (opW (gp ps i).give P P.length) (by omega) hgr hX16
       refine zL fun K hK=> ?_
       refine zM zQ zO [] rfl ?_
       all_goals refine yz 3 fun K9 hK9=> ?_
       all_goals simp only [push_cast,↓zK,↓zJ,↓reduceIte,zA,zB,zC,zD,zE,zF,zG,zH,zI,reduceCtorEq]
       all_goals repeat'(first|(apply zP<;>(intro hg;(try simp only [push_cast]at hg)))|(refine⟨_,hLo,?_⟩;simp only [push_cast,↓zK,↓zJ,↓reduceIte,zA,zB,zC,zD,zE,zF,zG,zH,zI,reduceCtorEq])|apply And.intro|(intro hg;(try simp only [push_cast]at hg)))
       all_goals first|exact gA|(exact zW (by omega))|(exact zN (by simp only [push_cast];omega))|(exact zN (by omega))|skip
       all_goals first|(refine hK9 _ ?_;clear hK9 K9)|(simp only [push_cast];done)
       all_goals simp only [push_cast,↓zK,↓zJ,↓reduceIte,zA,zB,zC,zD,zE,zF,zG,zH,zI,reduceCtorEq]
       all_goals repeat'(first|(apply zP<;>(intro hg;(try simp only [push_cast]at hg)))|(refine⟨_,hLo,?_⟩;simp only [push_cast,↓zK,↓zJ,↓reduceIte,zA,zB,zC,zD,zE,zF,zG,zH,zI,reduceCtorEq])|apply And.intro|(intro hg;(try simp only [push_cast]at hg)))
       all_goals first|exact gA|(exact zW (by omega))|(exact zN (by simp only [push_cast];omega))|(exact zN (by omega))|skip
       all_goals first|(refine hK _ ?_;clear hK K)|(simp only [push_cast];done)
       refine zT ?_
       have hrows:=zEH hgr
       have hbad:=fun q hq y hy ha9=>zGk (p:=gp ps i) (q:=q) (y:=y) hXl hgr hq hy ha9
       have hgd:=fun h=>zFO (p:=gp ps i) hgr h
       generalize vG (Zw X (opW (gp ps i).give P P.length))=L at*
       refine zh [8,19,21,25,31,38,65,104,105,106,107,108,109,110,111,112,113,114,115,116,117,118,119,120,121,122,123] [] (fun(q:Nat)=> [(104, .int .i64 q)]) (fun q=> []) (fun q=> []) (fun q=>q≤L.length∧∀k,k<q→∀y∈gl L k,zn (gp ps i).ask (gq P y.toNat).at_=false) (fun q=>L.length - q) 0 ?_ ⟨by omega,fun k hk=>by omega⟩ ?_
       ·
        refine zX rfl ?_ ?_ ?_<;>simp only [zg,zf,push_cast,↓zK,↓zJ,↓reduceIte,zA,zB,zC,zD,zE,zF,zG,zH,zI,reduceCtorEq]
       ·rintro q ⟨hq9,hal3⟩ KL3 hL3
        simp only [push_cast,↓zK,↓zJ,↓reduceIte,zA,zB,zC,zD,zE,zF,zG,zH,zI,reduceCtorEq]
        refine zL fun K hK=> ?_
        refine zM zQ zO [] rfl ?_
        all_goals simp only [push_cast,↓zK,↓zJ,↓reduceIte,zA,zB,zC,zD,zE,zF,zG,zH,zI,reduceCtorEq]
        all_goals repeat'(first|(apply zP<;>(intro hg;(try simp only [push_cast]at hg)))|apply And.intro|(intro hg;(try simp only [push_cast]at hg)))
        all_goals first|exact gA|(exact zW (by omega))|(exact zN (by simp only [push_cast];omega))|(exact zN (by omega))|skip
        all_goals first|(refine hK _ ?_;clear hK K)|(simp only [push_cast];done)
        refine zL fun K11 hK11=> ?_
        refine zU rfl (fun hc=> ?_) (fun hc=> ?_)<;>(try simp only [push_cast]at hc)
        ·
         refine zV ?_
         (try simp only [zR,zS,reduceIte,zF]);refine hK11 _ ?_
         refine zL fun K12 hK12=> ?_
         refine zT ?_
         refine zL fun K hK=> ?_
         refine zM zQ zO [] rfl ?_
         all_goals simp only [push_cast,↓zK,↓zJ,↓reduceIte,zA,zB,zC,zD,zE,zF,zG,zH,zI,reduceCtorEq]
         all_goals repeat'(first|(apply zP<;>(intro hg;(try simp only [push_cast]at hg)))|apply And.intro|(intro hg;(try simp only [push_cast]at hg)))
         all_goals first|exact gA|(exact zW (by omega))|(exact zN (by simp only [push_cast];omega))|(exact zN (by omega))|skip
         all_goals first|(refine hK _ ?_;clear hK K)|(simp only [push_cast];done)
         refine zL fun K hK=> ?_
         refine zM zQ zO [] rfl ?_
         all_goals simp only [push_cast,↓zK,↓zJ,↓reduceIte,zA,zB,zC,zD,zE,zF,zG,zH,zI,reduceCtorEq]
         all_goals repeat'(first|(apply zP<;>(intro hg;(try simp only [push_cast]at hg)))|apply And.intro|(intro hg;(try simp only [push_cast]at hg)))
         all_goals first|exact gA|(exact zW (by omega))|(exact zN (by simp only [push_cast];omega))|(exact zN (by omega))|skip
         all_goals first|(refine hK _ ?_;clear hK K)|(simp only [push_cast];done)
         refine zT ?_
         have hqr:=hrows.2.1 _ (glm (L:=L) (k:=q) (by omega))
         refine zh [8,21,25,31,38,65,110,111,112,113,114,115,116,117,118,119,120,121,122] [] (fun(y:Nat)=> [(110, .int .i64 y)]) (fun y=> []) (fun y=> []) (fun y=>y≤(gl L q).length∧∀k,k<y→zn (gp ps i).ask (gq P (gi (gl L q) k).toNat).at_=false) (fun y=>(gl L q).length - y) 0 ?_ ⟨by omega,fun k hk=>by omega⟩ ?_
         ·
          refine zX rfl ?_ ?_ ?_<;>simp only [zg,zf,push_cast,↓zK,↓zJ,↓reduceIte,zA,zB,zC,zD,zE,zF,zG,zH,zI,reduceCtorEq]
         ·rintro y ⟨hy9,hal4⟩ KL4 hL4
          simp only [push_cast,↓zK,↓zJ,↓reduceIte,zA,zB,zC,zD,zE,zF,zG,zH,zI,reduceCtorEq]
          refine zL fun K hK=> ?_
          refine zM zQ zO [] rfl ?_
          all_goals simp only [push_cast,↓zK,↓zJ,↓reduceIte,zA,zB,zC,zD,zE,zF,zG,zH,zI,reduceCtorEq]
          all_goals repeat'(first|(apply zP<;>(intro hg;(try simp only [push_cast]at hg)))|apply And.intro|(intro hg;(try simp only [push_cast]at hg)))
          all_goals first|exact gA|(exact zW (by omega))|(exact zN (by simp only [push_cast];omega))|(exact zN (by omega))|skip
          all_goals first|(refine hK _ ?_;clear hK K)|(simp only [push_cast];done)
          refine zL fun K13 hK13=> ?_
          refine zU rfl (fun hc=> ?_) (fun hc=> ?_)<;>(try simp only [push_cast]at hc)
          ·
           refine zV ?_
           (try simp only [zR,zS,reduceIte,zF]);refine hK13 _ ?_
           refine zL fun K14 hK14=> ?_
           refine zT ?_
           refine zL fun K hK=> ?_
           refine zM zQ zO [] rfl ?_
           all_goals simp only [push_cast,↓zK,↓zJ,↓reduceIte,zA,zB,zC,zD,zE,zF,zG,zH,zI,reduceCtorEq]
           all_goals repeat'(first|(apply zP<;>(intro hg;(try simp only [push_cast]at hg)))|apply And.intro|(intro hg;(try simp only [push_cast]at hg)))
           all_goals first|exact gA|(exact zW (by omega))|(exact zN (by simp only [push_cast];omega))|(exact zN (by omega))|skip
           all_goals first|(refine hK _ ?_;clear hK K)|(simp only [push_cast];done)
           have hyr:=hrows.2.2 _ (glm (L:=L) (k:=q) (by omega)) _ (WP (q:=gl L q) (k:=y) (by omega))
           refine zL fun K hK=> ?_
           refine yB false zQ zO xW ?_ rfl ?_
           ·kernel_rfl
           intro E hE
           all_goals refine yP 8 (by decide) fun K9 hK9=> ?_
           all_goals simp only [push_cast,↓zK,↓zJ,↓reduceIte,zA,zB,zC,zD,zE,zF,zG,zH,zI,reduceCtorEq]
           all_goals repeat'(first|(apply zP<;>(intro hg;(try simp only [push_cast]at hg)))|(refine⟨_,yH (gp ps i).ask (gq P (gi (gl L q) y).toNat).at_ (hga i),?_⟩;simp only [push_cast,↓zK,↓zJ,↓reduceIte,zA,zB,zC,zD,zE,zF,zG,zH,zI,reduceCtorEq])|apply And.intro|(intro hg;(try simp only [push_cast]at hg)))
           all_goals first|exact gA|(exact zW (by omega))|(exact zN (by simp only [push_cast];omega))|(exact zN (by omega))|skip
           all_goals first|(refine hK9 _ _ ?_;clear hK9 K9)|(simp only [push_cast];done)
           all_goals simp only [push_cast,↓zK,↓zJ,↓reduceIte,zA,zB,zC,zD,zE,zF,zG,zH,zI,reduceCtorEq]
           all_goals repeat'(first|(apply zP<;>(intro hg;(try simp only [push_cast]at hg)))|(refine⟨_,yH (gp ps i).ask (gq P (gi (gl L q) y).toNat).at_ (hga i),?_⟩;simp only [push_cast,↓zK,↓zJ,↓reduceIte,zA,zB,zC,zD,zE,zF,zG,zH,zI,reduceCtorEq])|apply And.intro|(intro hg;(try simp only [push_cast]at hg)))
           all_goals first|exact gA|(refine hE _ _ ?_ ?_;kernel_rfl)|(exact zW (by omega))|(exact zN (by simp only [push_cast];omega))|(exact zN (by omega))|skip
           all_goals clear hE E
           all_goals first|(refine hK _ ?_;clear hK K)|(simp only [push_cast];done)
           refine zU rfl (fun hc=> ?_) (fun hc=> ?_)<;>(try simp only [push_cast]at hc)
           ·
            refine zL fun K hK=> ?_
            refine zM zQ zO [] rfl ?_
            all_goals simp only [push_cast,↓zK,↓zJ,↓reduceIte,zA,zB,zC,zD,zE,zF,zG,zH,zI,reduceCtorEq]
            all_goals repeat'(first|(apply zP<;>(intro hg;(try simp only [push_cast]at hg)))|apply And.intro|(intro hg;(try simp only [push_cast]at hg)))
            all_goals first|exact gA|(exact zW (by omega))|(exact zN (by simp only [push_cast];omega))|(exact zN (by omega))|skip
            all_goals first|(refine hK _ ?_;clear hK K)|(simp only [push_cast];done)
            refine zc ?_
            (try simp only [zR,zS])
            refine⟨Or.inl rfl,?_⟩
            simp only [zi,push_cast,↓zK,↓zJ,↓reduceIte,zA,zB,zC,zD,zE,zF,zG,zH,zI,reduceCtorEq]
            rw [hno4 i _ (by omega) (hbad _ (glm (L:=L) (k:=q) (by omega)) _ (WP (q:=gl L q) (k:=y) (by omega)) (by with_reducible assumption))]
           ·
            refine zV ?_
            (try simp only [zR,zS,reduceIte,zF]);refine hK14 _ ?_
            refine zM zQ zO [] rfl ?_
            all_goals simp only [push_cast,↓zK,↓zJ,↓reduceIte,zA,zB,zC,zD,zE,zF,zG,zH,zI,reduceCtorEq]
            all_goals repeat'(first|(apply zP<;>(intro hg;(try simp only [push_cast]at hg)))|apply And.intro|(intro hg;(try simp only [push_cast]at hg)))
            all_goals first|exact gA|(exact zW (by omega))|(exact zN (by simp only [push_cast];omega))|(exact zN (by omega))|skip
            refine hL4 _ ⟨y+1,⟨by omega,fun k hk=>(by
              by_cases e:k=y
              ·subst e;with_reducible assumption
              ·exact hal4 k (by omega))⟩,by omega,?_⟩
            refine zX rfl ?_ ?_ ?_<;>simp only [zg,zf,push_cast,↓zK,↓zJ,↓reduceIte,zA,zB,zC,zD,zE,zF,zG,zH,zI,reduceCtorEq]
          ·
           refine zm ?_
           have hyy:y=(gl L q).length:=by omega
           subst hyy
           have hpart: ∀z∈gl L q,zn (gp ps i).ask (gq P z.toNat).at_=false:=fun z hz=>(by obtain⟨k,hk,rfl⟩:=Yp hz;exact hal4 k hk)
           (try simp only [zR,zS,reduceIte,zF]);refine hK12 _ ?_
           refine zM zQ zO [] rfl ?_
           all_goals simp only [push_cast,↓zK,↓zJ,↓reduceIte,zA,zB,zC,zD,zE,zF,zG,zH,zI,reduceCtorEq]
           all_goals repeat'(first|(apply zP<;>(intro hg;(try simp only [push_cast]at hg)))|apply And.intro|(intro hg;(try simp only [push_cast]at hg)))
           all_goals first|exact gA|(exact zW (by omega))|(exact zN (by simp only [push_cast];omega))|(exact zN (by omega))|skip
           refine hL3 _ ⟨q+1,⟨by omega,fun k hk=>(by
             by_cases e:k=q
             ·subst e;exact hpart
             ·exact hal3 k (by omega))⟩,by omega,?_⟩
           refine zX rfl ?_ ?_ ?_<;>simp only [zg,zf,push_cast,↓zK,↓zJ,↓reduceIte,zA,zB,zC,zD,zE,zF,zG,zH,zI,reduceCtorEq]
        ·
         refine zm ?_
         have hqq:q=L.length:=by omega
         subst hqq
         have hgood:=hgd (fun q hq y hy=>(by obtain⟨k,hk,rfl⟩:=zC4 hq;exact hal3 k hk y hy))
         (try simp only [zR,zS,reduceIte,zF]);refine hK7 _ ?_
         refine zM zQ zO [] rfl ?_
         all_goals simp only [push_cast,↓zK,↓zJ,↓reduceIte,zA,zB,zC,zD,zE,zF,zG,zH,zI,reduceCtorEq]
         all_goals repeat'(first|(apply zP<;>(intro hg;(try simp only [push_cast]at hg)))|apply And.intro|(intro hg;(try simp only [push_cast]at hg)))
         all_goals first|exact gA|(exact zW (by omega))|(exact zN (by simp only [push_cast];omega))|(exact zN (by omega))|skip
         refine hL1 _ ⟨i+1,⟨by omega,fun k hk=>(by
           by_cases e:k=i
           ·subst e;exact hgood
           ·exact hall k (by omega))⟩,by omega,?_⟩
         refine zX rfl ?_ ?_ ?_<;>simp only [zg,zf,push_cast,↓zK,↓zJ,↓reduceIte,zA,zB,zC,zD,zE,zF,zG,zH,zI,reduceCtorEq]
    ·
     refine zm ?_
     have hii:i=ps.length:=by omega
     subst hii
     (try simp only [zR,zS,reduceIte,zF]);refine hK5 _ ?_
     refine zL fun K hK=> ?_
     refine zM zQ zO [] rfl ?_
     all_goals simp only [push_cast,↓zK,↓zJ,↓reduceIte,zA,zB,zC,zD,zE,zF,zG,zH,zI,reduceCtorEq]
     all_goals repeat'(first|(apply zP<;>(intro hg;(try simp only [push_cast]at hg)))|apply And.intro|(intro hg;(try simp only [push_cast]at hg)))
     all_goals first|exact gA|(exact zW (by omega))|(exact zN (by simp only [push_cast];omega))|(exact zN (by omega))|skip
     all_goals first|(refine hK _ ?_;clear hK K)|(simp only [push_cast];done)
     refine zc ?_
     (try simp only [zR,zS])
     refine⟨Or.inl rfl,?_⟩
     simp only [zi,push_cast,↓zK,↓zJ,↓reduceIte,zA,zB,zC,zD,zE,zF,zG,zH,zI,reduceCtorEq]
     rw [hyes (fun x hx=>hal x hx) (fun k hk=>hall k hk)]
theorem zJR {qd:List Int}{o:Nat}{pre:List D}(h:pre= []∨pre=dI (qd.take o)): ∃ps:List Int,(ps= []∨ps=qd.take o)∧pre=dI ps:=by
 rcases h with h|h
 ·exact⟨[], .inl rfl,h⟩
 ·exact⟨_, .inr rfl,h⟩
theorem zCW (a b:List Int)(v:Int):dI a++(dI b++ [D.int .i64 v])=dI (a++(b++ [v])):=by simp [dI]
section
variable {E:List (List Int)} {ins:List Bool} {n v:Nat} {out:List Bool} {td:List Int}
theorem zIA {td:List Int}(ht:0<td.length):td=gi td 0::td.drop 1:=by
 cases td with
 |nil=>simp at ht
 |cons x td=>rfl
theorem ByI.popH (h:ByI E ins n v (fun _ _=>False) out td)(ht:0<td.length):ByI E ins n v (fun x j=>x=(gi td 0).toNat∧0≤j) out (td.drop 1):=by
 refine⟨h.lo,h.snd,fun t hm=>h.rng t (List.mem_of_mem_drop hm),fun x hx hv j hj hb=> ?_⟩
 rcases h.cls x hx hv j hj hb with h1|h1|h1
 ·exact .inl h1
 ·rw [zIA ht]at h1
  rcases List.mem_cons.1 h1 with h2|h2
  ·exact .inr (.inr ⟨by omega,Nat.zero_le _⟩)
  ·exact .inr (.inl h2)
 ·exact h1.elim
theorem ByI.first {W:Nat→Nat→Prop}(h:ByI E ins n v W out td)(ht:0<td.length):(0≤gi td 0∧gi td 0<n)∧((gi td 0).toNat=v∨gb out (gi td 0).toNat=true):=h.rng _ (by rw [zIA ht];exact List.mem_cons_self ..)
end
theorem zAg (qd:List Int)(o:Nat):gi (qd.drop o) 0=gi qd o:=by
 unfold gi
 rw [List.getD_eq_getElem?_getD,List.getD_eq_getElem?_getD,List.getElem?_drop]
 rfl
theorem newqB {qd ps:List Int}{o:Nat}(u:Int):(ps++(qd.drop o++ [u])).drop ps.length=qd.drop o++ [u]:=List.drop_left
theorem newlB {qd ps:List Int}{o:Nat}(u:Int)(ho:o≤qd.length)(h:ps= []∨ps=qd.take o):(ps++(qd.drop o++ [u])).length≤qd.length+1∧(ps++(qd.drop o++ [u])).length - ps.length=qd.length - o+1∧ps.length≤(ps++(qd.drop o++ [u])).length:=by
 rcases h with rfl|rfl
 ·first|(simp;done)|(simp;omega)
 ·first|(simp;done)|(simp;omega)
set_option maxRecDepth 20000 in
set_option maxHeartbeats 8000000 in
theorem Jl (a:Ar)(ha:zu a=true)(ins:List Bool)(v:Nat)(hv:v<a.owner.length)(hIn:ins.length=a.owner.length):Fn Try.prog tyT 110 [.agg (dAr a), .c (.lst 4 (dB ins)), .c (.int .i64 v)] [.c (.lst 4 (dB (vX a.next ins v a.owner.length)))]:=by
 have hal:=zl ha
 have hE9: ∀x,x<a.owner.length→∀j,j<(gl a.next x).length→0≤gi (gl a.next x) j∧gi (gl a.next x) j<(a.owner.length:Nat):=fun x hx j hj=>KW (xO ha (v:=x) hx).2.2.2.2 (j:=j) hj
 have hEd:=fun x (hx:x<a.owner.length)=>(xO ha (v:=x) hx).2.2.2.1
 have hfin:=fun out h=>ByI.fin (E:=a.next) (ins:=ins) (n:=a.owner.length) (v:=v) (out:=out) h hv hE9
 have hbl:=Jz a.next ins v a.owner.length
 generalize vX a.next ins v a.owner.length=R at hfin hbl⊢
 unfold dAr
 obtain⟨n,hn⟩: ∃n,a.owner.length=n:=⟨_,rfl⟩
 rw [hn]at hv hIn hal hE9 hEd hfin hbl
 (try rw [hn])
 refine yK (fn:=Try.f110) (ts:= [6]) Try.func110 (by kernel_rfl) rfl rfl (by rw [Try.ntmps110];exact Nat.le_of_ble_eq_true rfl) rfl (by simp only [szA,List.mem_cons,List.not_mem_nil,or_false,forall_eq_or_imp,forall_eq,VT.cells,szL];try decide) ?_
 rw [Try.ntmps110]
 simp only [push_cast,↓zK,↓zJ,↓reduceIte,zA,zB,zC,zD,zE,zF,zG,zH,zI,reduceCtorEq]
 refine zL fun K hK=> ?_
 refine zM zQ zO [] rfl ?_
 all_goals simp only [push_cast,↓zK,↓zJ,↓reduceIte,zA,zB,zC,zD,zE,zF,zG,zH,zI,reduceCtorEq]
 all_goals repeat'(first|(apply zP<;>(intro hg;(try simp only [push_cast]at hg)))|apply And.intro|(intro hg;(try simp only [push_cast]at hg)))
 all_goals first|exact gA|(exact zN (by omega))|(rw [List.length_set];omega)|skip
 all_goals first|(refine hK _ ?_;clear hK K)|(simp only [push_cast];done)
 (try rw [hIn])
 refine zL fun K hK=> ?_
 refine zM zQ zO [] rfl ?_
 all_goals simp only [push_cast,↓zK,↓zJ,↓reduceIte,zA,zB,zC,zD,zE,zF,zG,zH,zI,reduceCtorEq]
 all_goals repeat'(first|(apply zP<;>(intro hg;(try simp only [push_cast]at hg)))|apply And.intro|(intro hg;(try simp only [push_cast]at hg)))
 all_goals first|exact gA|(exact zN (by omega))|(rw [List.length_set];omega)|skip
 all_goals first|(refine hK _ ?_;clear hK K)|(simp only [push_cast];done)
 refine zL fun K hK=> ?_
 refine zM zQ zO [] rfl ?_
 all_goals simp only [push_cast,↓zK,↓zJ,↓reduceIte,zA,zB,zC,zD,zE,zF,zG,zH,zI,reduceCtorEq]
 all_goals repeat'(first|(apply zP<;>(intro hg;(try simp only [push_cast]at hg)))|apply And.intro|(intro hg;(try simp only [push_cast]at hg)))
 all_goals first|exact gA|(exact zN (by omega))|(rw [List.length_set];omega)|skip
 all_goals first|(refine hK _ ?_;clear hK K)|(simp only [push_cast];done)
 refine zL fun K1 hK1=> ?_
 refine zT ?_
 refine zh [8,9,10,11,17,18,19,20,21,22,23,24,25,26,27,28,29,30,31,32,33,34,35,36,37,38,39,40,41,42,43,44,45,46,47,48,49,50,51,52,53,54,55,56,57,58,59,60] [112,128] (fun(p:List Bool×List Int×Nat)=> [(7, .sl 112 [] 0 n 4),(8, .sl 128 [] p.2.2 (p.2.1.length - p.2.2) 2)]) (fun p=> []) (fun p=> [(112,⟨.ex,4,dB p.1,none⟩),(128,⟨.ex,2,dI p.2.1,none⟩)]) (fun p=>ByI a.next ins n v (fun _ _=>False) p.1 (p.2.1.drop p.2.2)∧p.2.2≤p.2.1.length∧p.2.1.length≤1+yj p.1 n∧2*(n - yj p.1 n)+(p.2.1.length - p.2.2)≤2*n+1) (fun p=>2*(n - yj p.1 n)+(p.2.1.length - p.2.2)) (List.replicate n false,[(v:Int)],0) ?_ ⟨ByI.start hv,Nat.zero_le _,by dsimp only;simp only [List.length_cons,List.length_nil];omega,by dsimp only;simp only [List.length_cons,List.length_nil];omega⟩ ?_
 ·
  refine zX rfl ?_ ?_ ?_<;>simp only [zg,zf,push_cast,↓zK,↓zJ,↓reduceIte,zA,zB,zC,zD,zE,zF,zG,zH,zI,reduceCtorEq]
  all_goals first|rfl|skip
 ·rintro⟨out,qd,o⟩ ⟨hI,hoq,hql,hMb⟩ KL0 hL0
  dsimp only at hI hoq hql hMb
  have hlo0:=hI.lo
  have hct0:=wx out n
  simp only [push_cast,↓zK,↓zJ,↓reduceIte,zA,zB,zC,zD,zE,zF,zG,zH,zI,reduceCtorEq]
  refine zL fun K2 hK2=> ?_
  refine zL fun K hK=> ?_
  refine zM zQ zO [] rfl ?_
  all_goals simp only [push_cast,↓zK,↓zJ,↓reduceIte,zA,zB,zC,zD,zE,zF,zG,zH,zI,reduceCtorEq]
  all_goals repeat'(first|(apply zP<;>(intro hg;(try simp only [push_cast]at hg)))|apply And.intro|(intro hg;(try simp only [push_cast]at hg)))
  all_goals first|exact gA|(exact zN (by omega))|(rw [List.length_set];omega)|skip
  all_goals first|(refine hK _ ?_;clear hK K)|(simp only [push_cast];done)
  refine zU rfl (fun hc=> ?_) (fun hc=> ?_)<;>(try simp only [push_cast]at hc)
  ·
   refine zV ?_
   (try simp only [zR,zS,reduceIte,zF]);refine hK2 _ ?_
   refine zT ?_
   have hlo:=hI.lo
   have hla:=hI.first (by rw [List.length_drop];omega)
   refine zL fun K hK=> ?_
   refine zM zQ zO [] rfl ?_
   all_goals simp only [push_cast,↓zK,↓zJ,↓reduceIte,zA,zB,zC,zD,zE,zF,zG,zH,zI,reduceCtorEq]
   all_goals repeat'(first|(apply zP<;>(intro hg;(try simp only [push_cast]at hg)))|apply And.intro|(intro hg;(try simp only [push_cast]at hg)))
   all_goals first|exact gA|(exact zN (by omega))|(rw [List.length_set];omega)|skip
   all_goals first|(refine hK _ ?_;clear hK K)|(simp only [push_cast];done)
   refine zL fun K hK=> ?_
   refine zM zQ zO [] rfl ?_
   all_goals simp only [push_cast,↓zK,↓zJ,↓reduceIte,zA,zB,zC,zD,zE,zF,zG,zH,zI,reduceCtorEq]
   all_goals repeat'(first|(apply zP<;>(intro hg;(try simp only [push_cast]at hg)))|apply And.intro|(intro hg;(try simp only [push_cast]at hg)))
   all_goals first|exact gA|(exact zN (by omega))|(rw [List.length_set];omega)|skip
   all_goals first|(refine hK _ ?_;clear hK K)|(simp only [push_cast];done)
   have hpop:=hI.popH (by rw [List.length_drop];omega)
   rw [List.drop_drop]at hpop
   rw [zAg]at hpop hla
   refine zL fun K hK=> ?_
   refine zM zQ zO [] rfl ?_
   all_goals simp only [push_cast,↓zK,↓zJ,↓reduceIte,zA,zB,zC,zD,zE,zF,zG,zH,zI,reduceCtorEq]
   all_goals repeat'(first|(apply zP<;>(intro hg;(try simp only [push_cast]at hg)))|apply And.intro|(intro hg;(try simp only [push_cast]at hg)))
   all_goals first|exact gA|(exact zN (by omega))|(rw [List.length_set];omega)|skip
   all_goals first|(refine hK _ ?_;clear hK K)|(simp only [push_cast];done)
   refine zT ?_
   obtain⟨x0,hx00⟩: ∃x0:Nat,gi qd o=(x0:Int):=⟨_,(Int.toNat_of_nonneg hla.1.1).symm⟩
   rw [hx00]
   rw [hx00,Int.toNat_natCast]at hla hpop
   have hx0n:x0<n:=by omega
   have hx0v:x0=v∨(x0<n∧gb out x0=true):=hla.2.imp id fun h=>⟨hx0n,h⟩
   obtain⟨M0,hM0⟩: ∃M0,2*(n - yj out n)+(qd.length - o)=M0:=⟨_,rfl⟩
   rw [hM0]at hMb
   refine zh [8,10,11,16,17,20,21,23,24,25,26,27,28,29,30,31,32,33,34,35,36,37,38,39,40,41,42,43,44,45,46,47,48,49,50,51,52,53,54,55,56,57,58,59,60] [112,128] (fun(p:Nat×List Bool×List Int×Nat)=> [(10, .int .i64 p.1),(7, .sl 112 [] 0 n 4),(8, .sl 128 [] p.2.2.2 (p.2.2.1.length - p.2.2.2) 2)]) (fun p=> []) (fun p=> [(112,⟨.ex,4,dB p.2.1,none⟩),(128,⟨.ex,2,dI p.2.2.1,none⟩)]) (fun p=>p.1≤(gl a.next x0).length∧ByI a.next ins n v (fun x j=>x=x0∧p.1≤j) p.2.1 (p.2.2.1.drop p.2.2.2)∧p.2.2.2≤p.2.2.1.length∧p.2.2.1.length≤1+yj p.2.1 n∧2*(n - yj p.2.1 n)+(p.2.2.1.length - p.2.2.2)<M0∧(x0=v∨(x0<n∧gb p.2.1 x0=true))) (fun p=>(gl a.next x0).length - p.1) (0,out,qd,o+1) ?_ ⟨Nat.zero_le _,hpop,by dsimp only;omega,hql,by dsimp only;omega,hx0v⟩ ?_
   ·
    (try rw [show qd.length - o - 1=qd.length - (o+1) by omega])
    refine zX rfl ?_ ?_ ?_<;>simp only [zg,zf,push_cast,↓zK,↓zJ,↓reduceIte,zA,zB,zC,zD,zE,zF,zG,zH,zI,reduceCtorEq]
   ·rintro⟨i,out,qd,o⟩ ⟨hi,hI2,hoq,hql,hM2,hx02⟩ KL1 hL1
    dsimp only at hi hI2 hoq hql hM2 hx02
    have hct0:=wx out n
    simp only [push_cast,↓zK,↓zJ,↓reduceIte,zA,zB,zC,zD,zE,zF,zG,zH,zI,reduceCtorEq]
    refine zL fun K3 hK3=> ?_
    refine zL fun K hK=> ?_
    refine zM zQ zO [] rfl ?_
    all_goals simp only [push_cast,↓zK,↓zJ,↓reduceIte,zA,zB,zC,zD,zE,zF,zG,zH,zI,reduceCtorEq]
    all_goals repeat'(first|(apply zP<;>(intro hg;(try simp only [push_cast]at hg)))|apply And.intro|(intro hg;(try simp only [push_cast]at hg)))
    all_goals first|exact gA|(exact zN (by omega))|(rw [List.length_set];omega)|skip
    all_goals first|(refine hK _ ?_;clear hK K)|(simp only [push_cast];done)
    refine zU rfl (fun hc=> ?_) (fun hc=> ?_)<;>(try simp only [push_cast]at hc)
    ·
     refine zV ?_
     (try simp only [zR,zS,reduceIte,zF]);refine hK3 _ ?_
     refine zL fun K4 hK4=> ?_
     refine zT ?_
     refine zL fun K hK=> ?_
     refine zM zQ zO [] rfl ?_
     all_goals simp only [push_cast,↓zK,↓zJ,↓reduceIte,zA,zB,zC,zD,zE,zF,zG,zH,zI,reduceCtorEq]
     all_goals repeat'(first|(apply zP<;>(intro hg;(try simp only [push_cast]at hg)))|apply And.intro|(intro hg;(try simp only [push_cast]at hg)))
     all_goals first|exact gA|(exact zN (by omega))|(rw [List.length_set];omega)|skip
     all_goals first|(refine hK _ ?_;clear hK K)|(simp only [push_cast];done)
     have hlo2:=hI2.lo
     have her:=hE9 x0 hx0n i (by omega)
     have hed:=hEd x0 hx0n
     refine zL fun K hK=> ?_
     refine za false zQ zO ?_ rfl ?_
     ·kernel_rfl
     all_goals simp only [push_cast,↓zK,↓zJ,↓reduceIte,zA,zB,zC,zD,zE,zF,zG,zH,zI,reduceCtorEq]
     all_goals repeat'(first|(apply zP<;>(intro hg;(try simp only [push_cast]at hg)))|apply And.intro|(intro hg;(try simp only [push_cast]at hg)))
     all_goals first|exact gA|(exact zN (by omega))|(rw [List.length_set];omega)|skip
     all_goals first|(refine hK _ ?_;clear hK K)|(simp only [push_cast];done)
     all_goals refine zU rfl (fun hc=> ?_) (fun hc=> ?_)
     all_goals(first|(cases hc;done)|skip)
     all_goals(try simp only [push_cast]at hc)
     all_goals first
      |(
        refine zV ?_
        (try simp only [zR,zS,reduceIte,zF]);refine hK4 _ ?_
        refine zM zQ zO [] rfl ?_
        all_goals simp only [push_cast,↓zK,↓zJ,↓reduceIte,zA,zB,zC,zD,zE,zF,zG,zH,zI,reduceCtorEq]
        all_goals repeat'(first|(apply zP<;>(intro hg;(try simp only [push_cast]at hg)))|apply And.intro|(intro hg;(try simp only [push_cast]at hg)))
        all_goals first|exact gA|(exact zN (by omega))|(rw [List.length_set];omega)|skip
        refine hL1 _ ⟨(i+1,out,qd,o),⟨by dsimp only;omega,hI2.skip (by first|exact .inl (by with_reducible assumption)|exact .inr (by with_reducible assumption)),hoq,hql,hM2,hx02⟩,by dsimp only;omega,?_⟩
        skip
        refine zX rfl ?_ ?_ ?_<;>simp only [zg,zf,push_cast,↓zK,↓zJ,↓reduceIte,zA,zB,zC,zD,zE,zF,zG,zH,zI,reduceCtorEq]
        all_goals first|rfl|(rw [zCW];done)|(simp [dI];done)|skip
        done)
      |(
        have hcs:=KB (l:=out) (u:=(gi (gl a.next x0) i).toNat) (by with_reducible assumption) (by omega) n (by omega)
        have hct:=wx (out.set (gi (gl a.next x0) i).toNat true) n
        refine zL fun K hK=> ?_
        refine zM zQ zO [] rfl ?_
        all_goals simp only [push_cast,↓zK,↓zJ,↓reduceIte,zA,zB,zC,zD,zE,zF,zG,zH,zI,reduceCtorEq]
        all_goals repeat'(first|(apply zP<;>(intro hg;(try simp only [push_cast]at hg)))|apply And.intro|(intro hg;(try simp only [push_cast]at hg)))
        all_goals first|exact gA|(exact zN (by omega))|(rw [List.length_set];omega)|skip
        all_goals first|(refine hK _ ?_;clear hK K)|(simp only [push_cast];done)
        refine zAF (aApS tyT) (zDb zQ) (some 60) zQ zO [] rfl ?_
        simp only [push_cast,↓zK,↓zJ,↓reduceIte,zA,zB,zC,zD,zE,zF,zG,zH,zI,reduceCtorEq]
        repeat'(first|apply And.intro|(intro pre hpre))
        all_goals first|exact True.intro|exact rfl|omega|with_reducible assumption|(simp only [Qg];omega)|(decide)|skip
        obtain⟨ps,hps,rfl⟩:=zJR hpre
        clear hpre
        simp only [push_cast,↓zK,↓zJ,↓reduceIte,zA,zB,zC,zD,zE,zF,zG,zH,zI,reduceCtorEq]
        all_goals repeat'(first|apply And.intro)
        all_goals first|exact True.intro|exact rfl|omega|skip
        obtain⟨hnl1,hnl2,hnl3⟩:=newlB (gi (gl a.next x0) i) hoq hps
        (try simp only [zR,zS,reduceIte,zF]);refine hK4 _ ?_
        refine zM zQ zO [] rfl ?_
        all_goals simp only [push_cast,↓zK,↓zJ,↓reduceIte,zA,zB,zC,zD,zE,zF,zG,zH,zI,reduceCtorEq]
        all_goals repeat'(first|(apply zP<;>(intro hg;(try simp only [push_cast]at hg)))|apply And.intro|(intro hg;(try simp only [push_cast]at hg)))
        all_goals first|exact gA|(exact zN (by omega))|(rw [List.length_set];omega)|skip
        refine hL1 _ ⟨(i+1,out.set (gi (gl a.next x0) i).toNat true,(ps++(qd.drop o++ [(gi (gl a.next x0) i)])),ps.length),⟨by dsimp only;omega,by dsimp only;rw [newqB];exact hI2.push hx02 (by omega) her (by with_reducible assumption),hnl3,by dsimp only;omega,by dsimp only;omega,hx02.imp id fun h=>⟨h.1,by rw [xI (by omega)];split;rfl;exact h.2⟩⟩,by dsimp only;omega,?_⟩
        rw [hnl2]
        refine zX rfl ?_ ?_ ?_<;>simp only [zg,zf,push_cast,↓zK,↓zJ,↓reduceIte,zA,zB,zC,zD,zE,zF,zG,zH,zI,reduceCtorEq]
        all_goals first|rfl|(rw [zCW];done)|(simp [dI];done)|skip
        done)
    ·
     refine zm ?_
     refine hL0 _ ⟨(out,qd,o),⟨hI2.done (by omega),hoq,hql,by dsimp only;omega⟩,by dsimp only;omega,?_⟩
     refine zX rfl ?_ ?_ ?_<;>simp only [zg,zf,push_cast,↓zK,↓zJ,↓reduceIte,zA,zB,zC,zD,zE,zF,zG,zH,zI,reduceCtorEq]
  ·
   refine zm ?_
   have hoe:o=qd.length:=by omega
   subst hoe
   rw [List.drop_length]at hI
   have hr9:=hfin out hI
   (try simp only [zR,zS,reduceIte,zF]);refine hK1 _ ?_
   refine zL fun K hK=> ?_
   refine zM zQ zO [] rfl ?_
   all_goals simp only [push_cast,↓zK,↓zJ,↓reduceIte,zA,zB,zC,zD,zE,zF,zG,zH,zI,reduceCtorEq]
   all_goals repeat'(first|(apply zP<;>(intro hg;(try simp only [push_cast]at hg)))|apply And.intro|(intro hg;(try simp only [push_cast]at hg)))
   all_goals first|exact gA|(exact zN (by omega))|(rw [List.length_set];omega)|skip
   all_goals first|(refine hK _ ?_;clear hK K)|(simp only [push_cast];done)
   refine zc ?_
   (try simp only [zR,zS])
   refine⟨Or.inl rfl,?_⟩
   simp only [zi,push_cast,↓zK,↓zJ,↓reduceIte,zA,zB,zC,zD,zE,zF,zG,zH,zI,reduceCtorEq]
   rw [hr9]
   all_goals first|rfl|exact⟨rfl,by omega⟩|(simp;done)
set_option maxRecDepth 20000 in
set_option maxHeartbeats 4000000 in
theorem zAt (n:Nat)(hn:n≤1048576)(xs:List Int)(hx:xs.length≤1048576):Fn Try.prog tyT 81 [.c (.int .i64 n), .c (DI xs)] [.c (.lst 4 (dB (xG n fun x=> !zn xs (x:Int))))]:=by
 refine yK (fn:=Try.f81) (ts:= [4]) Try.func81 (by kernel_rfl) rfl rfl (by rw [Try.ntmps81];exact Nat.le_of_ble_eq_true rfl) rfl (by simp only [szA,List.mem_cons,List.not_mem_nil,or_false,forall_eq_or_imp,forall_eq,VT.cells,szL];try decide) ?_
 rw [Try.ntmps81]
 simp only [push_cast,↓zK,↓zJ,↓reduceIte,zA,zB,zC,zD,zE,zF,zG,zH,zI,reduceCtorEq]
 refine zL fun K hK=> ?_
 refine zM zQ zO [] rfl ?_
 simp only [push_cast,↓zK,↓zJ,↓reduceIte,zA,zB,zC,zD,zE,zF,zG,zH,zI,reduceCtorEq]
 repeat' apply And.intro
 all_goals try exact gB
 all_goals first|(refine hK _ ?_;clear hK K)|(simp only [push_cast];done)
 refine zL fun K hK=> ?_
 refine zM zQ zO [] rfl ?_
 simp only [push_cast,↓zK,↓zJ,↓reduceIte,zA,zB,zC,zD,zE,zF,zG,zH,zI,reduceCtorEq]
 repeat' apply And.intro
 all_goals try exact gB
 all_goals first|(refine hK _ ?_;clear hK K)|(simp only [push_cast];done)
 refine zL fun K1 hK1=> ?_
 refine zL fun K hK=> ?_
 refine zM zQ zO [] rfl ?_
 simp only [push_cast,↓zK,↓zJ,↓reduceIte,zA,zB,zC,zD,zE,zF,zG,zH,zI,reduceCtorEq]
 repeat' apply And.intro
 all_goals try exact gB
 all_goals first|(refine hK _ ?_;clear hK K)|(simp only [push_cast];done)
 refine zT ?_
 refine zh [6,9,10,11,12,13,14,15,16,17,18,19,20] [80] (fun(k:Nat)=> [(6, .int .i64 k),(5, .sl 80 [] 0 n 4)]) (fun k=> []) (fun k=> [(80,⟨.ex,4,dB (mkB n (fun x=> !zn xs (x:Int)) k),none⟩)]) (fun k=>k≤n) (fun k=>n - k) 0 ?_ (by omega) ?_
 ·
  rw [zIE]
  refine zX rfl ?_ ?_ ?_<;>simp only [zg,zf,push_cast,↓zK,↓zJ,↓reduceIte,zA,zB,zC,zD,zE,zF,zG,zH,zI,reduceCtorEq]
  all_goals first|rfl|skip
 ·rintro k hk KL0 hL0
  have hml:=zC5 (n:=n) (f:=fun x=> !zn xs (x:Int)) (k:=k) hk
  simp only [push_cast,↓zK,↓zJ,↓reduceIte,zA,zB,zC,zD,zE,zF,zG,zH,zI,reduceCtorEq]
  refine zL fun K2 hK2=> ?_
  refine zL fun K hK=> ?_
  refine zM zQ zO [] rfl ?_
  simp only [push_cast,↓zK,↓zJ,↓reduceIte,zA,zB,zC,zD,zE,zF,zG,zH,zI,reduceCtorEq]
  repeat' apply And.intro
  all_goals try exact gB
  all_goals first|(refine hK _ ?_;clear hK K)|(simp only [push_cast];done)
  refine zU rfl (fun hc=> ?_) (fun hc=> ?_)<;>(try simp only [push_cast]at hc)
  ·
   refine zV ?_
   (try simp only [zR,zS,reduceIte,zF]);refine hK2 _ ?_
   refine zL fun K3 hK3=> ?_
   refine zT ?_
   have hst:(mkB n (fun x=> !zn xs (x:Int)) k).set k (!zn xs (k:Int))=mkB n (fun x=> !zn xs (x:Int)) (k+1):=zC6 (f:=fun x=> !zn xs (x:Int)) (by omega)
   refine zM zQ zO [] rfl ?_
   all_goals refine yz 5 fun K9 hK9=> ?_
   all_goals simp only [push_cast,↓zK,↓zJ,↓reduceIte,zA,zB,zC,zD,zE,zF,zG,zH,zI,reduceCtorEq]
   all_goals repeat'(first|(apply zP<;>(intro hg;(try simp only [push_cast]at hg)))|(refine⟨_,Xd xs (k:Int) hx,?_⟩;simp only [push_cast,↓zK,↓zJ,↓reduceIte,zA,zB,zC,zD,zE,zF,zG,zH,zI,reduceCtorEq])|apply And.intro|(intro hg;(try simp only [push_cast]at hg)))
   all_goals try exact gA
   all_goals first|(refine hK9 _ ?_;clear hK9 K9)|(simp only [push_cast];done)
   all_goals simp only [push_cast,↓zK,↓zJ,↓reduceIte,zA,zB,zC,zD,zE,zF,zG,zH,zI,reduceCtorEq]
   all_goals repeat'(first|(apply zP<;>(intro hg;(try simp only [push_cast]at hg)))|(refine⟨_,Xd xs (k:Int) hx,?_⟩;simp only [push_cast,↓zK,↓zJ,↓reduceIte,zA,zB,zC,zD,zE,zF,zG,zH,zI,reduceCtorEq])|apply And.intro|(intro hg;(try simp only [push_cast]at hg)))
   all_goals try exact gA
   (try simp only [zR,zS,reduceIte,zF]);refine hK3 _ ?_
   refine zM zQ zO [] rfl ?_
   simp only [push_cast,↓zK,↓zJ,↓reduceIte,zA,zB,zC,zD,zE,zF,zG,zH,zI,reduceCtorEq]
   repeat' apply And.intro
   all_goals try exact gB
   refine hL0 _ ⟨k+1,by omega,by omega,?_⟩
   refine zX rfl ?_ ?_ ?_<;>simp only [zg,zf,push_cast,↓zK,↓zJ,↓reduceIte,zA,zB,zC,zD,zE,zF,zG,zH,zI,reduceCtorEq]
   all_goals first|rfl|(rw [hst];done)|skip
  ·
   refine zm ?_
   have hkk:k=n:=by omega
   subst hkk
   rw [zJK]
   (try simp only [zR,zS,reduceIte,zF]);refine hK1 _ ?_
   refine zL fun K hK=> ?_
   refine zM zQ zO [] rfl ?_
   simp only [push_cast,↓zK,↓zJ,↓reduceIte,zA,zB,zC,zD,zE,zF,zG,zH,zI,reduceCtorEq]
   repeat' apply And.intro
   all_goals try exact gB
   all_goals first|(refine hK _ ?_;clear hK K)|(simp only [push_cast];done)
   refine zc ?_
   (try simp only [zR,zS])
   refine⟨Or.inl rfl,?_⟩
   simp only [zi,push_cast,↓zK,↓zJ,↓reduceIte,zA,zB,zC,zD,zE,zF,zG,zH,zI,reduceCtorEq]
   all_goals first|rfl|exact⟨rfl,by simp [xG]⟩|(simp [xG];done)
end Go.Proofs.Ytggpbepdeilpgaa
