/- MemoryWins: both sides -/
import Derived.Test.YtggpbepdeilpgaaB10zmw
import Derived.Test.YtggpbepdeilpgaaB13zmw
import Derived.Test.YtggpbepdeilpgaaR7zmw
namespace Go.Proofs.Ytggpbepdeilpgaa
open Nat renaming reduceMod → zA, reduceMul → zB, reduceDiv → zC, reduceAdd → zD, reduceSub → zE, reduceEqDiff → zF, reduceBEq → zG, reduceLT → zH, reduceLeDiff → zI
open Go.RowKit
set_option linter.unusedVariables false
set_option linter.unusedSimpArgs false
def opW (g:List Int)(P:List Plc)(k:Nat):List Bool:=mkB P.length (fun x=> !yR g (gq P x).at_) k
def shW (g:List Int)(P:List Plc)(k:Nat):List Bool:=mkB P.length (fun x=>yR g (gq P x).at_) k
theorem VG {g:List Int}{P:List Plc}{k:Nat}(h:k≤P.length):(opW g P k).length=P.length:=zAM h
theorem zAT {g:List Int}{P:List Plc}{k:Nat}(h:k≤P.length):(shW g P k).length=P.length:=zAM h
theorem zCQ {g:List Int}{P:List Plc}{x:Nat}(h:x<P.length):gb (opW g P P.length) x= !yR g (gq P x).at_:=by
 unfold opW
 rw [jb]
 exact Wx h
theorem zCg {g:List Int}{P:List Plc}{x:Nat}(h:x<P.length):gb (shW g P P.length) x=yR g (gq P x).at_:=by
 unfold shW
 rw [jb]
 exact Wx h
theorem uN (g:List Int)(P:List Plc):vu (shW g P P.length)=opW g P P.length:=by
 unfold vu shW opW
 rw [jb,jb,List.map_map]
 rfl
def ZL (X:List (List Int))(P:List Plc)(p:Pr)(x:Nat):Prop:=x<P.length∧yR p.ask (gq P x).at_=true∧ZR X (opW p.give P P.length) x
noncomputable def mwB (a:Ar)(ps:List Pr)(m:Me)(s:Int):Bool:= @decide (mmB a m s=true∧wU ps a.owner.length=true∧(∀x,x<(stM a m s 6145).length→¬(gl (rsM a m s (stM a m s 6145).length) x).length=0)∧∀i,i<ps.length→∀x,¬ZL (rsM a m s (stM a m s 6145).length) (stM a m s 6145) (gp ps i) x) (Classical.propDecidable _)
section
variable {a:Ar} {ps:List Pr} {m:Me} {s:Int}
theorem uL :mwB a ps m s=true↔(mmB a m s=true∧wU ps a.owner.length=true∧(∀x,x<(stM a m s 6145).length→¬(gl (rsM a m s (stM a m s 6145).length) x).length=0)∧∀i,i<ps.length→∀x,¬ZL (rsM a m s (stM a m s 6145).length) (stM a m s 6145) (gp ps i) x):=by
 unfold mwB
 exact @decide_eq_true_iff _ (Classical.propDecidable _)
theorem Wy (h: ¬(mmB a m s=true∧wU ps a.owner.length=true∧(∀x,x<(stM a m s 6145).length→¬(gl (rsM a m s (stM a m s 6145).length) x).length=0)∧∀i,i<ps.length→∀x,¬ZL (rsM a m s (stM a m s 6145).length) (stM a m s 6145) (gp ps i) x)):mwB a ps m s=false:=by
 cases hb:mwB a ps m s with
 |false=>rfl
 |true=>exact absurd (uL.1 hb) h
theorem Qe (h:mmB a m s=false):mwB a ps m s=false:=Wy fun h9=>by rw [h]at h9;cases h9.1
theorem zCL (h:wU ps a.owner.length=false):mwB a ps m s=false:=Wy fun h9=>by rw [h]at h9;cases h9.2.1
theorem zFT (h:arB ps a.owner.length=false):mwB a ps m s=false:=zCL (Xq h)
theorem zCM {x:Nat}(hx:x<(stM a m s 6145).length)(h:(gl (rsM a m s (stM a m s 6145).length) x).length=0):mwB a ps m s=false:=Wy fun h9=>h9.2.2.1 x hx h
theorem zCN {i x:Nat}(hi:i<ps.length)(h:ZL (rsM a m s (stM a m s 6145).length) (stM a m s 6145) (gp ps i) x):mwB a ps m s=false:=Wy fun h9=>h9.2.2.2 i hi x h
theorem zEm (h:ym a=true)(h2:arB ps a.owner.length=true):wU ps a.owner.length=true:=by
 have :=yi h
 rw [uV (by omega)]
 exact h2
theorem gl_rs {n x:Nat}(hx:x<n):gl (rsM a m s n) x=rwM a m s x:=by
 unfold gl rsM
 rw [List.getD_eq_getElem?_getD,List.getElem?_map,List.getElem?_range hx]
 rfl
theorem zBJ (h:MmI a m s){x:Nat}(hx:x<(stM a m s 6145).length):(gl (rsM a m s (stM a m s 6145).length) x).length=(usM a m (gq (stM a m s 6145) x)).length∧∀u∈gl (rsM a m s (stM a m s 6145).length) x,0≤u∧u<((stM a m s 6145).length:Nat):=by
 have hf:=Wm h 6145
 have hx2:x<(stM a m s x).length:=by
  rcases Nat.lt_or_ge x (stM a m s x).length with h1|h1
  ·exact h1
  ·have :=zA0 (a:=a) (m:=m) (s:=s) h (i:=x) (by omega) (by omega)
   rw [this]at hx
   omega
 have hq:gq (stM a m s 6145) x=gq (stM a m s x) x:=by
  have :=zAV (us:=usM a m) (rc:=rcM m) (p0:=⟨s,[0]⟩) (i:=x) hx2 (6145 - x)
  rw [show x+(6145 - x)=6145 by omega]at this
  exact this
 rw [gl_rs hx,hq]
 unfold rwM
 have hl:=(qn (r:=rcM m (gq (stM a m s x) x)) (us:=usM a m (gq (stM a m s x) x)) (ps:=stM a m s x) (k:=(usM a m (gq (stM a m s x) x)).length) (Nat.le_refl _)).1
 refine⟨hl,fun u hu=> ?_⟩
 obtain⟨j,hj,e⟩:=List.getElem_of_mem hu
 have h9:=(zCa (r:=rcM m (gq (stM a m s x) x)) (us:=usM a m (gq (stM a m s x) x)) (ps:=stM a m s x) (k:=(usM a m (gq (stM a m s x) x)).length) (Nat.le_refl _) j (by omega)).1
 rw [zA1 hj,e]at h9
 have h8:=ui (us:=usM a m) (rc:=rcM m) (p0:=⟨s,[0]⟩) (i:=x+1) (j:=6145) (by omega)
 have h7:=JO (a:=a) (m:=m) (s:=s) hx2
 unfold stM at h7 h8 h9⊢
 rw [h7]at h8
 omega
theorem zCZ (h:MmI a m s)(x:Nat):(gl (rsM a m s (stM a m s 6145).length) x).length≤16:=by
 rcases Nat.lt_or_ge x (stM a m s 6145).length with h1|h1
 ·rw [(zBJ h h1).1]
  exact(Qp h (qR h _ _ (vk h1))).1
 ·unfold gl
  rw [List.getD_eq_getElem?_getD,List.getElem?_eq_none (by rw [wo];exact h1)]
  exact Nat.zero_le _
theorem gr_M (h:MmI a m s){win:List Bool}(hw:win.length=(stM a m s 6145).length):Gr (rsM a m s (stM a m s 6145).length).length (rsM a m s (stM a m s 6145).length) win:=by
 refine⟨rfl,by rw [wo];exact hw,fun v u hu=> ?_⟩
 have hv:=Jr hu
 rw [wo]at hv⊢
 exact(zBJ h hv).2 u hu
theorem zES (h:MmI a m s){x:Nat}(hx:x<(stM a m s 6145).length)(h0:(gl (rsM a m s (stM a m s 6145).length) x).length=0):gi a.owner (gq (stM a m s 6145) x).at_.toNat=0:=by
 rw [(zBJ h hx).1]at h0
 by_cases ho:gi a.owner (gq (stM a m s 6145) x).at_.toNat=0
 ·exact ho
 ·rw [XI ho]at h0
  have hok:=qR h _ _ (vk hx)
  have :=(QH h.ar (v:=(gq (stM a m s 6145) x).at_.toNat) (by have :=hok.1;have :=hok.2.1;omega)).2.2.1
  omega
end
theorem zDF {X:List (List Int)}{P:List Plc}{p:Pr}(hX:X.length=P.length)(hg:Gr X.length X (opW p.give P P.length)){q:List Int}{y:Int}(hq:q∈qL (wk X (opW p.give P P.length)))(hy:y∈q)(ha:yR p.ask (gq P y.toNat).at_=true):ZL X P p y.toNat:=by
 obtain⟨h1,-⟩:=Jy hg
 obtain⟨h2,h3,h4⟩:=h1 q ((wY _).mem_iff.1 hq) y hy
 exact⟨by omega,ha,h4⟩
theorem zB7 {X:List (List Int)}{P:List Plc}{p:Pr}(hg:Gr X.length X (opW p.give P P.length))(h: ∀q∈qL (wk X (opW p.give P P.length)),∀y∈q,yR p.ask (gq P y.toNat).at_=false)(x:Nat): ¬ZL X P p x:=by
 rintro⟨-,h1,h2⟩
 obtain⟨-,h3,-⟩:=Jy hg
 obtain⟨q,h4,h5⟩:=h3 x h2
 have :=h q ((wY _).mem_iff.2 h4) _ h5
 rw [Int.toNat_natCast,h1]at this
 cases this
theorem zBL {X:List (List Int)}{win:List Bool}(hg:Gr X.length X win):(qL (wk X win)).length≤X.length∧(∀q∈qL (wk X win),q.length≤X.length)∧∀q∈qL (wk X win),∀y∈q,0≤y∧y<(X.length:Nat):=by
 obtain⟨h1,-,h3,h4⟩:=Jy hg
 refine⟨by rw [YQ];exact h3,fun q hq=>(h4 q ((wY _).mem_iff.1 hq)).2,fun q hq y hy=> ?_⟩
 have :=h1 q ((wY _).mem_iff.1 hq) y hy
 exact⟨this.1,this.2.1⟩
theorem glm {L:List (List Int)}{k:Nat}(h:k<L.length):gl L k∈L:=by
 unfold gl
 rw [List.getD_eq_getElem?_getD,List.getElem?_eq_getElem h]
 exact List.getElem_mem h
theorem zFQ {L:List (List Int)}{q:List Int}(h:q∈L): ∃k,k<L.length∧gl L k=q:=by
 obtain⟨k,hk,e⟩:=List.getElem_of_mem h
 refine⟨k,hk,?_⟩
 unfold gl
 rw [List.getD_eq_getElem?_getD,List.getElem?_eq_getElem hk]
 exact e
theorem zFP {q:List Int}{y:Int}(h:y∈q): ∃k,k<q.length∧gi q k=y:=by
 obtain⟨k,hk,e⟩:=List.getElem_of_mem h
 exact⟨k,hk,by rw [zA1 hk];exact e⟩
theorem kr {q:List Int}{k:Nat}(h:k<q.length):gi q k∈q:=by
 rw [zA1 h]
 exact List.getElem_mem h
set_option maxRecDepth 20000 in
set_option maxHeartbeats 8000000 in
theorem JX (a:Ar)(ha:a.Ln 1048576)(ps:List Pr)(hps:PLn 1048576 ps)(m:Me)(hm:m.Ln 1048576)(s:Int):Fn Try.prog tyT 12 [.agg (dAr a), .c (.lst 76 (dII (ilv ps))), .agg (dMe m), .c (.int .i64 s)] [.c (.bool (mwB a ps m s))]:=by
 have hno:=ha.owner
 unfold LnI at hno
 have hpl:=hps.1
 have hgp:=fun k=>Xa hps k
 have hga: ∀k,(gp ps k).ask.length≤1048576:=fun k=>(hgp k).ask
 have hgg: ∀k,(gp ps k).give.length≤1048576:=fun k=>(hgp k).give
 have hli:=Zb ps
 have hA:=uy a ha
 have hM:=fun h=>UR a ha h m hm
 have hV:=kv a s
 have hS:=zAU a
 have hPr:=UH ps hps a.owner.length
 have hW:=Ww a ha m hm s
 unfold dAr at hA hM hV hS hW
 unfold dMe at hM hW
 unfold dAr dMe
 refine yC (fn:=Try.f12) (ts:= [8]) Try.func12 (by kernel_rfl) rfl rfl (by rw [Try.ntmps12];exact Nat.le_of_ble_eq_true rfl) rfl (by simp only [szA,List.mem_cons,List.not_mem_nil,or_false,forall_eq_or_imp,forall_eq,VT.cells,szL];try decide) ?_
 rw [Try.ntmps12]
 simp only [push_cast,↓zK,↓zJ,↓reduceIte,zA,zB,zC,zD,zE,zF,zG,zH,zI,reduceCtorEq]
 refine zL fun K hK=> ?_
 refine zM zQ zO [] rfl ?_
 all_goals simp only [push_cast,↓zK,↓zJ,↓reduceIte,zA,zB,zC,zD,zE,zF,zG,zH,zI,reduceCtorEq]
 all_goals repeat'(first|(apply zP<;>(intro hg;(try simp only [push_cast]at hg)))|apply And.intro|(intro hg;(try simp only [push_cast]at hg)))
 all_goals first|exact gA|(exact zR (by omega))|(exact zN (by simp only [push_cast];omega))|(exact zN (by omega))|skip
 all_goals first|(refine hK _ ?_;clear hK K)|(simp only [push_cast];done)
 refine zL fun K1 hK1=> ?_
 refine zL fun K hK=> ?_
 refine zf false zQ zO ?_ rfl ?_
 ·kernel_rfl
 all_goals refine yE 2 fun K9 hK9=> ?_
 all_goals simp only [push_cast,↓zK,↓zJ,↓reduceIte,zA,zB,zC,zD,zE,zF,zG,zH,zI,reduceCtorEq]
 all_goals repeat'(first|(apply zP<;>(intro hg;(try simp only [push_cast]at hg)))|(refine⟨_,hA,?_⟩;simp only [push_cast,↓zK,↓zJ,↓reduceIte,zA,zB,zC,zD,zE,zF,zG,zH,zI,reduceCtorEq])|(refine⟨_,hM (yi (by with_reducible assumption)).2.2,?_⟩;simp only [push_cast,↓zK,↓zJ,↓reduceIte,zA,zB,zC,zD,zE,zF,zG,zH,zI,reduceCtorEq])|(refine⟨_,hS,?_⟩;simp only [push_cast,↓zK,↓zJ,↓reduceIte,zA,zB,zC,zD,zE,zF,zG,zH,zI,reduceCtorEq])|(refine⟨_,hPr,?_⟩;simp only [push_cast,↓zK,↓zJ,↓reduceIte,zA,zB,zC,zD,zE,zF,zG,zH,zI,reduceCtorEq])|(refine⟨_,hV,?_⟩;simp only [push_cast,↓zK,↓zJ,↓reduceIte,zA,zB,zC,zD,zE,zF,zG,zH,zI,reduceCtorEq])|apply And.intro|(intro hg;(try simp only [push_cast]at hg)))
 all_goals first|exact gA|(exact zR (by omega))|(exact zN (by simp only [push_cast];omega))|(exact zN (by omega))|skip
 all_goals first|(refine hK9 _ ?_;clear hK9 K9)|(simp only [push_cast];done)
 all_goals refine yE 5 fun K9 hK9=> ?_
 all_goals simp only [push_cast,↓zK,↓zJ,↓reduceIte,zA,zB,zC,zD,zE,zF,zG,zH,zI,reduceCtorEq]
 all_goals repeat'(first|(apply zP<;>(intro hg;(try simp only [push_cast]at hg)))|(refine⟨_,hA,?_⟩;simp only [push_cast,↓zK,↓zJ,↓reduceIte,zA,zB,zC,zD,zE,zF,zG,zH,zI,reduceCtorEq])|(refine⟨_,hM (yi (by with_reducible assumption)).2.2,?_⟩;simp only [push_cast,↓zK,↓zJ,↓reduceIte,zA,zB,zC,zD,zE,zF,zG,zH,zI,reduceCtorEq])|(refine⟨_,hS,?_⟩;simp only [push_cast,↓zK,↓zJ,↓reduceIte,zA,zB,zC,zD,zE,zF,zG,zH,zI,reduceCtorEq])|(refine⟨_,hPr,?_⟩;simp only [push_cast,↓zK,↓zJ,↓reduceIte,zA,zB,zC,zD,zE,zF,zG,zH,zI,reduceCtorEq])|(refine⟨_,hV,?_⟩;simp only [push_cast,↓zK,↓zJ,↓reduceIte,zA,zB,zC,zD,zE,zF,zG,zH,zI,reduceCtorEq])|apply And.intro|(intro hg;(try simp only [push_cast]at hg)))
 all_goals first|exact gA|(exact zR (by omega))|(exact zN (by simp only [push_cast];omega))|(exact zN (by omega))|skip
 all_goals first|(refine hK9 _ ?_;clear hK9 K9)|(simp only [push_cast];done)
 all_goals refine yE 6 fun K9 hK9=> ?_
 all_goals simp only [push_cast,↓zK,↓zJ,↓reduceIte,zA,zB,zC,zD,zE,zF,zG,zH,zI,reduceCtorEq]
 all_goals repeat'(first|(apply zP<;>(intro hg;(try simp only [push_cast]at hg)))|(refine⟨_,hA,?_⟩;simp only [push_cast,↓zK,↓zJ,↓reduceIte,zA,zB,zC,zD,zE,zF,zG,zH,zI,reduceCtorEq])|(refine⟨_,hM (yi (by with_reducible assumption)).2.2,?_⟩;simp only [push_cast,↓zK,↓zJ,↓reduceIte,zA,zB,zC,zD,zE,zF,zG,zH,zI,reduceCtorEq])|(refine⟨_,hS,?_⟩;simp only [push_cast,↓zK,↓zJ,↓reduceIte,zA,zB,zC,zD,zE,zF,zG,zH,zI,reduceCtorEq])|(refine⟨_,hPr,?_⟩;simp only [push_cast,↓zK,↓zJ,↓reduceIte,zA,zB,zC,zD,zE,zF,zG,zH,zI,reduceCtorEq])|(refine⟨_,hV,?_⟩;simp only [push_cast,↓zK,↓zJ,↓reduceIte,zA,zB,zC,zD,zE,zF,zG,zH,zI,reduceCtorEq])|apply And.intro|(intro hg;(try simp only [push_cast]at hg)))
 all_goals first|exact gA|(exact zR (by omega))|(exact zN (by simp only [push_cast];omega))|(exact zN (by omega))|skip
 all_goals first|(refine hK9 _ ?_;clear hK9 K9)|(simp only [push_cast];done)
 all_goals refine yE 1 fun K9 hK9=> ?_
 all_goals simp only [push_cast,↓zK,↓zJ,↓reduceIte,zA,zB,zC,zD,zE,zF,zG,zH,zI,reduceCtorEq]
 all_goals repeat'(first|(apply zP<;>(intro hg;(try simp only [push_cast]at hg)))|(refine⟨_,hA,?_⟩;simp only [push_cast,↓zK,↓zJ,↓reduceIte,zA,zB,zC,zD,zE,zF,zG,zH,zI,reduceCtorEq])|(refine⟨_,hM (yi (by with_reducible assumption)).2.2,?_⟩;simp only [push_cast,↓zK,↓zJ,↓reduceIte,zA,zB,zC,zD,zE,zF,zG,zH,zI,reduceCtorEq])|(refine⟨_,hS,?_⟩;simp only [push_cast,↓zK,↓zJ,↓reduceIte,zA,zB,zC,zD,zE,zF,zG,zH,zI,reduceCtorEq])|(refine⟨_,hPr,?_⟩;simp only [push_cast,↓zK,↓zJ,↓reduceIte,zA,zB,zC,zD,zE,zF,zG,zH,zI,reduceCtorEq])|(refine⟨_,hV,?_⟩;simp only [push_cast,↓zK,↓zJ,↓reduceIte,zA,zB,zC,zD,zE,zF,zG,zH,zI,reduceCtorEq])|apply And.intro|(intro hg;(try simp only [push_cast]at hg)))
 all_goals first|exact gA|(exact zR (by omega))|(exact zN (by simp only [push_cast];omega))|(exact zN (by omega))|skip
 all_goals first|(refine hK9 _ ?_;clear hK9 K9)|(simp only [push_cast];done)
 all_goals refine yE 6 fun K9 hK9=> ?_
 all_goals simp only [push_cast,↓zK,↓zJ,↓reduceIte,zA,zB,zC,zD,zE,zF,zG,zH,zI,reduceCtorEq]
 all_goals repeat'(first|(apply zP<;>(intro hg;(try simp only [push_cast]at hg)))|(refine⟨_,hA,?_⟩;simp only [push_cast,↓zK,↓zJ,↓reduceIte,zA,zB,zC,zD,zE,zF,zG,zH,zI,reduceCtorEq])|(refine⟨_,hM (yi (by with_reducible assumption)).2.2,?_⟩;simp only [push_cast,↓zK,↓zJ,↓reduceIte,zA,zB,zC,zD,zE,zF,zG,zH,zI,reduceCtorEq])|(refine⟨_,hS,?_⟩;simp only [push_cast,↓zK,↓zJ,↓reduceIte,zA,zB,zC,zD,zE,zF,zG,zH,zI,reduceCtorEq])|(refine⟨_,hPr,?_⟩;simp only [push_cast,↓zK,↓zJ,↓reduceIte,zA,zB,zC,zD,zE,zF,zG,zH,zI,reduceCtorEq])|(refine⟨_,hV,?_⟩;simp only [push_cast,↓zK,↓zJ,↓reduceIte,zA,zB,zC,zD,zE,zF,zG,zH,zI,reduceCtorEq])|apply And.intro|(intro hg;(try simp only [push_cast]at hg)))
 all_goals first|exact gA|(exact zR (by omega))|(exact zN (by simp only [push_cast];omega))|(exact zN (by omega))|skip
 all_goals first|(refine hK9 _ ?_;clear hK9 K9)|(simp only [push_cast];done)
 all_goals simp only [push_cast,↓zK,↓zJ,↓reduceIte,zA,zB,zC,zD,zE,zF,zG,zH,zI,reduceCtorEq]
 all_goals repeat'(first|(apply zP<;>(intro hg;(try simp only [push_cast]at hg)))|(refine⟨_,hA,?_⟩;simp only [push_cast,↓zK,↓zJ,↓reduceIte,zA,zB,zC,zD,zE,zF,zG,zH,zI,reduceCtorEq])|(refine⟨_,hM (yi (by with_reducible assumption)).2.2,?_⟩;simp only [push_cast,↓zK,↓zJ,↓reduceIte,zA,zB,zC,zD,zE,zF,zG,zH,zI,reduceCtorEq])|(refine⟨_,hS,?_⟩;simp only [push_cast,↓zK,↓zJ,↓reduceIte,zA,zB,zC,zD,zE,zF,zG,zH,zI,reduceCtorEq])|(refine⟨_,hPr,?_⟩;simp only [push_cast,↓zK,↓zJ,↓reduceIte,zA,zB,zC,zD,zE,zF,zG,zH,zI,reduceCtorEq])|(refine⟨_,hV,?_⟩;simp only [push_cast,↓zK,↓zJ,↓reduceIte,zA,zB,zC,zD,zE,zF,zG,zH,zI,reduceCtorEq])|apply And.intro|(intro hg;(try simp only [push_cast]at hg)))
 all_goals first|exact gA|(exact zR (by omega))|(exact zN (by simp only [push_cast];omega))|(exact zN (by omega))|skip
 all_goals first|(refine hK _ ?_;clear hK K)|(simp only [push_cast];done)
 all_goals refine zU rfl (fun hc=> ?_) (fun hc=> ?_)
 all_goals(first|(cases hc;done)|skip)
 all_goals(try simp only [push_cast]at hc)
 all_goals try(
   refine zL fun K hK=> ?_
   refine zM zQ zO [] rfl ?_
   all_goals simp only [push_cast,↓zK,↓zJ,↓reduceIte,zA,zB,zC,zD,zE,zF,zG,zH,zI,reduceCtorEq]
   all_goals repeat'(first|(apply zP<;>(intro hg;(try simp only [push_cast]at hg)))|apply And.intro|(intro hg;(try simp only [push_cast]at hg)))
   all_goals first|exact gA|(exact zR (by omega))|(exact zN (by simp only [push_cast];omega))|(exact zN (by omega))|skip
   all_goals first|(refine hK _ ?_;clear hK K)|(simp only [push_cast];done)
   refine za ?_
   (try simp only [zS,zT])
   refine⟨Or.inl rfl,?_⟩
   simp only [ze,push_cast,↓zK,↓zJ,↓reduceIte,zA,zB,zC,zD,zE,zF,zG,zH,zI,reduceCtorEq]
   rw [show mwB a ps m s=false from by first|exact Qe (zGo (by with_reducible assumption))|exact Qe (zGp (by with_reducible assumption))|exact zFT (by with_reducible assumption)|exact Qe (zCJ (by omega))]
   all_goals first|rfl|skip
   done)
 refine zV ?_
 (try simp only [zS,zT,reduceIte,zF]);refine hK1 _ ?_
 have hB:mmB a m s=true:=zCK (by with_reducible assumption) (by with_reducible assumption) (by omega)
 have hPB:wU ps a.owner.length=true:=zEm (by with_reducible assumption) (by with_reducible assumption)
 refine zL fun K hK=> ?_
 refine zM zQ zO [] rfl ?_
 all_goals refine vF 4 fun K9 hK9=> ?_
 all_goals simp only [push_cast,↓zK,↓zJ,↓reduceIte,zA,zB,zC,zD,zE,zF,zG,zH,zI,reduceCtorEq]
 all_goals repeat'(first|(apply zP<;>(intro hg;(try simp only [push_cast]at hg)))|(refine⟨_,hW (XB hB),?_⟩;simp only [push_cast,↓zK,↓zJ,↓reduceIte,zA,zB,zC,zD,zE,zF,zG,zH,zI,reduceCtorEq])|apply And.intro|(intro hg;(try simp only [push_cast]at hg)))
 all_goals first|exact gA|(exact zR (by omega))|(exact zN (by simp only [push_cast];omega))|(exact zN (by omega))|skip
 all_goals first|(refine hK9 _ ?_;clear hK9 K9)|(simp only [push_cast];done)
 all_goals simp only [push_cast,↓zK,↓zJ,↓reduceIte,zA,zB,zC,zD,zE,zF,zG,zH,zI,reduceCtorEq]
 all_goals repeat'(first|(apply zP<;>(intro hg;(try simp only [push_cast]at hg)))|(refine⟨_,hW (XB hB),?_⟩;simp only [push_cast,↓zK,↓zJ,↓reduceIte,zA,zB,zC,zD,zE,zF,zG,zH,zI,reduceCtorEq])|apply And.intro|(intro hg;(try simp only [push_cast]at hg)))
 all_goals first|exact gA|(exact zR (by omega))|(exact zN (by simp only [push_cast];omega))|(exact zN (by omega))|skip
 all_goals first|(refine hK _ ?_;clear hK K)|(simp only [push_cast];done)
 refine zL fun K2 hK2=> ?_
 have hI9:=XB hB
 have hno3:=fun x=>zCM (a:=a) (ps:=ps) (m:=m) (s:=s) (x:=x)
 have hno4:=fun i x=>zCN (a:=a) (ps:=ps) (m:=m) (s:=s) (i:=i) (x:=x)
 have hyes:=fun h1 h2=>(uL (a:=a) (ps:=ps) (m:=m) (s:=s)).2 ⟨hB,hPB,h1,h2⟩
 have hfew:=Wm hI9 6145
 have hXl:=wo a m s (stM a m s 6145).length
 have hX16:=zCZ hI9
 have hXg:=fun win h=>gr_M (win:=win) hI9 h
 have hown:=fun x hx h0=>zES (x:=x) hI9 hx h0
 have hok:=qR hI9 6145
 have hq:QLn 1048576 (stM a m s 6145):=⟨by omega,fun p hp=>by rw [(hok p hp).2.2.1];show 1≤1048576;decide⟩
 have hat: ∀x,x<(stM a m s 6145).length→0≤(gq (stM a m s 6145) x).at_∧(gq (stM a m s 6145) x).at_<a.owner.length:=fun x hx=>⟨(hok _ (vk hx)).1,(hok _ (vk hx)).2.1⟩
 clear hok
 generalize stM a m s 6145=P at*
 generalize rsM a m s P.length=X at*
 refine zL fun K hK=> ?_
 refine zM zQ zO [] rfl ?_
 all_goals simp only [push_cast,↓zK,↓zJ,↓reduceIte,zA,zB,zC,zD,zE,zF,zG,zH,zI,reduceCtorEq]
 all_goals repeat'(first|(apply zP<;>(intro hg;(try simp only [push_cast]at hg)))|apply And.intro|(intro hg;(try simp only [push_cast]at hg)))
 all_goals first|exact gA|(exact zR (by omega))|(exact zN (by simp only [push_cast];omega))|(exact zN (by omega))|skip
 all_goals first|(refine hK _ ?_;clear hK K)|(simp only [push_cast];done)
 refine zX ?_
 refine zn [8,11,12,25,31,38,53,54,55,56,57,58,59,60,61,62,63,64,65,66,67,68,69,70,71,72,73] [] (fun(x0:Nat)=> [(53, .int .i64 x0)]) (fun x0=> []) (fun x0=> []) (fun x0=>x0≤P.length∧∀x,x<x0→¬(gl X x).length=0) (fun x0=>P.length - x0) 0 ?_ ⟨by omega,fun x hx=>by omega⟩ ?_
 ·
  refine zb rfl ?_ ?_ ?_<;>simp only [zj,zi,push_cast,↓zK,↓zJ,↓reduceIte,zA,zB,zC,zD,zE,zF,zG,zH,zI,reduceCtorEq]
 ·rintro x0 ⟨hx0,hal⟩ KL0 hL0
  simp only [push_cast,↓zK,↓zJ,↓reduceIte,zA,zB,zC,zD,zE,zF,zG,zH,zI,reduceCtorEq]
  refine zL fun K hK=> ?_
  refine zM zQ zO [] rfl ?_
  all_goals simp only [push_cast,↓zK,↓zJ,↓reduceIte,zA,zB,zC,zD,zE,zF,zG,zH,zI,reduceCtorEq]
  all_goals repeat'(first|(apply zP<;>(intro hg;(try simp only [push_cast]at hg)))|apply And.intro|(intro hg;(try simp only [push_cast]at hg)))
  all_goals first|exact gA|(exact zR (by omega))|(exact zN (by simp only [push_cast];omega))|(exact zN (by omega))|skip
  all_goals first|(refine hK _ ?_;clear hK K)|(simp only [push_cast];done)
  refine zL fun K3 hK3=> ?_
  refine zU rfl (fun hc=> ?_) (fun hc=> ?_)<;>(try simp only [push_cast]at hc)
  ·
   refine zV ?_
   (try simp only [zS,zT,reduceIte,zF]);refine hK3 _ ?_
   refine zL fun K4 hK4=> ?_
   refine zX ?_
   refine zL fun K hK=> ?_
   refine zM zQ zO [] rfl ?_
   all_goals simp only [push_cast,↓zK,↓zJ,↓reduceIte,zA,zB,zC,zD,zE,zF,zG,zH,zI,reduceCtorEq]
   all_goals repeat'(first|(apply zP<;>(intro hg;(try simp only [push_cast]at hg)))|apply And.intro|(intro hg;(try simp only [push_cast]at hg)))
   all_goals first|exact gA|(exact zR (by omega))|(exact zN (by simp only [push_cast];omega))|(exact zN (by omega))|skip
   all_goals first|(refine hK _ ?_;clear hK K)|(simp only [push_cast];done)
   have hati:=hat x0 (by omega)
   have hx16:=hX16 x0
   by_cases hq0:(gl X x0).length=0
   ·
    have ho9:=hown x0 (by omega) hq0
    refine zL fun K hK=> ?_
    refine zf false zQ zO ?_ rfl ?_
    ·kernel_rfl
    all_goals simp only [push_cast,↓zK,↓zJ,↓reduceIte,zA,zB,zC,zD,zE,zF,zG,zH,zI,reduceCtorEq]
    all_goals repeat'(first|(apply zP<;>(intro hg;(try simp only [push_cast]at hg)))|apply And.intro|(intro hg;(try simp only [push_cast]at hg)))
    all_goals first|exact gA|(exact zR (by omega))|(exact zN (by simp only [push_cast];omega))|(exact zN (by omega))|skip
    all_goals first|(refine hK _ ?_;clear hK K)|(simp only [push_cast];done)
    all_goals(
      refine zU rfl (fun hc=> ?_) (fun hc=> ?_)
      rotate_left
      ·exfalso;first|(cases hc;done)|omega|exact absurd (show((gl X x0).length:Int)=0 by omega) (ne_of_beq_false hc)
      refine zL fun K hK=> ?_
      refine zM zQ zO [] rfl ?_
      all_goals simp only [push_cast,↓zK,↓zJ,↓reduceIte,zA,zB,zC,zD,zE,zF,zG,zH,zI,reduceCtorEq]
      all_goals repeat'(first|(apply zP<;>(intro hg;(try simp only [push_cast]at hg)))|apply And.intro|(intro hg;(try simp only [push_cast]at hg)))
      all_goals first|exact gA|(exact zR (by omega))|(exact zN (by simp only [push_cast];omega))|(exact zN (by omega))|skip
      all_goals first|(refine hK _ ?_;clear hK K)|(simp only [push_cast];done)
      refine za ?_
      (try simp only [zS,zT])
      refine⟨Or.inl rfl,?_⟩
      simp only [ze,push_cast,↓zK,↓zJ,↓reduceIte,zA,zB,zC,zD,zE,zF,zG,zH,zI,reduceCtorEq]
      rw [hno3 x0 (by omega) hq0])
   ·
    refine zL fun K hK=> ?_
    refine zf false zQ zO ?_ rfl ?_
    ·kernel_rfl
    all_goals simp only [push_cast,↓zK,↓zJ,↓reduceIte,zA,zB,zC,zD,zE,zF,zG,zH,zI,reduceCtorEq]
    all_goals repeat'(first|(apply zP<;>(intro hg;(try simp only [push_cast]at hg)))|apply And.intro|(intro hg;(try simp only [push_cast]at hg)))
    all_goals first|exact gA|(exact zR (by omega))|(exact zN (by simp only [push_cast];omega))|(exact zN (by omega))|skip
    all_goals first|(refine hK _ ?_;clear hK K)|(simp only [push_cast];done)
    all_goals(
      refine zU rfl (fun hc=> ?_) (fun hc=> ?_)
      skip
      ·exfalso;first|(cases hc;done)|omega|(have h9:=eq_of_beq hc;omega)
      refine zV ?_
      (try simp only [zS,zT,reduceIte,zF]);refine hK4 _ ?_
      refine zM zQ zO [] rfl ?_
      all_goals simp only [push_cast,↓zK,↓zJ,↓reduceIte,zA,zB,zC,zD,zE,zF,zG,zH,zI,reduceCtorEq]
      all_goals repeat'(first|(apply zP<;>(intro hg;(try simp only [push_cast]at hg)))|apply And.intro|(intro hg;(try simp only [push_cast]at hg)))
      all_goals first|exact gA|(exact zR (by omega))|(exact zN (by simp only [push_cast];omega))|(exact zN (by omega))|skip
      refine hL0 _ ⟨x0+1,⟨by omega,fun x hx=>(by
        by_cases e:x=x0
        ·subst e;exact hq0
        ·exact hal x (by omega))⟩,by omega,?_⟩
      refine zb rfl ?_ ?_ ?_<;>simp only [zj,zi,push_cast,↓zK,↓zJ,↓reduceIte,zA,zB,zC,zD,zE,zF,zG,zH,zI,reduceCtorEq])
  ·
   refine zp ?_
   have hxx:x0=P.length:=by omega
   subst hxx
   (try simp only [zS,zT,reduceIte,zF]);refine hK2 _ ?_
   refine zL fun K5 hK5=> ?_
   refine zL fun K hK=> ?_
   refine zM zQ zO [] rfl ?_
   all_goals simp only [push_cast,↓zK,↓zJ,↓reduceIte,zA,zB,zC,zD,zE,zF,zG,zH,zI,reduceCtorEq]
   all_goals repeat'(first|(apply zP<;>(intro hg;(try simp only [push_cast]at hg)))|apply And.intro|(intro hg;(try simp only [push_cast]at hg)))
   all_goals first|exact gA|(exact zR (by omega))|(exact zN (by simp only [push_cast];omega))|(exact zN (by omega))|skip
   all_goals first|(refine hK _ ?_;clear hK K)|(simp only [push_cast];done)
   refine zX ?_
   refine zn [8,14,15,16,17,19,21,25,31,38,65,76,77,78,79,80,81,82,83,84,85,86,87,88,89,90,91,92,93,94,95,96,97,98,99,100,101,102,103,104,105,106,107,108,109,110,111,112,113,114,115,116,117,118,119,120,121,122,123,124] [] (fun(i:Nat)=> [(76, .int .i64 i)]) (fun i=> []) (fun i=> []) (fun i=>i≤ps.length∧∀k,k<i→∀x,¬ZL X P (gp ps k) x) (fun i=>ps.length - i) 0 ?_ ⟨by omega,fun k hk=>by omega⟩ ?_
   ·
    refine zb rfl ?_ ?_ ?_<;>simp only [zj,zi,push_cast,↓zK,↓zJ,↓reduceIte,zA,zB,zC,zD,zE,zF,zG,zH,zI,reduceCtorEq]
   ·rintro i ⟨hi,hall⟩ KL1 hL1
    simp only [push_cast,↓zK,↓zJ,↓reduceIte,zA,zB,zC,zD,zE,zF,zG,zH,zI,reduceCtorEq]
    refine zL fun K hK=> ?_
    refine zM zQ zO [] rfl ?_
    all_goals simp only [push_cast,↓zK,↓zJ,↓reduceIte,zA,zB,zC,zD,zE,zF,zG,zH,zI,reduceCtorEq]
    all_goals repeat'(first|(apply zP<;>(intro hg;(try simp only [push_cast]at hg)))|apply And.intro|(intro hg;(try simp only [push_cast]at hg)))
    all_goals first|exact gA|(exact zR (by omega))|(exact zN (by simp only [push_cast];omega))|(exact zN (by omega))|skip
    all_goals first|(refine hK _ ?_;clear hK K)|(simp only [push_cast];done)
    refine zL fun K6 hK6=> ?_
    refine zU rfl (fun hc=> ?_) (fun hc=> ?_)<;>(try simp only [push_cast]at hc)
    ·
     refine zV ?_
     (try simp only [zS,zT,reduceIte,zF]);refine hK6 _ ?_
     refine zL fun K7 hK7=> ?_
     refine zX ?_
     refine zL fun K hK=> ?_
     refine zM zQ zO [] rfl ?_
     all_goals simp only [push_cast,↓zK,↓zJ,↓reduceIte,zA,zB,zC,zD,zE,zF,zG,zH,zI,reduceCtorEq]
     all_goals repeat'(first|(apply zP<;>(intro hg;(try simp only [push_cast]at hg)))|apply And.intro|(intro hg;(try simp only [push_cast]at hg)))
     all_goals first|exact gA|(exact zR (by omega))|(exact zN (by simp only [push_cast];omega))|(exact zN (by omega))|skip
     all_goals first|(refine hK _ ?_;clear hK K)|(simp only [push_cast];done)
     refine zL fun K hK=> ?_
     refine zM zQ zO [] rfl ?_
     all_goals simp only [push_cast,↓zK,↓zJ,↓reduceIte,zA,zB,zC,zD,zE,zF,zG,zH,zI,reduceCtorEq]
     all_goals repeat'(first|(apply zP<;>(intro hg;(try simp only [push_cast]at hg)))|apply And.intro|(intro hg;(try simp only [push_cast]at hg)))
     all_goals first|exact gA|(exact zR (by omega))|(exact zN (by simp only [push_cast];omega))|(exact zN (by omega))|skip
     all_goals first|(refine hK _ ?_;clear hK K)|(simp only [push_cast];done)
     refine zL fun K8 hK8=> ?_
     refine zL fun K hK=> ?_
     refine zM zQ zO [] rfl ?_
     all_goals simp only [push_cast,↓zK,↓zJ,↓reduceIte,zA,zB,zC,zD,zE,zF,zG,zH,zI,reduceCtorEq]
     all_goals repeat'(first|(apply zP<;>(intro hg;(try simp only [push_cast]at hg)))|apply And.intro|(intro hg;(try simp only [push_cast]at hg)))
     all_goals first|exact gA|(exact zR (by omega))|(exact zN (by simp only [push_cast];omega))|(exact zN (by omega))|skip
     all_goals first|(refine hK _ ?_;clear hK K)|(simp only [push_cast];done)
     refine zX ?_
     refine zn [14,16,17,25,31,38,65,85,86,87,88,89,90,91,92,93,94,95,96,97,98,99] [240] (fun(j:Nat)=> [(85, .int .i64 j),(15, .sl 240 [] 0 P.length 4),(14, .bp 14 0)]) (fun j=> [(14,[.sl 16 [i*2] 0 (gp ps i).ask.length 2, .sl 16 [i*2+1] 0 (gp ps i).give.length 2])]) (fun j=> [(240,⟨.ex,4,dB (opW (gp ps i).give P j),none⟩)]) (fun j=>j≤P.length) (fun j=>P.length - j) 0 ?_ (by omega) ?_
     ·
      rw [show opW (gp ps i).give P 0=List.replicate P.length false from zER _ _]
      refine zb rfl ?_ ?_ ?_<;>simp only [zj,zi,push_cast,↓zK,↓zJ,↓reduceIte,zA,zB,zC,zD,zE,zF,zG,zH,zI,reduceCtorEq]
      all_goals first|rfl|skip
     ·rintro j hj KL2 hL2
      have hol:=VG (g:=(gp ps i).give) (P:=P) (k:=j) hj
      simp only [push_cast,↓zK,↓zJ,↓reduceIte,zA,zB,zC,zD,zE,zF,zG,zH,zI,reduceCtorEq]
      refine zL fun K hK=> ?_
      refine zM zQ zO [] rfl ?_
      all_goals simp only [push_cast,↓zK,↓zJ,↓reduceIte,zA,zB,zC,zD,zE,zF,zG,zH,zI,reduceCtorEq]
      all_goals repeat'(first|(apply zP<;>(intro hg;(try simp only [push_cast]at hg)))|apply And.intro|(intro hg;(try simp only [push_cast]at hg)))
      all_goals first|exact gA|(exact zR (by omega))|(exact zN (by simp only [push_cast];omega))|(exact zN (by omega))|skip
      all_goals first|(refine hK _ ?_;clear hK K)|(simp only [push_cast];done)
      refine zL fun K9 hK9=> ?_
      refine zU rfl (fun hc=> ?_) (fun hc=> ?_)<;>(try simp only [push_cast]at hc)
      ·
       refine zV ?_
       (try simp only [zS,zT,reduceIte,zF]);refine hK9 _ ?_
       refine zL fun K10 hK10=> ?_
       refine zX ?_
       refine zL fun K hK=> ?_
       refine zM zQ zO [] rfl ?_
       all_goals simp only [push_cast,↓zK,↓zJ,↓reduceIte,zA,zB,zC,zD,zE,zF,zG,zH,zI,reduceCtorEq]
       all_goals repeat'(first|(apply zP<;>(intro hg;(try simp only [push_cast]at hg)))|apply And.intro|(intro hg;(try simp only [push_cast]at hg)))
       all_goals first|exact gA|(exact zR (by omega))|(exact zN (by simp only [push_cast];omega))|(exact zN (by omega))|skip
       all_goals first|(refine hK _ ?_;clear hK K)|(simp only [push_cast];done)
       have hatj:=hat j (by omega)
       have hst:(opW (gp ps i).give P j).set j (!yR (gp ps i).give (gq P j).at_)=opW (gp ps i).give P (j+1):=zAN (f:=fun x=> !yR (gp ps i).give (gq P x).at_) (by omega)
       refine zM zQ zO [] rfl ?_
       all_goals refine vF 7 fun K9 hK9=> ?_
       all_goals simp only [push_cast,↓zK,↓zJ,↓reduceIte,zA,zB,zC,zD,zE,zF,zG,zH,zI,reduceCtorEq]
       all_goals repeat'(first|(apply zP<;>(intro hg;(try simp only [push_cast]at hg)))|(refine⟨_,yB (gp ps i).give (gq P j).at_ (hgg i),?_⟩;simp only [push_cast,↓zK,↓zJ,↓reduceIte,zA,zB,zC,zD,zE,zF,zG,zH,zI,reduceCtorEq])|apply And.intro|(intro hg;(try simp only [push_cast]at hg)))
       all_goals first|exact gA|(exact zR (by omega))|(exact zN (by simp only [push_cast];omega))|(exact zN (by omega))|skip
       all_goals first|(refine hK9 _ ?_;clear hK9 K9)|(simp only [push_cast];done)
       all_goals simp only [push_cast,↓zK,↓zJ,↓reduceIte,zA,zB,zC,zD,zE,zF,zG,zH,zI,reduceCtorEq]
       all_goals repeat'(first|(apply zP<;>(intro hg;(try simp only [push_cast]at hg)))|(refine⟨_,yB (gp ps i).give (gq P j).at_ (hgg i),?_⟩;simp only [push_cast,↓zK,↓zJ,↓reduceIte,zA,zB,zC,zD,zE,zF,zG,zH,zI,reduceCtorEq])|apply And.intro|(intro hg;(try simp only [push_cast]at hg)))
       all_goals first|exact gA|(exact zR (by omega))|(exact zN (by simp only [push_cast];omega))|(exact zN (by omega))|skip
       (try simp only [zS,zT,reduceIte,zF]);refine hK10 _ ?_
       refine zM zQ zO [] rfl ?_
       all_goals simp only [push_cast,↓zK,↓zJ,↓reduceIte,zA,zB,zC,zD,zE,zF,zG,zH,zI,reduceCtorEq]
       all_goals repeat'(first|(apply zP<;>(intro hg;(try simp only [push_cast]at hg)))|apply And.intro|(intro hg;(try simp only [push_cast]at hg)))
       all_goals first|exact gA|(exact zR (by omega))|(exact zN (by simp only [push_cast];omega))|(exact zN (by omega))|skip
       refine hL2 _ ⟨j+1,by omega,by omega,?_⟩
       refine zb rfl ?_ ?_ ?_<;>simp only [zj,zi,push_cast,↓zK,↓zJ,↓reduceIte,zA,zB,zC,zD,zE,zF,zG,zH,zI,reduceCtorEq]
       all_goals first|rfl|(rw [hst];done)|skip
      ·
       refine zp ?_
       have hjj:j=P.length:=by omega
       subst hjj
       (try simp only [zS,zT,reduceIte,zF]);refine hK8 _ ?_
       have hgr:=hXg (opW (gp ps i).give P P.length) (VG (Nat.le_refl _))
       have hLo:Fn Try.prog tyT 48 [.c (DII X), .c (.lst 4 (dB (List.take P.length (opW (gp ps i).give P P.length))))] [.c (DII (qL (wk X (opW (gp ps i).give P P.length))))]:=by rw [List.take_of_length_le (l:=opW (gp ps i).give P P.length) (by rw [VG (Nat.le_refl _)];exact Nat.le_refl _)];exact zBB X (opW (gp ps i).give P P.length) (by omega) hgr hX16
       refine zL fun K hK=> ?_
       refine zM zQ zO [] rfl ?_
       all_goals refine vF 3 fun K9 hK9=> ?_
       all_goals simp only [push_cast,↓zK,↓zJ,↓reduceIte,zA,zB,zC,zD,zE,zF,zG,zH,zI,reduceCtorEq]
       all_goals repeat'(first|(apply zP<;>(intro hg;(try simp only [push_cast]at hg)))|(refine⟨_,hLo,?_⟩;simp only [push_cast,↓zK,↓zJ,↓reduceIte,zA,zB,zC,zD,zE,zF,zG,zH,zI,reduceCtorEq])|apply And.intro|(intro hg;(try simp only [push_cast]at hg)))
       all_goals first|exact gA|(exact zR (by omega))|(exact zN (by simp only [push_cast];omega))|(exact zN (by omega))|skip
       all_goals first|(refine hK9 _ ?_;clear hK9 K9)|(simp only [push_cast];done)
       all_goals simp only [push_cast,↓zK,↓zJ,↓reduceIte,zA,zB,zC,zD,zE,zF,zG,zH,zI,reduceCtorEq]
       all_goals repeat'(first|(apply zP<;>(intro hg;(try simp only [push_cast]at hg)))|(refine⟨_,hLo,?_⟩;simp only [push_cast,↓zK,↓zJ,↓reduceIte,zA,zB,zC,zD,zE,zF,zG,zH,zI,reduceCtorEq])|apply And.intro|(intro hg;(try simp only [push_cast]at hg)))
       all_goals first|exact gA|(exact zR (by omega))|(exact zN (by simp only [push_cast];omega))|(exact zN (by omega))|skip
       all_goals first|(refine hK _ ?_;clear hK K)|(simp only [push_cast];done)
       refine zX ?_
       have hrows:=zBL hgr
       have hbad:=fun q hq y hy ha9=>zDF (p:=gp ps i) (q:=q) (y:=y) hXl hgr hq hy ha9
       have hgd:=fun h=>zB7 (p:=gp ps i) hgr h
       generalize qL (wk X (opW (gp ps i).give P P.length))=L at*
       refine zn [8,19,21,25,31,38,65,104,105,106,107,108,109,110,111,112,113,114,115,116,117,118,119,120,121,122,123] [] (fun(q:Nat)=> [(104, .int .i64 q)]) (fun q=> []) (fun q=> []) (fun q=>q≤L.length∧∀k,k<q→∀y∈gl L k,yR (gp ps i).ask (gq P y.toNat).at_=false) (fun q=>L.length - q) 0 ?_ ⟨by omega,fun k hk=>by omega⟩ ?_
       ·
        refine zb rfl ?_ ?_ ?_<;>simp only [zj,zi,push_cast,↓zK,↓zJ,↓reduceIte,zA,zB,zC,zD,zE,zF,zG,zH,zI,reduceCtorEq]
       ·rintro q ⟨hq9,hal3⟩ KL3 hL3
        simp only [push_cast,↓zK,↓zJ,↓reduceIte,zA,zB,zC,zD,zE,zF,zG,zH,zI,reduceCtorEq]
        refine zL fun K hK=> ?_
        refine zM zQ zO [] rfl ?_
        all_goals simp only [push_cast,↓zK,↓zJ,↓reduceIte,zA,zB,zC,zD,zE,zF,zG,zH,zI,reduceCtorEq]
        all_goals repeat'(first|(apply zP<;>(intro hg;(try simp only [push_cast]at hg)))|apply And.intro|(intro hg;(try simp only [push_cast]at hg)))
        all_goals first|exact gA|(exact zR (by omega))|(exact zN (by simp only [push_cast];omega))|(exact zN (by omega))|skip
        all_goals first|(refine hK _ ?_;clear hK K)|(simp only [push_cast];done)
        refine zL fun K11 hK11=> ?_
        refine zU rfl (fun hc=> ?_) (fun hc=> ?_)<;>(try simp only [push_cast]at hc)
        ·
         refine zV ?_
         (try simp only [zS,zT,reduceIte,zF]);refine hK11 _ ?_
         refine zL fun K12 hK12=> ?_
         refine zX ?_
         refine zL fun K hK=> ?_
         refine zM zQ zO [] rfl ?_
         all_goals simp only [push_cast,↓zK,↓zJ,↓reduceIte,zA,zB,zC,zD,zE,zF,zG,zH,zI,reduceCtorEq]
         all_goals repeat'(first|(apply zP<;>(intro hg;(try simp only [push_cast]at hg)))|apply And.intro|(intro hg;(try simp only [push_cast]at hg)))
         all_goals first|exact gA|(exact zR (by omega))|(exact zN (by simp only [push_cast];omega))|(exact zN (by omega))|skip
         all_goals first|(refine hK _ ?_;clear hK K)|(simp only [push_cast];done)
         refine zL fun K hK=> ?_
         refine zM zQ zO [] rfl ?_
         all_goals simp only [push_cast,↓zK,↓zJ,↓reduceIte,zA,zB,zC,zD,zE,zF,zG,zH,zI,reduceCtorEq]
         all_goals repeat'(first|(apply zP<;>(intro hg;(try simp only [push_cast]at hg)))|apply And.intro|(intro hg;(try simp only [push_cast]at hg)))
         all_goals first|exact gA|(exact zR (by omega))|(exact zN (by simp only [push_cast];omega))|(exact zN (by omega))|skip
         all_goals first|(refine hK _ ?_;clear hK K)|(simp only [push_cast];done)
         refine zX ?_
         have hqr:=hrows.2.1 _ (glm (L:=L) (k:=q) (by omega))
         refine zn [8,21,25,31,38,65,110,111,112,113,114,115,116,117,118,119,120,121,122] [] (fun(y:Nat)=> [(110, .int .i64 y)]) (fun y=> []) (fun y=> []) (fun y=>y≤(gl L q).length∧∀k,k<y→yR (gp ps i).ask (gq P (gi (gl L q) k).toNat).at_=false) (fun y=>(gl L q).length - y) 0 ?_ ⟨by omega,fun k hk=>by omega⟩ ?_
         ·
          refine zb rfl ?_ ?_ ?_<;>simp only [zj,zi,push_cast,↓zK,↓zJ,↓reduceIte,zA,zB,zC,zD,zE,zF,zG,zH,zI,reduceCtorEq]
         ·rintro y ⟨hy9,hal4⟩ KL4 hL4
          simp only [push_cast,↓zK,↓zJ,↓reduceIte,zA,zB,zC,zD,zE,zF,zG,zH,zI,reduceCtorEq]
          refine zL fun K hK=> ?_
          refine zM zQ zO [] rfl ?_
          all_goals simp only [push_cast,↓zK,↓zJ,↓reduceIte,zA,zB,zC,zD,zE,zF,zG,zH,zI,reduceCtorEq]
          all_goals repeat'(first|(apply zP<;>(intro hg;(try simp only [push_cast]at hg)))|apply And.intro|(intro hg;(try simp only [push_cast]at hg)))
          all_goals first|exact gA|(exact zR (by omega))|(exact zN (by simp only [push_cast];omega))|(exact zN (by omega))|skip
          all_goals first|(refine hK _ ?_;clear hK K)|(simp only [push_cast];done)
          refine zL fun K13 hK13=> ?_
          refine zU rfl (fun hc=> ?_) (fun hc=> ?_)<;>(try simp only [push_cast]at hc)
          ·
           refine zV ?_
           (try simp only [zS,zT,reduceIte,zF]);refine hK13 _ ?_
           refine zL fun K14 hK14=> ?_
           refine zX ?_
           refine zL fun K hK=> ?_
           refine zM zQ zO [] rfl ?_
           all_goals simp only [push_cast,↓zK,↓zJ,↓reduceIte,zA,zB,zC,zD,zE,zF,zG,zH,zI,reduceCtorEq]
           all_goals repeat'(first|(apply zP<;>(intro hg;(try simp only [push_cast]at hg)))|apply And.intro|(intro hg;(try simp only [push_cast]at hg)))
           all_goals first|exact gA|(exact zR (by omega))|(exact zN (by simp only [push_cast];omega))|(exact zN (by omega))|skip
           all_goals first|(refine hK _ ?_;clear hK K)|(simp only [push_cast];done)
           have hyr:=hrows.2.2 _ (glm (L:=L) (k:=q) (by omega)) _ (kr (q:=gl L q) (k:=y) (by omega))
           refine zL fun K hK=> ?_
           refine yu false zQ zO qM ?_ rfl ?_
           ·kernel_rfl
           intro E hE
           all_goals refine vL 8 (by decide) fun K9 hK9=> ?_
           all_goals simp only [push_cast,↓zK,↓zJ,↓reduceIte,zA,zB,zC,zD,zE,zF,zG,zH,zI,reduceCtorEq]
           all_goals repeat'(first|(apply zP<;>(intro hg;(try simp only [push_cast]at hg)))|(refine⟨_,yB (gp ps i).ask (gq P (gi (gl L q) y).toNat).at_ (hga i),?_⟩;simp only [push_cast,↓zK,↓zJ,↓reduceIte,zA,zB,zC,zD,zE,zF,zG,zH,zI,reduceCtorEq])|apply And.intro|(intro hg;(try simp only [push_cast]at hg)))
           all_goals first|exact gA|(exact zR (by omega))|(exact zN (by simp only [push_cast];omega))|(exact zN (by omega))|skip
           all_goals first|(refine hK9 _ _ ?_;clear hK9 K9)|(simp only [push_cast];done)
           all_goals simp only [push_cast,↓zK,↓zJ,↓reduceIte,zA,zB,zC,zD,zE,zF,zG,zH,zI,reduceCtorEq]
           all_goals repeat'(first|(apply zP<;>(intro hg;(try simp only [push_cast]at hg)))|(refine⟨_,yB (gp ps i).ask (gq P (gi (gl L q) y).toNat).at_ (hga i),?_⟩;simp only [push_cast,↓zK,↓zJ,↓reduceIte,zA,zB,zC,zD,zE,zF,zG,zH,zI,reduceCtorEq])|apply And.intro|(intro hg;(try simp only [push_cast]at hg)))
           all_goals first|exact gA|(refine hE _ _ ?_ ?_;kernel_rfl)|(exact zR (by omega))|(exact zN (by simp only [push_cast];omega))|(exact zN (by omega))|skip
           all_goals clear hE E
           all_goals first|(refine hK _ ?_;clear hK K)|(simp only [push_cast];done)
           refine zU rfl (fun hc=> ?_) (fun hc=> ?_)<;>(try simp only [push_cast]at hc)
           ·
            refine zL fun K hK=> ?_
            refine zM zQ zO [] rfl ?_
            all_goals simp only [push_cast,↓zK,↓zJ,↓reduceIte,zA,zB,zC,zD,zE,zF,zG,zH,zI,reduceCtorEq]
            all_goals repeat'(first|(apply zP<;>(intro hg;(try simp only [push_cast]at hg)))|apply And.intro|(intro hg;(try simp only [push_cast]at hg)))
            all_goals first|exact gA|(exact zR (by omega))|(exact zN (by simp only [push_cast];omega))|(exact zN (by omega))|skip
            all_goals first|(refine hK _ ?_;clear hK K)|(simp only [push_cast];done)
            refine za ?_
            (try simp only [zS,zT])
            refine⟨Or.inl rfl,?_⟩
            simp only [ze,push_cast,↓zK,↓zJ,↓reduceIte,zA,zB,zC,zD,zE,zF,zG,zH,zI,reduceCtorEq]
            rw [hno4 i _ (by omega) (hbad _ (glm (L:=L) (k:=q) (by omega)) _ (kr (q:=gl L q) (k:=y) (by omega)) (by with_reducible assumption))]
           ·
            refine zV ?_
            (try simp only [zS,zT,reduceIte,zF]);refine hK14 _ ?_
            refine zM zQ zO [] rfl ?_
            all_goals simp only [push_cast,↓zK,↓zJ,↓reduceIte,zA,zB,zC,zD,zE,zF,zG,zH,zI,reduceCtorEq]
            all_goals repeat'(first|(apply zP<;>(intro hg;(try simp only [push_cast]at hg)))|apply And.intro|(intro hg;(try simp only [push_cast]at hg)))
            all_goals first|exact gA|(exact zR (by omega))|(exact zN (by simp only [push_cast];omega))|(exact zN (by omega))|skip
            refine hL4 _ ⟨y+1,⟨by omega,fun k hk=>(by
              by_cases e:k=y
              ·subst e;with_reducible assumption
              ·exact hal4 k (by omega))⟩,by omega,?_⟩
            refine zb rfl ?_ ?_ ?_<;>simp only [zj,zi,push_cast,↓zK,↓zJ,↓reduceIte,zA,zB,zC,zD,zE,zF,zG,zH,zI,reduceCtorEq]
          ·
           refine zp ?_
           have hyy:y=(gl L q).length:=by omega
           subst hyy
           have hpart: ∀z∈gl L q,yR (gp ps i).ask (gq P z.toNat).at_=false:=fun z hz=>(by obtain⟨k,hk,rfl⟩:=zFP hz;exact hal4 k hk)
           (try simp only [zS,zT,reduceIte,zF]);refine hK12 _ ?_
           refine zM zQ zO [] rfl ?_
           all_goals simp only [push_cast,↓zK,↓zJ,↓reduceIte,zA,zB,zC,zD,zE,zF,zG,zH,zI,reduceCtorEq]
           all_goals repeat'(first|(apply zP<;>(intro hg;(try simp only [push_cast]at hg)))|apply And.intro|(intro hg;(try simp only [push_cast]at hg)))
           all_goals first|exact gA|(exact zR (by omega))|(exact zN (by simp only [push_cast];omega))|(exact zN (by omega))|skip
           refine hL3 _ ⟨q+1,⟨by omega,fun k hk=>(by
             by_cases e:k=q
             ·subst e;exact hpart
             ·exact hal3 k (by omega))⟩,by omega,?_⟩
           refine zb rfl ?_ ?_ ?_<;>simp only [zj,zi,push_cast,↓zK,↓zJ,↓reduceIte,zA,zB,zC,zD,zE,zF,zG,zH,zI,reduceCtorEq]
        ·
         refine zp ?_
         have hqq:q=L.length:=by omega
         subst hqq
         have hgood:=hgd (fun q hq y hy=>(by obtain⟨k,hk,rfl⟩:=zFQ hq;exact hal3 k hk y hy))
         (try simp only [zS,zT,reduceIte,zF]);refine hK7 _ ?_
         refine zM zQ zO [] rfl ?_
         all_goals simp only [push_cast,↓zK,↓zJ,↓reduceIte,zA,zB,zC,zD,zE,zF,zG,zH,zI,reduceCtorEq]
         all_goals repeat'(first|(apply zP<;>(intro hg;(try simp only [push_cast]at hg)))|apply And.intro|(intro hg;(try simp only [push_cast]at hg)))
         all_goals first|exact gA|(exact zR (by omega))|(exact zN (by simp only [push_cast];omega))|(exact zN (by omega))|skip
         refine hL1 _ ⟨i+1,⟨by omega,fun k hk=>(by
           by_cases e:k=i
           ·subst e;exact hgood
           ·exact hall k (by omega))⟩,by omega,?_⟩
         refine zb rfl ?_ ?_ ?_<;>simp only [zj,zi,push_cast,↓zK,↓zJ,↓reduceIte,zA,zB,zC,zD,zE,zF,zG,zH,zI,reduceCtorEq]
    ·
     refine zp ?_
     have hii:i=ps.length:=by omega
     subst hii
     (try simp only [zS,zT,reduceIte,zF]);refine hK5 _ ?_
     refine zL fun K hK=> ?_
     refine zM zQ zO [] rfl ?_
     all_goals simp only [push_cast,↓zK,↓zJ,↓reduceIte,zA,zB,zC,zD,zE,zF,zG,zH,zI,reduceCtorEq]
     all_goals repeat'(first|(apply zP<;>(intro hg;(try simp only [push_cast]at hg)))|apply And.intro|(intro hg;(try simp only [push_cast]at hg)))
     all_goals first|exact gA|(exact zR (by omega))|(exact zN (by simp only [push_cast];omega))|(exact zN (by omega))|skip
     all_goals first|(refine hK _ ?_;clear hK K)|(simp only [push_cast];done)
     refine za ?_
     (try simp only [zS,zT])
     refine⟨Or.inl rfl,?_⟩
     simp only [ze,push_cast,↓zK,↓zJ,↓reduceIte,zA,zB,zC,zD,zE,zF,zG,zH,zI,reduceCtorEq]
     rw [hyes (fun x hx=>hal x hx) (fun k hk=>hall k hk)]
theorem zDE {X:List (List Int)}{P:List Plc}{p:Pr}(hX:X.length=P.length)(hg:Gr X.length X (opW p.give P P.length)){x:Nat}(hx:x<P.length)(h1:gb (shW p.give P P.length) x=false)(h2:yR p.ask (gq P x).at_=true)(h3:gb (Zl X (vu (shW p.give P P.length)) x P.length) x=true):ZL X P p x:=by
 rw [uN]at h3
 refine⟨hx,h2,(uH hg ?_).2 ((Qx hx).1 h3)⟩
 rw [zCQ hx]
 rw [zCg hx]at h1
 rw [h1]
 rfl
theorem zBj {X:List (List Int)}{P:List Plc}{p:Pr}(hX:X.length=P.length)(hg:Gr X.length X (opW p.give P P.length)){x:Nat}(hx:x<P.length)(h: ¬(gb (shW p.give P P.length) x=false∧yR p.ask (gq P x).at_=true∧gb (Zl X (vu (shW p.give P P.length)) x P.length) x=true)): ¬ZL X P p x:=by
 rintro⟨-,h2,h3⟩
 have hw:gb (opW p.give P P.length) x=true:=by
  obtain⟨y,h4,-⟩:=h3
  exact h4.1
 refine h ⟨?_,h2,?_⟩
 ·rw [zCQ hx]at hw
  rw [zCg hx]
  simpa using hw
 ·rw [uN]
  exact(Qx hx).2 ((uH hg hw).1 h3)
set_option maxRecDepth 20000 in
set_option maxHeartbeats 8000000 in
theorem JY (a:Ar)(ha:a.Ln 1048576)(ps:List Pr)(hps:PLn 1048576 ps)(m:Me)(hm:m.Ln 1048576)(s:Int):Fn Try.prog tyT 8 [.agg (dAr a), .c (.lst 76 (dII (ilv ps))), .agg (dMe m), .c (.int .i64 s)] [.c (.bool (mwB a ps m s))]:=by
 have hno:=ha.owner
 unfold LnI at hno
 have hpl:=hps.1
 have hgp:=fun k=>Xa hps k
 have hga: ∀k,(gp ps k).ask.length≤1048576:=fun k=>(hgp k).ask
 have hgg: ∀k,(gp ps k).give.length≤1048576:=fun k=>(hgp k).give
 have hli:=Zb ps
 have hM:=jr a ha m hm
 have hPr:=UB ps hps a.owner.length
 have hV:=zA7 a s hno
 have hW:=zA5 a ha m hm s
 unfold dAr at hM hV hW
 unfold dMe at hM hW
 unfold dAr dMe
 refine yC (fn:=Try.f8) (ts:= [8]) Try.func8 (by kernel_rfl) rfl rfl (by rw [Try.ntmps8];exact Nat.le_of_ble_eq_true rfl) rfl (by simp only [szA,List.mem_cons,List.not_mem_nil,or_false,forall_eq_or_imp,forall_eq,VT.cells,szL];try decide) ?_
 rw [Try.ntmps8]
 simp only [push_cast,↓zK,↓zJ,↓reduceIte,zA,zB,zC,zD,zE,zF,zG,zH,zI,reduceCtorEq]
 refine zL fun K hK=> ?_
 refine zM zQ zO [] rfl ?_
 all_goals simp only [push_cast,↓zK,↓zJ,↓reduceIte,zA,zB,zC,zD,zE,zF,zG,zH,zI,reduceCtorEq]
 all_goals repeat'(first|(apply zP<;>(intro hg;(try simp only [push_cast]at hg)))|apply And.intro|(intro hg;(try simp only [push_cast]at hg)))
 all_goals first|exact gA|(exact zR (by omega))|(exact zN (by simp only [push_cast];omega))|(exact zN (by omega))|skip
 all_goals first|(refine hK _ ?_;clear hK K)|(simp only [push_cast];done)
 refine zL fun K1 hK1=> ?_
 refine zL fun K hK=> ?_
 refine zf false zQ zO ?_ rfl ?_
 ·kernel_rfl
 all_goals refine yE 3 fun K9 hK9=> ?_
 all_goals simp only [push_cast,↓zK,↓zJ,↓reduceIte,zA,zB,zC,zD,zE,zF,zG,zH,zI,reduceCtorEq]
 all_goals repeat'(first|(apply zP<;>(intro hg;(try simp only [push_cast]at hg)))|(refine⟨_,hM,?_⟩;simp only [push_cast,↓zK,↓zJ,↓reduceIte,zA,zB,zC,zD,zE,zF,zG,zH,zI,reduceCtorEq])|(refine⟨_,hPr,?_⟩;simp only [push_cast,↓zK,↓zJ,↓reduceIte,zA,zB,zC,zD,zE,zF,zG,zH,zI,reduceCtorEq])|(refine⟨_,hV,?_⟩;simp only [push_cast,↓zK,↓zJ,↓reduceIte,zA,zB,zC,zD,zE,zF,zG,zH,zI,reduceCtorEq])|apply And.intro|(intro hg;(try simp only [push_cast]at hg)))
 all_goals first|exact gA|(exact zR (by omega))|(exact zN (by simp only [push_cast];omega))|(exact zN (by omega))|skip
 all_goals first|(refine hK9 _ ?_;clear hK9 K9)|(simp only [push_cast];done)
 all_goals refine yE 7 fun K9 hK9=> ?_
 all_goals simp only [push_cast,↓zK,↓zJ,↓reduceIte,zA,zB,zC,zD,zE,zF,zG,zH,zI,reduceCtorEq]
 all_goals repeat'(first|(apply zP<;>(intro hg;(try simp only [push_cast]at hg)))|(refine⟨_,hM,?_⟩;simp only [push_cast,↓zK,↓zJ,↓reduceIte,zA,zB,zC,zD,zE,zF,zG,zH,zI,reduceCtorEq])|(refine⟨_,hPr,?_⟩;simp only [push_cast,↓zK,↓zJ,↓reduceIte,zA,zB,zC,zD,zE,zF,zG,zH,zI,reduceCtorEq])|(refine⟨_,hV,?_⟩;simp only [push_cast,↓zK,↓zJ,↓reduceIte,zA,zB,zC,zD,zE,zF,zG,zH,zI,reduceCtorEq])|apply And.intro|(intro hg;(try simp only [push_cast]at hg)))
 all_goals first|exact gA|(exact zR (by omega))|(exact zN (by simp only [push_cast];omega))|(exact zN (by omega))|skip
 all_goals first|(refine hK9 _ ?_;clear hK9 K9)|(simp only [push_cast];done)
 all_goals refine yE 6 fun K9 hK9=> ?_
 all_goals simp only [push_cast,↓zK,↓zJ,↓reduceIte,zA,zB,zC,zD,zE,zF,zG,zH,zI,reduceCtorEq]
 all_goals repeat'(first|(apply zP<;>(intro hg;(try simp only [push_cast]at hg)))|(refine⟨_,hM,?_⟩;simp only [push_cast,↓zK,↓zJ,↓reduceIte,zA,zB,zC,zD,zE,zF,zG,zH,zI,reduceCtorEq])|(refine⟨_,hPr,?_⟩;simp only [push_cast,↓zK,↓zJ,↓reduceIte,zA,zB,zC,zD,zE,zF,zG,zH,zI,reduceCtorEq])|(refine⟨_,hV,?_⟩;simp only [push_cast,↓zK,↓zJ,↓reduceIte,zA,zB,zC,zD,zE,zF,zG,zH,zI,reduceCtorEq])|apply And.intro|(intro hg;(try simp only [push_cast]at hg)))
 all_goals first|exact gA|(exact zR (by omega))|(exact zN (by simp only [push_cast];omega))|(exact zN (by omega))|skip
 all_goals first|(refine hK9 _ ?_;clear hK9 K9)|(simp only [push_cast];done)
 all_goals simp only [push_cast,↓zK,↓zJ,↓reduceIte,zA,zB,zC,zD,zE,zF,zG,zH,zI,reduceCtorEq]
 all_goals repeat'(first|(apply zP<;>(intro hg;(try simp only [push_cast]at hg)))|(refine⟨_,hM,?_⟩;simp only [push_cast,↓zK,↓zJ,↓reduceIte,zA,zB,zC,zD,zE,zF,zG,zH,zI,reduceCtorEq])|(refine⟨_,hPr,?_⟩;simp only [push_cast,↓zK,↓zJ,↓reduceIte,zA,zB,zC,zD,zE,zF,zG,zH,zI,reduceCtorEq])|(refine⟨_,hV,?_⟩;simp only [push_cast,↓zK,↓zJ,↓reduceIte,zA,zB,zC,zD,zE,zF,zG,zH,zI,reduceCtorEq])|apply And.intro|(intro hg;(try simp only [push_cast]at hg)))
 all_goals first|exact gA|(exact zR (by omega))|(exact zN (by simp only [push_cast];omega))|(exact zN (by omega))|skip
 all_goals first|(refine hK _ ?_;clear hK K)|(simp only [push_cast];done)
 all_goals refine zU rfl (fun hc=> ?_) (fun hc=> ?_)
 all_goals(first|(cases hc;done)|skip)
 all_goals(try simp only [push_cast]at hc)
 all_goals try(
   refine zL fun K hK=> ?_
   refine zM zQ zO [] rfl ?_
   all_goals simp only [push_cast,↓zK,↓zJ,↓reduceIte,zA,zB,zC,zD,zE,zF,zG,zH,zI,reduceCtorEq]
   all_goals repeat'(first|(apply zP<;>(intro hg;(try simp only [push_cast]at hg)))|apply And.intro|(intro hg;(try simp only [push_cast]at hg)))
   all_goals first|exact gA|(exact zR (by omega))|(exact zN (by simp only [push_cast];omega))|(exact zN (by omega))|skip
   all_goals first|(refine hK _ ?_;clear hK K)|(simp only [push_cast];done)
   refine za ?_
   (try simp only [zS,zT])
   refine⟨Or.inl rfl,?_⟩
   simp only [ze,push_cast,↓zK,↓zJ,↓reduceIte,zA,zB,zC,zD,zE,zF,zG,zH,zI,reduceCtorEq]
   rw [show mwB a ps m s=false from by first|exact Qe (zFS (by with_reducible assumption))|exact zCL (by with_reducible assumption)|exact Qe (zCJ (by omega))]
   all_goals first|rfl|skip
   done)
 refine zV ?_
 (try simp only [zS,zT,reduceIte,zF]);refine hK1 _ ?_
 have h0:(ym a&&vh a m)=true:=by with_reducible assumption
 obtain⟨h1,h2⟩:=Bool.and_eq_true_iff.1 h0
 have hB:mmB a m s=true:=zCK h1 h2 (by omega)
 have hPB:wU ps a.owner.length=true:=by with_reducible assumption
 refine zL fun K hK=> ?_
 refine zM zQ zO [] rfl ?_
 all_goals refine vF 4 fun K9 hK9=> ?_
 all_goals simp only [push_cast,↓zK,↓zJ,↓reduceIte,zA,zB,zC,zD,zE,zF,zG,zH,zI,reduceCtorEq]
 all_goals repeat'(first|(apply zP<;>(intro hg;(try simp only [push_cast]at hg)))|(refine⟨_,hW (XB hB),?_⟩;simp only [push_cast,↓zK,↓zJ,↓reduceIte,zA,zB,zC,zD,zE,zF,zG,zH,zI,reduceCtorEq])|apply And.intro|(intro hg;(try simp only [push_cast]at hg)))
 all_goals first|exact gA|(exact zR (by omega))|(exact zN (by simp only [push_cast];omega))|(exact zN (by omega))|skip
 all_goals first|(refine hK9 _ ?_;clear hK9 K9)|(simp only [push_cast];done)
 all_goals simp only [push_cast,↓zK,↓zJ,↓reduceIte,zA,zB,zC,zD,zE,zF,zG,zH,zI,reduceCtorEq]
 all_goals repeat'(first|(apply zP<;>(intro hg;(try simp only [push_cast]at hg)))|(refine⟨_,hW (XB hB),?_⟩;simp only [push_cast,↓zK,↓zJ,↓reduceIte,zA,zB,zC,zD,zE,zF,zG,zH,zI,reduceCtorEq])|apply And.intro|(intro hg;(try simp only [push_cast]at hg)))
 all_goals first|exact gA|(exact zR (by omega))|(exact zN (by simp only [push_cast];omega))|(exact zN (by omega))|skip
 all_goals first|(refine hK _ ?_;clear hK K)|(simp only [push_cast];done)
 refine zL fun K2 hK2=> ?_
 have hI9:=XB hB
 have hno3:=fun x=>zCM (a:=a) (ps:=ps) (m:=m) (s:=s) (x:=x)
 have hno4:=fun i x=>zCN (a:=a) (ps:=ps) (m:=m) (s:=s) (i:=i) (x:=x)
 have hyes:=fun h1 h2=>(uL (a:=a) (ps:=ps) (m:=m) (s:=s)).2 ⟨hB,hPB,h1,h2⟩
 have hfew:=Wm hI9 6145
 have hXl:=wo a m s (stM a m s 6145).length
 have hX16:=zCZ hI9
 have hXg:=fun win h=>gr_M (win:=win) hI9 h
 have hown:=fun x hx h0=>zES (x:=x) hI9 hx h0
 have hok:=qR hI9 6145
 have hq:QLn 1048576 (stM a m s 6145):=⟨by omega,fun p hp=>by rw [(hok p hp).2.2.1];show 1≤1048576;decide⟩
 have hat: ∀x,x<(stM a m s 6145).length→0≤(gq (stM a m s 6145) x).at_∧(gq (stM a m s 6145) x).at_<a.owner.length:=fun x hx=>⟨(hok _ (vk hx)).1,(hok _ (vk hx)).2.1⟩
 clear hok
 generalize stM a m s 6145=P at*
 generalize rsM a m s P.length=X at*
 refine zL fun K hK=> ?_
 refine zM zQ zO [] rfl ?_
 all_goals simp only [push_cast,↓zK,↓zJ,↓reduceIte,zA,zB,zC,zD,zE,zF,zG,zH,zI,reduceCtorEq]
 all_goals repeat'(first|(apply zP<;>(intro hg;(try simp only [push_cast]at hg)))|apply And.intro|(intro hg;(try simp only [push_cast]at hg)))
 all_goals first|exact gA|(exact zR (by omega))|(exact zN (by simp only [push_cast];omega))|(exact zN (by omega))|skip
 all_goals first|(refine hK _ ?_;clear hK K)|(simp only [push_cast];done)
 refine zX ?_
 refine zn [8,11,20,28,41,42,43,44,45,46,47,48,49,50,51,52] [] (fun(x0:Nat)=> [(11, .int .i64 x0)]) (fun x0=> []) (fun x0=> []) (fun x0=>x0≤P.length∧∀x,x<x0→¬(gl X x).length=0) (fun x0=>P.length - x0) 0 ?_ ⟨by omega,fun x hx=>by omega⟩ ?_
 ·
  refine zb rfl ?_ ?_ ?_<;>simp only [zj,zi,push_cast,↓zK,↓zJ,↓reduceIte,zA,zB,zC,zD,zE,zF,zG,zH,zI,reduceCtorEq]
 ·rintro x0 ⟨hx0,hal⟩ KL0 hL0
  simp only [push_cast,↓zK,↓zJ,↓reduceIte,zA,zB,zC,zD,zE,zF,zG,zH,zI,reduceCtorEq]
  refine zL fun K3 hK3=> ?_
  refine zL fun K hK=> ?_
  refine zM zQ zO [] rfl ?_
  all_goals simp only [push_cast,↓zK,↓zJ,↓reduceIte,zA,zB,zC,zD,zE,zF,zG,zH,zI,reduceCtorEq]
  all_goals repeat'(first|(apply zP<;>(intro hg;(try simp only [push_cast]at hg)))|apply And.intro|(intro hg;(try simp only [push_cast]at hg)))
  all_goals first|exact gA|(exact zR (by omega))|(exact zN (by simp only [push_cast];omega))|(exact zN (by omega))|skip
  all_goals first|(refine hK _ ?_;clear hK K)|(simp only [push_cast];done)
  refine zU rfl (fun hc=> ?_) (fun hc=> ?_)<;>(try simp only [push_cast]at hc)
  ·
   refine zV ?_
   (try simp only [zS,zT,reduceIte,zF]);refine hK3 _ ?_
   refine zL fun K4 hK4=> ?_
   refine zX ?_
   refine zL fun K hK=> ?_
   refine zM zQ zO [] rfl ?_
   all_goals simp only [push_cast,↓zK,↓zJ,↓reduceIte,zA,zB,zC,zD,zE,zF,zG,zH,zI,reduceCtorEq]
   all_goals repeat'(first|(apply zP<;>(intro hg;(try simp only [push_cast]at hg)))|apply And.intro|(intro hg;(try simp only [push_cast]at hg)))
   all_goals first|exact gA|(exact zR (by omega))|(exact zN (by simp only [push_cast];omega))|(exact zN (by omega))|skip
   all_goals first|(refine hK _ ?_;clear hK K)|(simp only [push_cast];done)
   refine zU rfl (fun hc=> ?_) (fun hc=> ?_)<;>(try simp only [push_cast]at hc)
   ·
    refine zL fun K hK=> ?_
    refine zM zQ zO [] rfl ?_
    all_goals simp only [push_cast,↓zK,↓zJ,↓reduceIte,zA,zB,zC,zD,zE,zF,zG,zH,zI,reduceCtorEq]
    all_goals repeat'(first|(apply zP<;>(intro hg;(try simp only [push_cast]at hg)))|apply And.intro|(intro hg;(try simp only [push_cast]at hg)))
    all_goals first|exact gA|(exact zR (by omega))|(exact zN (by simp only [push_cast];omega))|(exact zN (by omega))|skip
    all_goals first|(refine hK _ ?_;clear hK K)|(simp only [push_cast];done)
    refine za ?_
    (try simp only [zS,zT])
    refine⟨Or.inl rfl,?_⟩
    simp only [ze,push_cast,↓zK,↓zJ,↓reduceIte,zA,zB,zC,zD,zE,zF,zG,zH,zI,reduceCtorEq]
    rw [hno3 x0 (by omega) (by omega)]
   ·
    refine zV ?_
    (try simp only [zS,zT,reduceIte,zF]);refine hK4 _ ?_
    refine zM zQ zO [] rfl ?_
    all_goals simp only [push_cast,↓zK,↓zJ,↓reduceIte,zA,zB,zC,zD,zE,zF,zG,zH,zI,reduceCtorEq]
    all_goals repeat'(first|(apply zP<;>(intro hg;(try simp only [push_cast]at hg)))|apply And.intro|(intro hg;(try simp only [push_cast]at hg)))
    all_goals first|exact gA|(exact zR (by omega))|(exact zN (by simp only [push_cast];omega))|(exact zN (by omega))|skip
    refine hL0 _ ⟨x0+1,⟨by omega,fun x hx=>(by
      by_cases e:x=x0
      ·subst e;omega
      ·exact hal x (by omega))⟩,by omega,?_⟩
    refine zb rfl ?_ ?_ ?_<;>simp only [zj,zi,push_cast,↓zK,↓zJ,↓reduceIte,zA,zB,zC,zD,zE,zF,zG,zH,zI,reduceCtorEq]
  ·
   refine zp ?_
   have hxx:x0=P.length:=by omega
   subst hxx
   (try simp only [zS,zT,reduceIte,zF]);refine hK2 _ ?_
   refine zL fun K5 hK5=> ?_
   refine zL fun K hK=> ?_
   refine zM zQ zO [] rfl ?_
   all_goals simp only [push_cast,↓zK,↓zJ,↓reduceIte,zA,zB,zC,zD,zE,zF,zG,zH,zI,reduceCtorEq]
   all_goals repeat'(first|(apply zP<;>(intro hg;(try simp only [push_cast]at hg)))|apply And.intro|(intro hg;(try simp only [push_cast]at hg)))
   all_goals first|exact gA|(exact zR (by omega))|(exact zN (by simp only [push_cast];omega))|(exact zN (by omega))|skip
   all_goals first|(refine hK _ ?_;clear hK K)|(simp only [push_cast];done)
   refine zX ?_
   refine zn [8,12,13,14,15,20,28,53,54,55,56,57,58,59,60,61,62,63,64,65,66,67,68,69,70,71,72,73,74,75,76,77,78,79,80,81,82,83,84,85,86,87,88,89,90,91,92,93,94,95,96,97,98,99,100,101,102,103,104,105,106,107,108,109,110,111] [] (fun(i:Nat)=> [(12, .int .i64 i)]) (fun i=> []) (fun i=> []) (fun i=>i≤ps.length∧∀k,k<i→∀x,¬ZL X P (gp ps k) x) (fun i=>ps.length - i) 0 ?_ ⟨by omega,fun k hk=>by omega⟩ ?_
   ·
    refine zb rfl ?_ ?_ ?_<;>simp only [zj,zi,push_cast,↓zK,↓zJ,↓reduceIte,zA,zB,zC,zD,zE,zF,zG,zH,zI,reduceCtorEq]
   ·rintro i ⟨hi,hall⟩ KL1 hL1
    simp only [push_cast,↓zK,↓zJ,↓reduceIte,zA,zB,zC,zD,zE,zF,zG,zH,zI,reduceCtorEq]
    refine zL fun K6 hK6=> ?_
    refine zL fun K hK=> ?_
    refine zM zQ zO [] rfl ?_
    all_goals simp only [push_cast,↓zK,↓zJ,↓reduceIte,zA,zB,zC,zD,zE,zF,zG,zH,zI,reduceCtorEq]
    all_goals repeat'(first|(apply zP<;>(intro hg;(try simp only [push_cast]at hg)))|apply And.intro|(intro hg;(try simp only [push_cast]at hg)))
    all_goals first|exact gA|(exact zR (by omega))|(exact zN (by simp only [push_cast];omega))|(exact zN (by omega))|skip
    all_goals first|(refine hK _ ?_;clear hK K)|(simp only [push_cast];done)
    refine zU rfl (fun hc=> ?_) (fun hc=> ?_)<;>(try simp only [push_cast]at hc)
    ·
     refine zV ?_
     (try simp only [zS,zT,reduceIte,zF]);refine hK6 _ ?_
     refine zL fun K7 hK7=> ?_
     refine zX ?_
     refine zL fun K hK=> ?_
     refine zM zQ zO [] rfl ?_
     all_goals simp only [push_cast,↓zK,↓zJ,↓reduceIte,zA,zB,zC,zD,zE,zF,zG,zH,zI,reduceCtorEq]
     all_goals repeat'(first|(apply zP<;>(intro hg;(try simp only [push_cast]at hg)))|apply And.intro|(intro hg;(try simp only [push_cast]at hg)))
     all_goals first|exact gA|(exact zR (by omega))|(exact zN (by simp only [push_cast];omega))|(exact zN (by omega))|skip
     all_goals first|(refine hK _ ?_;clear hK K)|(simp only [push_cast];done)
     refine zL fun K8 hK8=> ?_
     refine zL fun K hK=> ?_
     refine zM zQ zO [] rfl ?_
     all_goals simp only [push_cast,↓zK,↓zJ,↓reduceIte,zA,zB,zC,zD,zE,zF,zG,zH,zI,reduceCtorEq]
     all_goals repeat'(first|(apply zP<;>(intro hg;(try simp only [push_cast]at hg)))|apply And.intro|(intro hg;(try simp only [push_cast]at hg)))
     all_goals first|exact gA|(exact zR (by omega))|(exact zN (by simp only [push_cast];omega))|(exact zN (by omega))|skip
     all_goals first|(refine hK _ ?_;clear hK K)|(simp only [push_cast];done)
     refine zX ?_
     refine zn [14,20,28,62,63,64,65,66,67,68,69,70,71,72,73,74,75,76,77,78,79,80,81] [208] (fun(j:Nat)=> [(14, .int .i64 j),(13, .sl 208 [] 0 P.length 4)]) (fun j=> []) (fun j=> [(208,⟨.ex,4,dB (shW (gp ps i).give P j),none⟩)]) (fun j=>j≤P.length) (fun j=>P.length - j) 0 ?_ (by omega) ?_
     ·
      rw [show shW (gp ps i).give P 0=List.replicate P.length false from zER _ _]
      refine zb rfl ?_ ?_ ?_<;>simp only [zj,zi,push_cast,↓zK,↓zJ,↓reduceIte,zA,zB,zC,zD,zE,zF,zG,zH,zI,reduceCtorEq]
      all_goals first|rfl|skip
     ·rintro j hj KL2 hL2
      have hol:=zAT (g:=(gp ps i).give) (P:=P) (k:=j) hj
      simp only [push_cast,↓zK,↓zJ,↓reduceIte,zA,zB,zC,zD,zE,zF,zG,zH,zI,reduceCtorEq]
      refine zL fun K9 hK9=> ?_
      refine zL fun K hK=> ?_
      refine zM zQ zO [] rfl ?_
      all_goals simp only [push_cast,↓zK,↓zJ,↓reduceIte,zA,zB,zC,zD,zE,zF,zG,zH,zI,reduceCtorEq]
      all_goals repeat'(first|(apply zP<;>(intro hg;(try simp only [push_cast]at hg)))|apply And.intro|(intro hg;(try simp only [push_cast]at hg)))
      all_goals first|exact gA|(exact zR (by omega))|(exact zN (by simp only [push_cast];omega))|(exact zN (by omega))|skip
      all_goals first|(refine hK _ ?_;clear hK K)|(simp only [push_cast];done)
      refine zU rfl (fun hc=> ?_) (fun hc=> ?_)<;>(try simp only [push_cast]at hc)
      ·
       refine zV ?_
       (try simp only [zS,zT,reduceIte,zF]);refine hK9 _ ?_
       refine zL fun K10 hK10=> ?_
       refine zX ?_
       have hatj:=hat j (by omega)
       have hst:(shW (gp ps i).give P j).set j (yR (gp ps i).give (gq P j).at_)=shW (gp ps i).give P (j+1):=zAN (f:=fun x=>yR (gp ps i).give (gq P x).at_) (by omega)
       refine yu false zQ zO qM ?_ rfl ?_
       ·kernel_rfl
       intro E hE
       all_goals refine vL 13 (by decide) fun K9 hK9=> ?_
       all_goals simp only [push_cast,↓zK,↓zJ,↓reduceIte,zA,zB,zC,zD,zE,zF,zG,zH,zI,reduceCtorEq]
       all_goals repeat'(first|(apply zP<;>(intro hg;(try simp only [push_cast]at hg)))|(refine⟨_,ZJ (gp ps i).give (gq P j).at_ (hgg i),?_⟩;simp only [push_cast,↓zK,↓zJ,↓reduceIte,zA,zB,zC,zD,zE,zF,zG,zH,zI,reduceCtorEq])|apply And.intro|(intro hg;(try simp only [push_cast]at hg)))
       all_goals first|exact gA|(exact zR (by omega))|(exact zN (by simp only [push_cast];omega))|(exact zN (by omega))|skip
       all_goals first|(refine hK9 _ _ ?_;clear hK9 K9)|(simp only [push_cast];done)
       all_goals simp only [push_cast,↓zK,↓zJ,↓reduceIte,zA,zB,zC,zD,zE,zF,zG,zH,zI,reduceCtorEq]
       all_goals repeat'(first|(apply zP<;>(intro hg;(try simp only [push_cast]at hg)))|(refine⟨_,ZJ (gp ps i).give (gq P j).at_ (hgg i),?_⟩;simp only [push_cast,↓zK,↓zJ,↓reduceIte,zA,zB,zC,zD,zE,zF,zG,zH,zI,reduceCtorEq])|apply And.intro|(intro hg;(try simp only [push_cast]at hg)))
       all_goals first|exact gA|(refine hE _ _ ?_ ?_;kernel_rfl)|(exact zR (by omega))|(exact zN (by simp only [push_cast];omega))|(exact zN (by omega))|skip
       all_goals clear hE E
       (try simp only [zS,zT,reduceIte,zF]);refine hK10 _ ?_
       refine zM zQ zO [] rfl ?_
       all_goals simp only [push_cast,↓zK,↓zJ,↓reduceIte,zA,zB,zC,zD,zE,zF,zG,zH,zI,reduceCtorEq]
       all_goals repeat'(first|(apply zP<;>(intro hg;(try simp only [push_cast]at hg)))|apply And.intro|(intro hg;(try simp only [push_cast]at hg)))
       all_goals first|exact gA|(exact zR (by omega))|(exact zN (by simp only [push_cast];omega))|(exact zN (by omega))|skip
       refine hL2 _ ⟨j+1,by omega,by omega,?_⟩
       refine zb rfl ?_ ?_ ?_<;>simp only [zj,zi,push_cast,↓zK,↓zJ,↓reduceIte,zA,zB,zC,zD,zE,zF,zG,zH,zI,reduceCtorEq]
       all_goals first|rfl|(rw [hst];done)|skip
      ·
       refine zp ?_
       have hjj:j=P.length:=by omega
       subst hjj
       (try simp only [zS,zT,reduceIte,zF]);refine hK8 _ ?_
       have hgr:=hXg (opW (gp ps i).give P P.length) (VG (Nat.le_refl _))
       have hsl:=zAT (g:=(gp ps i).give) (P:=P) (k:=P.length) (Nat.le_refl _)
       have htk9:List.take P.length (shW (gp ps i).give P P.length)=(shW (gp ps i).give P P.length):=List.take_of_length_le (by rw [hsl];exact Nat.le_refl _)
       refine zL fun K hK=> ?_
       refine zM zQ zO [] rfl ?_
       all_goals simp only [push_cast,↓zK,↓zJ,↓reduceIte,zA,zB,zC,zD,zE,zF,zG,zH,zI,reduceCtorEq]
       all_goals repeat'(first|(apply zP<;>(intro hg;(try simp only [push_cast]at hg)))|apply And.intro|(intro hg;(try simp only [push_cast]at hg)))
       all_goals first|exact gA|(exact zR (by omega))|(exact zN (by simp only [push_cast];omega))|(exact zN (by omega))|skip
       all_goals first|(refine hK _ ?_;clear hK K)|(simp only [push_cast];done)
       refine zX ?_
       refine zn [8,15,20,28,82,83,84,85,86,87,88,89,90,91,92,93,94,95,96,97,98,99,100,101,102,103,104,105,106,107,108,109,110,111] [] (fun(x:Nat)=> [(15, .int .i64 x)]) (fun x=> []) (fun x=> []) (fun x=>x≤P.length∧∀k,k<x→¬ZL X P (gp ps i) k) (fun x=>P.length - x) 0 ?_ ⟨by omega,fun k hk=>by omega⟩ ?_
       ·
        refine zb rfl ?_ ?_ ?_<;>simp only [zj,zi,push_cast,↓zK,↓zJ,↓reduceIte,zA,zB,zC,zD,zE,zF,zG,zH,zI,reduceCtorEq]
       ·rintro x ⟨hx9,hal3⟩ KL3 hL3
        simp only [push_cast,↓zK,↓zJ,↓reduceIte,zA,zB,zC,zD,zE,zF,zG,zH,zI,reduceCtorEq]
        refine zL fun K11 hK11=> ?_
        refine zL fun K hK=> ?_
        refine zM zQ zO [] rfl ?_
        all_goals simp only [push_cast,↓zK,↓zJ,↓reduceIte,zA,zB,zC,zD,zE,zF,zG,zH,zI,reduceCtorEq]
        all_goals repeat'(first|(apply zP<;>(intro hg;(try simp only [push_cast]at hg)))|apply And.intro|(intro hg;(try simp only [push_cast]at hg)))
        all_goals first|exact gA|(exact zR (by omega))|(exact zN (by simp only [push_cast];omega))|(exact zN (by omega))|skip
        all_goals first|(refine hK _ ?_;clear hK K)|(simp only [push_cast];done)
        refine zU rfl (fun hc=> ?_) (fun hc=> ?_)<;>(try simp only [push_cast]at hc)
        ·
         refine zV ?_
         (try simp only [zS,zT,reduceIte,zF]);refine hK11 _ ?_
         refine zL fun K12 hK12=> ?_
         refine zX ?_
         have hatx:=hat x (by omega)
         have hbb:=zDE (p:=gp ps i) (x:=x) hXl hgr (by omega)
         have hbg:=zBj (p:=gp ps i) (x:=x) hXl hgr (by omega)
         have hBk:gb (shW (gp ps i).give P P.length) x=false→Fn Try.prog tyT 37 [.c (DII X), .c (.lst 4 (dB (List.take P.length (shW (gp ps i).give P P.length)))), .c (.int .i64 x)] [.c (.bool (gb (Zl X (vu (shW (gp ps i).give P P.length)) x P.length) x))]:=fun h=>by rw [htk9];exact zA4 X (shW (gp ps i).give P P.length) x P.length (by omega) (by omega) hXl hsl (fun y hy=>Nat.le_trans (hX16 y) (by decide)) (fun y hy k hk=>by have :=hgr.rng y _ (kr hk);rw [hXl]at this;exact this) h
         refine zL fun K hK=> ?_
         refine yu false zQ zO qM ?_ rfl ?_
         ·kernel_rfl
         intro E hE
         all_goals refine vL 17 (by decide) fun K9 hK9=> ?_
         all_goals simp only [push_cast,↓zK,↓zJ,↓reduceIte,zA,zB,zC,zD,zE,zF,zG,zH,zI,reduceCtorEq]
         all_goals repeat'(first|(apply zP<;>(intro hg;(try simp only [push_cast]at hg)))|(refine⟨_,ZJ (gp ps i).ask (gq P x).at_ (hga i),?_⟩;simp only [push_cast,↓zK,↓zJ,↓reduceIte,zA,zB,zC,zD,zE,zF,zG,zH,zI,reduceCtorEq])|(refine⟨_,hBk (by with_reducible assumption),?_⟩;simp only [push_cast,↓zK,↓zJ,↓reduceIte,zA,zB,zC,zD,zE,zF,zG,zH,zI,reduceCtorEq])|apply And.intro|(intro hg;(try simp only [push_cast]at hg)))
         all_goals first|exact gA|(exact zR (by omega))|(exact zN (by simp only [push_cast];omega))|(exact zN (by omega))|skip
         all_goals first|(refine hK9 _ _ ?_;clear hK9 K9)|(simp only [push_cast];done)
         all_goals refine vL 6 (by decide) fun K9 hK9=> ?_
         all_goals simp only [push_cast,↓zK,↓zJ,↓reduceIte,zA,zB,zC,zD,zE,zF,zG,zH,zI,reduceCtorEq]
         all_goals repeat'(first|(apply zP<;>(intro hg;(try simp only [push_cast]at hg)))|(refine⟨_,ZJ (gp ps i).ask (gq P x).at_ (hga i),?_⟩;simp only [push_cast,↓zK,↓zJ,↓reduceIte,zA,zB,zC,zD,zE,zF,zG,zH,zI,reduceCtorEq])|(refine⟨_,hBk (by with_reducible assumption),?_⟩;simp only [push_cast,↓zK,↓zJ,↓reduceIte,zA,zB,zC,zD,zE,zF,zG,zH,zI,reduceCtorEq])|apply And.intro|(intro hg;(try simp only [push_cast]at hg)))
         all_goals first|exact gA|(exact zR (by omega))|(exact zN (by simp only [push_cast];omega))|(exact zN (by omega))|skip
         all_goals first|(refine hK9 _ _ ?_;clear hK9 K9)|(simp only [push_cast];done)
         all_goals simp only [push_cast,↓zK,↓zJ,↓reduceIte,zA,zB,zC,zD,zE,zF,zG,zH,zI,reduceCtorEq]
         all_goals repeat'(first|(apply zP<;>(intro hg;(try simp only [push_cast]at hg)))|(refine⟨_,ZJ (gp ps i).ask (gq P x).at_ (hga i),?_⟩;simp only [push_cast,↓zK,↓zJ,↓reduceIte,zA,zB,zC,zD,zE,zF,zG,zH,zI,reduceCtorEq])|(refine⟨_,hBk (by with_reducible assumption),?_⟩;simp only [push_cast,↓zK,↓zJ,↓reduceIte,zA,zB,zC,zD,zE,zF,zG,zH,zI,reduceCtorEq])|apply And.intro|(intro hg;(try simp only [push_cast]at hg)))
         all_goals first|exact gA|(refine hE _ _ ?_ ?_;kernel_rfl)|(exact zR (by omega))|(exact zN (by simp only [push_cast];omega))|(exact zN (by omega))|skip
         all_goals clear hE E
         all_goals first|(refine hK _ ?_;clear hK K)|(simp only [push_cast];done)
         all_goals refine zU rfl (fun hc=> ?_) (fun hc=> ?_)
         all_goals(first|(cases hc;done)|skip)
         all_goals(try simp only [push_cast]at hc)
         all_goals try(
           refine zV ?_
           (try simp only [zS,zT,reduceIte,zF]);refine hK12 _ ?_
           refine zM zQ zO [] rfl ?_
           all_goals simp only [push_cast,↓zK,↓zJ,↓reduceIte,zA,zB,zC,zD,zE,zF,zG,zH,zI,reduceCtorEq]
           all_goals repeat'(first|(apply zP<;>(intro hg;(try simp only [push_cast]at hg)))|apply And.intro|(intro hg;(try simp only [push_cast]at hg)))
           all_goals first|exact gA|(exact zR (by omega))|(exact zN (by simp only [push_cast];omega))|(exact zN (by omega))|skip
           refine hL3 _ ⟨x+1,⟨by omega,fun k hk=>(by
             by_cases e:k=x
             ·subst e
              refine hbg ?_
              rintro⟨q1,q2,q3⟩
              first|exact absurd (q1.symm.trans ‹gb (shW _ _ _) _=true›) (by decide)|exact absurd (q2.symm.trans ‹yR _ _=false›) (by decide)|exact absurd (q3.symm.trans ‹gb (Zl _ _ _ _) _=false›) (by decide)
             ·exact hal3 k (by omega))⟩,by omega,?_⟩
           refine zb rfl ?_ ?_ ?_<;>simp only [zj,zi,push_cast,↓zK,↓zJ,↓reduceIte,zA,zB,zC,zD,zE,zF,zG,zH,zI,reduceCtorEq]
           done)
         refine zL fun K hK=> ?_
         refine zM zQ zO [] rfl ?_
         all_goals simp only [push_cast,↓zK,↓zJ,↓reduceIte,zA,zB,zC,zD,zE,zF,zG,zH,zI,reduceCtorEq]
         all_goals repeat'(first|(apply zP<;>(intro hg;(try simp only [push_cast]at hg)))|apply And.intro|(intro hg;(try simp only [push_cast]at hg)))
         all_goals first|exact gA|(exact zR (by omega))|(exact zN (by simp only [push_cast];omega))|(exact zN (by omega))|skip
         all_goals first|(refine hK _ ?_;clear hK K)|(simp only [push_cast];done)
         refine za ?_
         (try simp only [zS,zT])
         refine⟨Or.inl rfl,?_⟩
         simp only [ze,push_cast,↓zK,↓zJ,↓reduceIte,zA,zB,zC,zD,zE,zF,zG,zH,zI,reduceCtorEq]
         rw [hno4 i x (by omega) (hbb (by with_reducible assumption) (by with_reducible assumption) (by with_reducible assumption))]
        ·
         refine zp ?_
         have hxx2:x=P.length:=by omega
         subst hxx2
         have hgood: ∀k,¬ZL X P (gp ps i) k:=fun k hk=>hal3 k hk.1 hk
         (try simp only [zS,zT,reduceIte,zF]);refine hK7 _ ?_
         refine zM zQ zO [] rfl ?_
         all_goals simp only [push_cast,↓zK,↓zJ,↓reduceIte,zA,zB,zC,zD,zE,zF,zG,zH,zI,reduceCtorEq]
         all_goals repeat'(first|(apply zP<;>(intro hg;(try simp only [push_cast]at hg)))|apply And.intro|(intro hg;(try simp only [push_cast]at hg)))
         all_goals first|exact gA|(exact zR (by omega))|(exact zN (by simp only [push_cast];omega))|(exact zN (by omega))|skip
         refine hL1 _ ⟨i+1,⟨by omega,fun k hk=>(by
           by_cases e:k=i
           ·subst e;exact hgood
           ·exact hall k (by omega))⟩,by omega,?_⟩
         refine zb rfl ?_ ?_ ?_<;>simp only [zj,zi,push_cast,↓zK,↓zJ,↓reduceIte,zA,zB,zC,zD,zE,zF,zG,zH,zI,reduceCtorEq]
    ·
     refine zp ?_
     have hii:i=ps.length:=by omega
     subst hii
     (try simp only [zS,zT,reduceIte,zF]);refine hK5 _ ?_
     refine zL fun K hK=> ?_
     refine zM zQ zO [] rfl ?_
     all_goals simp only [push_cast,↓zK,↓zJ,↓reduceIte,zA,zB,zC,zD,zE,zF,zG,zH,zI,reduceCtorEq]
     all_goals repeat'(first|(apply zP<;>(intro hg;(try simp only [push_cast]at hg)))|apply And.intro|(intro hg;(try simp only [push_cast]at hg)))
     all_goals first|exact gA|(exact zR (by omega))|(exact zN (by simp only [push_cast];omega))|(exact zN (by omega))|skip
     all_goals first|(refine hK _ ?_;clear hK K)|(simp only [push_cast];done)
     refine za ?_
     (try simp only [zS,zT])
     refine⟨Or.inl rfl,?_⟩
     simp only [ze,push_cast,↓zK,↓zJ,↓reduceIte,zA,zB,zC,zD,zE,zF,zG,zH,zI,reduceCtorEq]
     rw [hyes (fun x hx=>hal x hx) (fun k hk=>hall k hk)]
end Go.Proofs.Ytggpbepdeilpgaa
