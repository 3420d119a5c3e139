/- Where one may go from a place of a memory: the reference's function, whose result may be a row of the arena. -/
import Derived.Test.YtggpbepdeilpgaaB7zmw
import Derived.Test.YtggpbepdeilpgaaB5zmw
import Derived.Test.YtggpbepdeilpgaaB11zmw
import Derived.Test.YtggpbepdeilpgaaB10zmw
import Derived.Test.YtggpbepdeilpgaaB6zmw
namespace Go.Proofs.Ytggpbepdeilpgaa
open Go.RowKit
set_option linter.unusedVariables false
set_option linter.unusedSimpArgs false
theorem JT (w:World)(o1 o2 o3:Obj):(((w.alloc o1).alloc o2).alloc o3).heap[w.heap.size+1+1]? =some o3:=by
 rw [show w.heap.size+1+1=((w.alloc o1).alloc o2).heap.size by simp];exact heap_alloc_new _ _
theorem VN {lo:Nat}{w:World}{ow:Nat→Option Pl}{e:TypeId}(he:sz tyT e=1){xs:List D}{v:Value}(h:Rp (sz tyT) lo w ow .sh (.lst e xs) v)(h0:xs.length≠0):
  ∃(b o c:Nat) (vs:List Value),v= .slice (some ⟨b,o,none⟩) xs.length c∧vs.length=xs.length∧b<w.heap.size∧(∀(i:Nat) (u:Value),vs[i]? =some u→w.cell? ⟨b,o+i,none⟩=some u)∧∀(i:Nat) (x:D) (u:Value),xs[i]? =some x→vs[i]? =some u→Rp (sz tyT) lo w ow .sh x u:=by
 obtain⟨vs,⟨h1,n,h2,A,c,hv,h3,h4,h5⟩,h6⟩:=(zr _ _).1 h
 rw [he,Nat.mul_one]at h2
 subst h2
 obtain⟨b,o,rfl,hb,ho,hc⟩:=h5 h0
 exact⟨b,o,c,vs,hv,h1,hb,hc,h6⟩
def GoesR (N:Nat)(w:World)(own cho:Int)(A:Option Addr)(ln cn:Nat)(e:Ending)(w':World):Prop:=Below N w w'∧
   ((own=1∧e= .returned (.slice A ln cn))∨(own≠1∧cho<0∧∃g,N≤g∧e= .returned (.slice (some ⟨g,0,none⟩) 0 0)∧w'.heap[g]? =some (.cells #[] 2 (0,0)))∨(own≠1∧¬cho<0∧∃g,N≤g∧e= .returned (.slice (some ⟨g,0,none⟩) 1 1)∧w'.heap[g]? =some (.cells #[.int .i64 cho] 2 (0,0))))
set_option maxHeartbeats 1000000 in
theorem UT {w:World}{n ns:Nat}{v s:Nat}(hv:v<n)(hn:n≤256)(hs:s<ns)(hns:ns≤24){M:Value}{b1 o1 c1 b2 o2 c2 b3 o3 c3 b4 o4 c4:Nat}{own cho:Int}{A:Option Addr}{ln cn:Nat}
  (hb1:b1<w.heap.size) (hc1:w.cell? ⟨b1,o1+v,none⟩=some (.int .i64 own)) (hb2:b2<w.heap.size) (hc2:w.cell? ⟨b2,o2+v,none⟩=some (.slice A ln cn))
  (hb3:b3<w.heap.size) (hc3:w.cell? ⟨b3,o3+s,none⟩=some (.slice (some ⟨b4,o4,none⟩) n c4)) (hb4:b4<w.heap.size) (hc4:w.cell? ⟨b4,o4+v,none⟩=some (.int .i64 cho)):
  Calls Try.prog 66 #[.agg #[.slice (some ⟨b1,o1,none⟩) n c1, .slice (some ⟨b2,o2,none⟩) n c2], .agg #[M, .slice (some ⟨b3,o3,none⟩) ns c3], .int .i64 v, .int .i64 s] w (GoesR w.heap.size w own cho A ln cn):=by
 go_enter Try.func66,Try.ntmps66
 by_cases h1:own=1
 ·subst h1
  go_wp2_with fail
  go_ret
  exact⟨by repeat(first|(with_reducible exact Below.refl _ _)|(with_reducible assumption)|(with_reducible refine Below.drew ?_)|(with_reducible refine YY ?_ _)|((with_reducible refine Below.setCell ?_ ?_ _);rotate_left;(focus first|omega|(simp;done)|(simp;omega)))|((with_reducible refine Below.alloc ?_ ?_ _);rotate_left;(focus first|omega|(simp;done)|(simp;omega)))|(refine Below.trans ?_ (Below.mono (by assumption) (by first|omega|(simp;done)|(simp;omega))))), .inl ⟨rfl,rfl⟩⟩
 ·by_cases h2:cho<0
  ·go_wp2_with fail
   go_ret
   exact⟨by repeat(first|(with_reducible exact Below.refl _ _)|(with_reducible assumption)|(with_reducible refine Below.drew ?_)|(with_reducible refine YY ?_ _)|((with_reducible refine Below.setCell ?_ ?_ _);rotate_left;(focus first|omega|(simp;done)|(simp;omega)))|((with_reducible refine Below.alloc ?_ ?_ _);rotate_left;(focus first|omega|(simp;done)|(simp;omega)))|(refine Below.trans ?_ (Below.mono (by assumption) (by first|omega|(simp;done)|(simp;omega))))), .inr (.inl ⟨h1,h2,_,by omega,rfl,JT _ _ _ _⟩)⟩
  ·go_wp2_with fail
   go_ret
   exact⟨by repeat(first|(with_reducible exact Below.refl _ _)|(with_reducible assumption)|(with_reducible refine Below.drew ?_)|(with_reducible refine YY ?_ _)|((with_reducible refine Below.setCell ?_ ?_ _);rotate_left;(focus first|omega|(simp;done)|(simp;omega)))|((with_reducible refine Below.alloc ?_ ?_ _);rotate_left;(focus first|omega|(simp;done)|(simp;omega)))|(refine Below.trans ?_ (Below.mono (by assumption) (by first|omega|(simp;done)|(simp;omega))))), .inr (.inr ⟨h1,by omega,_,by omega,rfl,JT _ _ _ _⟩)⟩
theorem US (a:Ar)(m:Me)(st:Int)(h:MmI a m st)(p:Plc)(hp:OkM a m p):FnE Try.prog tyT 66 [.agg (dAr a), .agg (dMe m), .c (.int .i64 p.at_), .c (.int .i64 (gi p.record 0))] (DI (usM a m p)):=by
 refine⟨⟨Try.f66,Try.func66,by kernel_rfl,by kernel_rfl⟩,fun lo w ow cargs hlo hnew hargs=> ?_⟩
 obtain⟨hp1,hp2,hp3,hp4,hp5⟩:=hp
 obtain⟨v,hv⟩:=Int.eq_ofNat_of_zero_le hp1
 obtain⟨s,hs⟩:=Int.eq_ofNat_of_zero_le hp4
 have hal:=yi h.ar
 obtain⟨k1,k2⟩:=vb h.mem
 obtain⟨k3,k4,k5⟩:=k2 s (by omega)
 have k6:=(WF k4).1
 obtain⟨q1,q2,q3,q4,q5⟩:=QH h.ar (v:=v) (by omega)
 unfold dAr dMe at hargs
 simp only [xX,wD,RpS]at hargs
 obtain⟨v0,vs0,rfl,⟨cs,rfl,c0,cs0,rfl,how,c1,cs1,rfl,hnx,rfl⟩,v1,vs1,rfl,⟨ds,rfl,d0,ds0,rfl,hmn,d1,ds1,rfl,hmc,rfl⟩,v2,vs2,rfl,hv2,v3,vs3,rfl,hv3,rfl⟩:=hargs
 simp only [Rp]at hv2 hv3
 subst hv2 hv3
 have l0:(dI a.owner).length=a.owner.length:=Zp _
 have l1:(dII a.next).length=a.next.length:=vZ _
 have l2:(dII m.choice).length=m.choice.length:=vZ _
 obtain⟨b1,o1,e1,us1,rfl,hu1,hb1,hc1,hk1⟩:=VN (by decide) how (by omega)
 obtain⟨b2,o2,e2,us2,rfl,hu2,hb2,hc2,hk2⟩:=VN (by decide) hnx (by omega)
 obtain⟨b3,o3,e3,us3,rfl,hu3,hb3,hc3,hk3⟩:=VN (by decide) hmc (by omega)
 have g1:us1[v]? =some us1[v]:=List.getElem?_eq_getElem (by omega)
 have g2:us2[v]? =some us2[v]:=List.getElem?_eq_getElem (by omega)
 have g3:us3[s]? =some us3[s]:=List.getElem?_eq_getElem (by omega)
 have r1:=hk1 v (.int .i64 (gi a.owner v)) _ (by unfold dI;rw [List.getElem?_map,ZY (by omega)];rfl) g1
 have r2:=hk2 v (DI (gl a.next v)) _ (by unfold dII;rw [List.getElem?_map,wy (by omega)];rfl) g2
 have r3:=hk3 s (DI (gl m.choice s)) _ (by unfold dII;rw [List.getElem?_map,wy (by omega)];rfl) g3
 simp only [Rp]at r1
 have l4:(dI (gl m.choice s)).length=(gl m.choice s).length:=Zp _
 obtain⟨b4,o4,e4,us4,er3,hu4,hb4,hc4,hk4⟩:=VN (by decide) r3 (by omega)
 have g4:us4[v]? =some us4[v]:=List.getElem?_eq_getElem (by omega)
 have r4:=hk4 v (.int .i64 (gi (gl m.choice s) v)) _ (by unfold dI;rw [List.getElem?_map,ZY (by omega)];rfl) g4
 simp only [Rp]at r4
 obtain⟨A,ln,cn,er2,-⟩:=xl r2
 have hrun:=UT (w:=w) (n:=a.owner.length) (ns:=m.choice.length) (v:=v) (s:=s) (by omega) (by omega) (by omega) (by omega) (M:=d0) (c1:=e1) (c2:=e2) (c3:=e3) (c4:=e4) hb1 (by rw [hc1 v _ g1,r1]) hb2 (by rw [hc2 v _ g2,er2]) hb3 (by rw [hc3 s _ g3,er3,l4,k6]) hb4 (by rw [hc4 v _ g4,r4])
 rw [l0,l1,l2,hal.2.2,hv,hs]
 refine hrun.mono fun e w' hpost=> ?_
 obtain⟨hbl,hq⟩:=hpost
 have eU:usM a m p=if gi a.owner v=1 then gl a.next v else if gi (gl m.choice s) v<0 then []else [gi (gl m.choice s) v]:=by
  have e5:p.at_.toNat=v:=by omega
  have e6:(gi p.record 0).toNat=s:=by omega
  by_cases e7:gi a.owner v=1
  ·rw [if_pos e7,XI (by rw [e5];omega),e5]
  ·by_cases e8:gi (gl m.choice s) v<0
   ·rw [if_neg e7,if_pos e8,JU (by rw [e5];omega) (by unfold chM;rw [e5,e6];exact e8)]
   ·rw [if_neg e7,if_neg e8,VP (by rw [e5];omega) (by unfold chM;rw [e5,e6];exact e8)]
    unfold chM
    rw [e5,e6]
 rcases hq with⟨e7,he⟩|⟨e7,e8,g,hg1,he,hg2⟩|⟨e7,e8,g,hg1,he,hg2⟩
 ·refine⟨_,he,hbl,?_⟩
  rw [eU,if_pos e7,←er2]
  exact zy _ _ hbl.size _ _ _ (fun b hb _=>⟨hbl.block b hb,rfl⟩) r2
 ·refine⟨_,he,hbl,?_⟩
  rw [eU,if_neg e7,if_pos e8]
  exact(zr _ _).2 ⟨[],⟨rfl,0,rfl,_,_,rfl,Nat.le_refl _,by unfold maxLen;omega,fun hh=>absurd rfl hh⟩,fun j y z hy hz=>by simp at hz⟩
 ·refine⟨_,he,hbl,?_⟩
  rw [eU,if_neg e7,if_neg e8]
  refine(zr _ _).2 ⟨[.int .i64 (gi (gl m.choice s) v)],⟨rfl,1,rfl,_,_,rfl,Nat.le_refl _,by unfold maxLen;omega,fun _=>⟨g,0,rfl,(Array.getElem?_eq_some_iff.1 hg2).1,hnew g hg1,fun j y hy=> ?_⟩⟩,fun j y z hy hz=> ?_⟩
  ·cases j with
   |zero=>simp at hy;subst hy;unfold World.cell?;rw [Nat.zero_add];simp [hg2]
   |succ j=>simp at hy
  ·cases j with
   |zero=>simp [dI]at hy hz;subst hy;subst hz;simp only [Rp]
   |succ j=>simp at hz
open Nat renaming reduceMod → zA, reduceMul → zB, reduceDiv → zC, reduceAdd → zD, reduceSub → zE, reduceEqDiff → zF, reduceBEq → zG, reduceLT → zH, reduceLeDiff → zI
def wv (N j:Nat):List Int:=(List.range N).map fun i=>if i<j then -1 else 0
theorem zBz (N j:Nat):(wv N j).length=N:=by simp [wv]
theorem zE6 (N:Nat):wv N 0=List.replicate N 0:=by
 unfold wv
 rw [List.eq_replicate_iff]
 refine⟨by simp,fun b hb=> ?_⟩
 obtain⟨i,-,rfl⟩:=List.mem_map.1 hb
 rw [if_neg (by omega)]
theorem zB0 {N j:Nat}(h:j<N):(wv N j).set j (-1)=wv N (j+1):=by
 refine List.ext_getElem? fun i=> ?_
 rw [List.getElem?_set]
 unfold wv
 rw [List.length_map,List.length_range,List.getElem?_map,List.getElem?_map]
 by_cases e:j=i
 ·subst e;rw [if_pos rfl,if_pos h,List.getElem?_range h];simp
 ·rw [if_neg e]
  by_cases h2:i<N
  ·rw [List.getElem?_range h2]
   simp only [Option.map_some]
   by_cases h3:i<j
   ·rw [if_pos h3,if_pos (by omega)]
   ·rw [if_neg h3,if_neg (by omega)]
  ·rw [List.getElem?_eq_none (by simp;omega)];rfl
theorem zBy (n k:Nat):wv (n*k) (n*k)=whV n k []:=by
 unfold wv whV
 refine List.map_congr_left fun i hi=> ?_
 rw [if_pos (List.mem_range.1 hi),Ju]
theorem zCr {n k:Nat}{s:Int}(hs:0≤s∧s<n)(hk:1≤k):(whV n k []).set s.toNat 0=whV n k [⟨s,[0]⟩]:=by
 have :=zAZ (n:=n) (k:=k) (ps:= []) (u:=s) (t:=0) hs (by omega) (by rw [Ju];decide)
 rw [Int.zero_mul,Int.zero_add]at this
 exact this
theorem mulT {t n:Int}(h:0≤t∧t≤24)(h2:0≤n∧n≤256):0≤t*n∧t*n≤6144:=by
 have h3:=Int.mul_nonneg h.1 h2.1
 have h4:=Int.mul_le_mul h.2 h2.2 h2.1 (by decide)
 exact⟨h3,by omega⟩
set_option maxRecDepth 20000 in
set_option maxHeartbeats 8000000 in
theorem zA5 (a:Ar)(ha:a.Ln 1048576)(m:Me)(hm:m.Ln 1048576)(s:Int)(h:MmI a m s):Fn Try.prog tyT 35 [.agg (dAr a), .agg (dMe m), .c (.int .i64 s)] [.c (.lst 78 (yj (stM a m s 6145))), .c (DII (rsM a m s (stM a m s 6145).length))]:=by
 have hno:=ha.owner
 have hnn:=ha.next.1
 have hrr9: ∀v,(gl a.next v).length≤1048576:=fun v=>wx ha.next v
 unfold LnI at hno
 have hal:=yi h.ar
 obtain⟨hk0,hkm⟩:=vb h.mem
 have hs0:=h.st
 have hnk0:a.owner.length*m.next.length≤256*24:=Nat.mul_le_mul (by omega) (by omega)
 have hnk1:a.owner.length*1≤a.owner.length*m.next.length:=Nat.mul_le_mul_left _ (by omega)
 have hcast:(((a.owner.length*m.next.length):Nat):Int)=(a.owner.length:Int)*m.next.length:=by push_cast
 have hcn:((a.owner.length:Int)*m.next.length).toNat=(a.owner.length*m.next.length):=by rw [←hcast];exact Int.toNat_natCast _
 unfold dAr dMe
 refine yC (fn:=Try.f35) (ts:= [6,7]) Try.func35 (by kernel_rfl) rfl rfl (by rw [Try.ntmps35];exact Nat.le_of_ble_eq_true rfl) rfl (by simp only [szA,List.mem_cons,List.not_mem_nil,or_false,forall_eq_or_imp,forall_eq,VT.cells,szL];try decide) ?_
 rw [Try.ntmps35]
 simp only [push_cast,↓zK,↓zJ,↓reduceIte,zA,zB,zC,zD,zE,zF,zG,zH,zI,reduceCtorEq]
 refine zL fun K hK=> ?_
 refine zM zQ zO [] rfl ?_
 all_goals simp only [push_cast,↓zK,↓zJ,↓reduceIte,zA,zB,zC,zD,zE,zF,zG,zH,zI,reduceCtorEq]
 all_goals repeat'(first|(apply zP<;>(intro hg;(try simp only [push_cast]at hg)))|apply And.intro|(intro hg;(try simp only [push_cast]at hg)))
 all_goals first|exact gA|(exact zR (by omega))|skip
 all_goals first|(refine hK _ ?_;clear hK K)|(simp only [push_cast];done)
 refine zL fun K hK=> ?_
 refine zM zQ zO [] rfl ?_
 all_goals simp only [push_cast,↓zK,↓zJ,↓reduceIte,zA,zB,zC,zD,zE,zF,zG,zH,zI,reduceCtorEq]
 all_goals repeat'(first|(apply zP<;>(intro hg;(try simp only [push_cast]at hg)))|apply And.intro|(intro hg;(try simp only [push_cast]at hg)))
 all_goals first|exact gA|(exact zR (by omega))|skip
 all_goals first|(refine hK _ ?_;clear hK K)|(simp only [push_cast];done)
 refine zL fun K hK=> ?_
 refine zM zQ zO [] rfl ?_
 all_goals simp only [push_cast,↓zK,↓zJ,↓reduceIte,zA,zB,zC,zD,zE,zF,zG,zH,zI,reduceCtorEq]
 all_goals repeat'(first|(apply zP<;>(intro hg;(try simp only [push_cast]at hg)))|apply And.intro|(intro hg;(try simp only [push_cast]at hg)))
 all_goals first|exact gA|(exact zR (by omega))|skip
 all_goals first|(refine hK _ ?_;clear hK K)|(simp only [push_cast];done)
 refine zL fun K1 hK1=> ?_
 refine zL fun K hK=> ?_
 refine zM zQ zO [] rfl ?_
 all_goals simp only [push_cast,↓zK,↓zJ,↓reduceIte,zA,zB,zC,zD,zE,zF,zG,zH,zI,reduceCtorEq]
 all_goals repeat'(first|(apply zP<;>(intro hg;(try simp only [push_cast]at hg)))|apply And.intro|(intro hg;(try simp only [push_cast]at hg)))
 all_goals first|exact gA|(exact zR (by omega))|skip
 all_goals first|(refine hK _ ?_;clear hK K)|(simp only [push_cast];done)
 refine zX ?_
 refine zn [10,29,30,31,32,33,34,35,36,37] [144] (fun(j:Nat)=> [(10, .int .i64 j)]) (fun j=> []) (fun j=> [(144,⟨.ex,2,dI (wv (a.owner.length*m.next.length) j),none⟩)]) (fun j=>j≤(a.owner.length*m.next.length)) (fun j=>(a.owner.length*m.next.length) - j) 0 ?_ (by omega) ?_
 ·
  rw [zE6]
  refine zb rfl ?_ ?_ ?_<;>simp only [zj,zi,push_cast,↓zK,↓zJ,↓reduceIte,zA,zB,zC,zD,zE,zF,zG,zH,zI,reduceCtorEq]
  all_goals first|rfl|skip
 ·rintro j hj KL0 hL0
  have hfl:=zBz (a.owner.length*m.next.length) j
  simp only [push_cast,↓zK,↓zJ,↓reduceIte,zA,zB,zC,zD,zE,zF,zG,zH,zI,reduceCtorEq]
  refine zL fun K2 hK2=> ?_
  refine zL fun K hK=> ?_
  refine zM zQ zO [] rfl ?_
  all_goals simp only [push_cast,↓zK,↓zJ,↓reduceIte,zA,zB,zC,zD,zE,zF,zG,zH,zI,reduceCtorEq]
  all_goals repeat'(first|(apply zP<;>(intro hg;(try simp only [push_cast]at hg)))|apply And.intro|(intro hg;(try simp only [push_cast]at hg)))
  all_goals first|exact gA|(exact zR (by omega))|skip
  all_goals first|(refine hK _ ?_;clear hK K)|(simp only [push_cast];done)
  refine zU rfl (fun hc=> ?_) (fun hc=> ?_)<;>(try simp only [push_cast]at hc)
  ·
   refine zV ?_
   (try simp only [zS,zT,reduceIte,zF]);refine hK2 _ ?_
   refine zL fun K3 hK3=> ?_
   refine zX ?_
   refine zM zQ zO [] rfl ?_
   all_goals simp only [push_cast,↓zK,↓zJ,↓reduceIte,zA,zB,zC,zD,zE,zF,zG,zH,zI,reduceCtorEq]
   all_goals repeat'(first|(apply zP<;>(intro hg;(try simp only [push_cast]at hg)))|apply And.intro|(intro hg;(try simp only [push_cast]at hg)))
   all_goals first|exact gA|(exact zR (by omega))|skip
   (try simp only [zS,zT,reduceIte,zF]);refine hK3 _ ?_
   refine zM zQ zO [] rfl ?_
   all_goals simp only [push_cast,↓zK,↓zJ,↓reduceIte,zA,zB,zC,zD,zE,zF,zG,zH,zI,reduceCtorEq]
   all_goals repeat'(first|(apply zP<;>(intro hg;(try simp only [push_cast]at hg)))|apply And.intro|(intro hg;(try simp only [push_cast]at hg)))
   all_goals first|exact gA|(exact zR (by omega))|skip
   refine hL0 _ ⟨j+1,by omega,by omega,?_⟩
   rw [←zB0 (by omega)]
   refine zb rfl ?_ ?_ ?_<;>simp only [zj,zi,push_cast,↓zK,↓zJ,↓reduceIte,zA,zB,zC,zD,zE,zF,zG,zH,zI,reduceCtorEq]
   all_goals first|rfl|skip
  ·
   refine zp ?_
   have hjj:j=(a.owner.length*m.next.length):=by omega
   subst hjj
   rw [zBy]
   have hwl0:=VQ a.owner.length m.next.length []
   (try simp only [zS,zT,reduceIte,zF]);refine hK1 _ ?_
   refine zL fun K hK=> ?_
   refine zf false zQ zO ?_ rfl ?_
   ·kernel_rfl
   simp only [push_cast,↓zK,↓zJ,↓reduceIte,zA,zB,zC,zD,zE,zF,zG,zH,zI,reduceCtorEq]
   all_goals repeat'(first|(apply zP<;>(intro hg;(try simp only [push_cast]at hg)))|apply And.intro|(intro hg;(try simp only [push_cast]at hg)))
   all_goals first|exact gA|(exact zR (by omega))|skip
   all_goals first|(refine hK _ ?_;clear hK K)|(simp only [push_cast];done)
   refine vS 78 11 (Nat.le_of_ble_eq_true rfl) ?_
   simp only [push_cast,↓zK,↓zJ,↓reduceIte,zA,zB,zC,zD,zE,zF,zG,zH,zI,reduceCtorEq]
   refine zL fun K hK=> ?_
   refine zM zQ zO [] rfl ?_
   all_goals simp only [push_cast,↓zK,↓zJ,↓reduceIte,zA,zB,zC,zD,zE,zF,zG,zH,zI,reduceCtorEq]
   all_goals repeat'(first|(apply zP<;>(intro hg;(try simp only [push_cast]at hg)))|apply And.intro|(intro hg;(try simp only [push_cast]at hg)))
   all_goals first|exact gA|(exact zR (by omega))|skip
   all_goals first|(refine hK _ ?_;clear hK K)|(simp only [push_cast];done)
   refine zL fun K hK=> ?_
   refine zf false zQ zO ?_ rfl ?_
   ·kernel_rfl
   simp only [push_cast,↓zK,↓zJ,↓reduceIte,zA,zB,zC,zD,zE,zF,zG,zH,zI,reduceCtorEq]
   all_goals repeat'(first|(apply zP<;>(intro hg;(try simp only [push_cast]at hg)))|apply And.intro|(intro hg;(try simp only [push_cast]at hg)))
   all_goals first|exact gA|(exact zR (by omega))|skip
   all_goals first|(refine hK _ ?_;clear hK K)|(simp only [push_cast];done)
   refine zL fun K4 hK4=> ?_
   refine vS 22 12 (Nat.le_of_ble_eq_true rfl) ?_
   simp only [push_cast,↓zK,↓zJ,↓reduceIte,zA,zB,zC,zD,zE,zF,zG,zH,zI,reduceCtorEq]
   refine zL fun K hK=> ?_
   refine zM zQ zO [] rfl ?_
   all_goals simp only [push_cast,↓zK,↓zJ,↓reduceIte,zA,zB,zC,zD,zE,zF,zG,zH,zI,reduceCtorEq]
   all_goals repeat'(first|(apply zP<;>(intro hg;(try simp only [push_cast]at hg)))|apply And.intro|(intro hg;(try simp only [push_cast]at hg)))
   all_goals first|exact gA|(exact zR (by omega))|skip
   all_goals first|(refine hK _ ?_;clear hK K)|(simp only [push_cast];done)
   refine zX ?_
   refine zn [11,12,13,14,15,16,17,18,19,46,47,48,49,50,51,52,53,54,55,56,57,58,59,60,61,62,63,64,65,66,67,68,69,70,71,72,73,74,75,76,77,78,79,80,81,82,83,84,85,86,87,88,89,90,91,92,93,94,95,96,97,98,99,100,101,102,103,104,105,106,107,108,109,110,111,112,113,114,115,116,117,118,119,120,121,122,123,124,125,126,127,128] [144] (fun(i:Nat)=> [(13, .int .i64 i),(11, .sl 176 [] 0 (stM a m s i).length 78),(12, .sl 192 [] 0 i 22)]) (fun i=> []) (fun i=> [(176,⟨.ex,78,yj (stM a m s i),none⟩),(192,⟨.ex,22,dII (rsM a m s i),none⟩),(144,⟨.ex,2,dI (whV a.owner.length m.next.length (stM a m s i)),none⟩)]) (fun i=>i≤(stM a m s i).length) (fun i=>6145 - i) 0 ?_ (by show 0≤1;decide) ?_
   ·
    rw [show stM a m s 0= [⟨s,[0]⟩]from rfl,zEX,←zCr hs0 hk0.1]
    refine zb rfl ?_ ?_ ?_<;>simp only [zj,zi,push_cast,↓zK,↓zJ,↓reduceIte,zA,zB,zC,zD,zE,zF,zG,zH,zI,reduceCtorEq]
    all_goals first|exact⟨rfl,rfl⟩|exact⟨rfl,rfl,rfl⟩|rfl|skip
   ·rintro i hi KL1 hL1
    have hfew:=Wm h i
    have hrs:=wo a m s i
    have hwl1:=VQ a.owner.length m.next.length (stM a m s i)
    have hq:QLn 1048576 (stM a m s i):=⟨by omega,fun p hp=>by rw [(qR h i p hp).2.2.1];show 1≤1048576;decide⟩
    simp only [push_cast,↓zK,↓zJ,↓reduceIte,zA,zB,zC,zD,zE,zF,zG,zH,zI,reduceCtorEq]
    refine zL fun K5 hK5=> ?_
    refine zL fun K hK=> ?_
    refine zM zQ zO [] rfl ?_
    all_goals simp only [push_cast,↓zK,↓zJ,↓reduceIte,zA,zB,zC,zD,zE,zF,zG,zH,zI,reduceCtorEq]
    all_goals repeat'(first|(apply zP<;>(intro hg;(try simp only [push_cast]at hg)))|apply And.intro|(intro hg;(try simp only [push_cast]at hg)))
    all_goals first|exact gA|(exact zR (by omega))|skip
    all_goals first|(refine hK _ ?_;clear hK K)|(simp only [push_cast];done)
    refine zU rfl (fun hc=> ?_) (fun hc=> ?_)<;>(try simp only [push_cast]at hc)
    ·
     refine zV ?_
     (try simp only [zS,zT,reduceIte,zF]);refine hK5 _ ?_
     refine zL fun K6 hK6=> ?_
     refine zX ?_
     have hi2:i<(stM a m s i).length:=by omega
     have hP:=qR h i _ (vk hi2)
     obtain⟨hU1,hU2,hN1,hN2⟩:=Qp h hP
     have hE:=US a m s h _ hP
     unfold dAr dMe at hE
     obtain⟨hP1,hP2,hP3,hP4,hP5⟩:=hP
     have hPl:(gq (stM a m s i) i).record.length=1:=by rw [hP3];rfl
     obtain⟨hr1,hr2,hr3⟩:=hkm (gi (gq (stM a m s i) i).record 0).toNat (by omega)
     unfold ntM at hN1 hN2
     have hTn:=mulT (t:=(gi (gl m.next (gi (gq (stM a m s i) i).record 0).toNat) (gq (stM a m s i) i).at_.toNat)) (n:=a.owner.length) (by omega) (by omega)
     refine zL fun K hK=> ?_
     refine zM zQ zO [] rfl ?_
     all_goals simp only [push_cast,↓zK,↓zJ,↓reduceIte,zA,zB,zC,zD,zE,zF,zG,zH,zI,reduceCtorEq]
     all_goals repeat'(first|(apply zP<;>(intro hg;(try simp only [push_cast]at hg)))|apply And.intro|(intro hg;(try simp only [push_cast]at hg)))
     all_goals first|exact gA|(exact zR (by omega))|skip
     all_goals first|(refine hK _ ?_;clear hK K)|(simp only [push_cast];done)
     refine zL fun K hK=> ?_
     refine zM zQ zO [] rfl ?_
     all_goals simp only [push_cast,↓zK,↓zJ,↓reduceIte,zA,zB,zC,zD,zE,zF,zG,zH,zI,reduceCtorEq]
     all_goals repeat'(first|(apply zP<;>(intro hg;(try simp only [push_cast]at hg)))|apply And.intro|(intro hg;(try simp only [push_cast]at hg)))
     all_goals first|exact gA|(exact zR (by omega))|skip
     all_goals first|(refine hK _ ?_;clear hK K)|(simp only [push_cast];done)
     refine zL fun K hK=> ?_
     refine UN 68 zQ zO [] rfl ?_
     all_goals simp only [push_cast,↓zK,↓zJ,↓reduceIte,zA,zB,zC,zD,zE,zF,zG,zH,zI,reduceCtorEq]
     all_goals repeat'(first|(apply zP<;>(intro hg;(try simp only [push_cast]at hg)))|(refine⟨_,_,hE,?_⟩;(try simp only [push_cast,↓zK,↓zJ,↓reduceIte,zA,zB,zC,zD,zE,zF,zG,zH,zI,reduceCtorEq]))|apply And.intro|(intro hg;(try simp only [push_cast]at hg)))
     all_goals first|exact gA|(exact zR (by omega))|skip
     all_goals first|(refine hK _ ?_;clear hK K)|(simp only [push_cast];done)
     refine zL fun K hK=> ?_
     refine zM zQ zO [] rfl ?_
     all_goals simp only [push_cast,↓zK,↓zJ,↓reduceIte,zA,zB,zC,zD,zE,zF,zG,zH,zI,reduceCtorEq]
     all_goals repeat'(first|(apply zP<;>(intro hg;(try simp only [push_cast]at hg)))|apply And.intro|(intro hg;(try simp only [push_cast]at hg)))
     all_goals first|exact gA|(exact zR (by omega))|skip
     all_goals first|(refine hK _ ?_;clear hK K)|(simp only [push_cast];done)
     refine zL fun K7 hK7=> ?_
     refine zL fun K hK=> ?_
     refine zM zQ zO [] rfl ?_
     all_goals simp only [push_cast,↓zK,↓zJ,↓reduceIte,zA,zB,zC,zD,zE,zF,zG,zH,zI,reduceCtorEq]
     all_goals repeat'(first|(apply zP<;>(intro hg;(try simp only [push_cast]at hg)))|apply And.intro|(intro hg;(try simp only [push_cast]at hg)))
     all_goals first|exact gA|(exact zR (by omega))|skip
     all_goals first|(refine hK _ ?_;clear hK K)|(simp only [push_cast];done)
     refine zX ?_
     refine zn [11,17,18,19,47,52,54,55,57,59,60,61,62,70,71,72,73,74,75,76,77,78,79,80,81,82,83,84,85,86,87,88,89,90,91,92,93,94,95,96,97,98,99,100,101,102,103,104,105,106,107,108,109,110,111,112,113,114,115,116,117,118,119,120,121,122,123,124] [144] (fun(k:Nat)=> [(18, .int .i64 k),(11, .sl 176 [] 0 (zh (rcM m (gq (stM a m s i) i)) (usM a m (gq (stM a m s i) i)) (stM a m s i) k).1.length 78),(17, .sl 272 [] 0 k 2)]) (fun k=> []) (fun k=> [(176,⟨.ex,78,yj (zh (rcM m (gq (stM a m s i) i)) (usM a m (gq (stM a m s i) i)) (stM a m s i) k).1,none⟩),(272,⟨.ex,2,dI (zh (rcM m (gq (stM a m s i) i)) (usM a m (gq (stM a m s i) i)) (stM a m s i) k).2,none⟩),(144,⟨.ex,2,dI (whV a.owner.length m.next.length (zh (rcM m (gq (stM a m s i) i)) (usM a m (gq (stM a m s i) i)) (stM a m s i) k).1),none⟩)]) (fun k=>k≤(usM a m (gq (stM a m s i) i)).length) (fun k=>(usM a m (gq (stM a m s i) i)).length - k) 0 ?_ (by omega) ?_
     ·
      rw [Qk]
      refine zb rfl ?_ ?_ ?_<;>simp only [zj,zi,push_cast,↓zK,↓zJ,↓reduceIte,zA,zB,zC,zD,zE,zF,zG,zH,zI,reduceCtorEq]
      all_goals first|rfl|exact⟨rfl,rfl⟩|exact⟨rfl,rfl,rfl⟩|skip
     ·rintro k hk KL2 hL2
      have hrl:=qn (r:=(rcM m (gq (stM a m s i) i))) (us:=(usM a m (gq (stM a m s i) i))) (ps:=(stM a m s i)) (k:=k) hk
      have hfr:=Wn h (i:=i) (k:=k) hi2 hk
      have hwl:=VQ a.owner.length m.next.length (zh (rcM m (gq (stM a m s i) i)) (usM a m (gq (stM a m s i) i)) (stM a m s i) k).1
      have huu0:k<(usM a m (gq (stM a m s i) i)).length→0≤(gi (usM a m (gq (stM a m s i) i)) k)∧(gi (usM a m (gq (stM a m s i) i)) k)<(a.owner.length:Int):=fun hk9=>hU2 _ (zB4 hk9)
      simp only [push_cast,↓zK,↓zJ,↓reduceIte,zA,zB,zC,zD,zE,zF,zG,zH,zI,reduceCtorEq]
      refine zL fun K8 hK8=> ?_
      refine zL fun K hK=> ?_
      refine zM zQ zO [] rfl ?_
      all_goals simp only [push_cast,↓zK,↓zJ,↓reduceIte,zA,zB,zC,zD,zE,zF,zG,zH,zI,reduceCtorEq]
      all_goals repeat'(first|(apply zP<;>(intro hg;(try simp only [push_cast]at hg)))|apply And.intro|(intro hg;(try simp only [push_cast]at hg)))
      all_goals first|exact gA|(exact zR (by omega))|skip
      all_goals first|(refine hK _ ?_;clear hK K)|(simp only [push_cast];done)
      refine zU rfl (fun hc=> ?_) (fun hc=> ?_)<;>(try simp only [push_cast]at hc)
      ·
       refine zV ?_
       (try simp only [zS,zT,reduceIte,zF]);refine hK8 _ ?_
       refine zL fun K9 hK9=> ?_
       refine zX ?_
       have huu:=huu0 (by omega)
       have hwx:gi (whV a.owner.length m.next.length (zh (rcM m (gq (stM a m s i) i)) (usM a m (gq (stM a m s i) i)) (stM a m s i) k).1) ((gi (gl m.next (gi (gq (stM a m s i) i).record 0).toNat) (gq (stM a m s i) i).at_.toNat)*(a.owner.length:Int)+(gi (usM a m (gq (stM a m s i) i)) k)).toNat=ixQ (yD (gi (usM a m (gq (stM a m s i) i)) k) (rcM m (gq (stM a m s i) i))) (zh (rcM m (gq (stM a m s i) i)) (usM a m (gq (stM a m s i) i)) (stM a m s i) k).1:=(JV huu ⟨hN1,hN2⟩).2
       have hwb:((gi (gl m.next (gi (gq (stM a m s i) i).record 0).toNat) (gq (stM a m s i) i).at_.toNat)*(a.owner.length:Int)+(gi (usM a m (gq (stM a m s i) i)) k)).toNat<(a.owner.length*m.next.length):=(JV (ps:=(zh (rcM m (gq (stM a m s i) i)) (usM a m (gq (stM a m s i) i)) (stM a m s i) k).1) huu ⟨hN1,hN2⟩).1
       refine zL fun K hK=> ?_
       refine yu false zQ zO qM ?_ rfl ?_
       ·kernel_rfl
       intro E hE
       all_goals simp only [push_cast,↓zK,↓zJ,↓reduceIte,zA,zB,zC,zD,zE,zF,zG,zH,zI,reduceCtorEq]
       all_goals repeat'(first|(apply zP<;>(intro hg;(try simp only [push_cast]at hg)))|apply And.intro|(intro hg;(try simp only [push_cast]at hg)))
       all_goals first|exact gA|(refine hE _ _ ?_ ?_;kernel_rfl)|(exact zR (by omega))|skip
       all_goals clear hE E
       all_goals first|(refine hK _ ?_;clear hK K)|(simp only [push_cast];done)
       refine zL fun K10 hK10=> ?_
       by_cases hx:ixQ (yD (gi (usM a m (gq (stM a m s i) i)) k) (rcM m (gq (stM a m s i) i))) (zh (rcM m (gq (stM a m s i) i)) (usM a m (gq (stM a m s i) i)) (stM a m s i) k).1<0
       ·
        refine zL fun K hK=> ?_
        refine zM zQ zO [] rfl ?_
        all_goals simp only [push_cast,↓zK,↓zJ,↓reduceIte,zA,zB,zC,zD,zE,zF,zG,zH,zI,reduceCtorEq]
        all_goals repeat'(first|(apply zP<;>(intro hg;(try simp only [push_cast]at hg)))|apply And.intro|(intro hg;(try simp only [push_cast]at hg)))
        all_goals first|exact gA|(exact zR (by omega))|skip
        all_goals first|(refine hK _ ?_;clear hK K)|(simp only [push_cast];done)
        refine zU rfl (fun hc=> ?_) (fun hc=> ?_)
        rotate_left
        ·exfalso;first|(cases hc;done)|(simp only [push_cast]at hc;done)|(simp only [push_cast]at hc;omega)|omega
        have hws:(whV a.owner.length m.next.length (zh (rcM m (gq (stM a m s i) i)) (usM a m (gq (stM a m s i) i)) (stM a m s i) k).1).set ((gi (gl m.next (gi (gq (stM a m s i) i).record 0).toNat) (gq (stM a m s i) i).at_.toNat)*(a.owner.length:Int)+(gi (usM a m (gq (stM a m s i) i)) k)).toNat ((zh (rcM m (gq (stM a m s i) i)) (usM a m (gq (stM a m s i) i)) (stM a m s i) k).1.length:Int)=(whV a.owner.length m.next.length ((zh (rcM m (gq (stM a m s i) i)) (usM a m (gq (stM a m s i) i)) (stM a m s i) k).1++ [⟨(gi (usM a m (gq (stM a m s i) i)) k),[(gi (gl m.next (gi (gq (stM a m s i) i).record 0).toNat) (gq (stM a m s i) i).at_.toNat)]⟩])):=zAZ huu ⟨hN1,hN2⟩ hx
        refine zL fun K hK=> ?_
        refine zM zQ zO [] rfl ?_
        all_goals simp only [push_cast,↓zK,↓zJ,↓reduceIte,zA,zB,zC,zD,zE,zF,zG,zH,zI,reduceCtorEq]
        all_goals repeat'(first|(apply zP<;>(intro hg;(try simp only [push_cast]at hg)))|apply And.intro|(intro hg;(try simp only [push_cast]at hg)))
        all_goals first|exact gA|(exact zR (by omega))|skip
        all_goals first|(refine hK _ ?_;clear hK K)|(simp only [push_cast];done)
        all_goals rw [hws]
        refine yu false zQ zO qM ?_ rfl ?_
        ·kernel_rfl
        intro E hE
        all_goals simp only [push_cast,↓zK,↓zJ,↓reduceIte,zA,zB,zC,zD,zE,zF,zG,zH,zI,reduceCtorEq]
        all_goals repeat'(first|(apply zP<;>(intro hg;(try simp only [push_cast]at hg)))|apply And.intro|(intro hg;(try simp only [push_cast]at hg)))
        all_goals first|exact gA|(refine hE _ _ ?_ ?_;kernel_rfl)|(exact zR (by omega))|skip
        all_goals clear hE E
        (try simp only [zS,zT,reduceIte,zF]);refine hK10 _ ?_
        refine vS 78 11 (Nat.le_of_ble_eq_true rfl) ?_
        simp only [push_cast,↓zK,↓zJ,↓reduceIte,zA,zB,zC,zD,zE,zF,zG,zH,zI,reduceCtorEq]
        have hwl2:=VQ a.owner.length m.next.length ((zh (rcM m (gq (stM a m s i) i)) (usM a m (gq (stM a m s i) i)) (stM a m s i) k).1++ [⟨(gi (usM a m (gq (stM a m s i) i)) k),[(gi (gl m.next (gi (gq (stM a m s i) i).record 0).toNat) (gq (stM a m s i) i).at_.toNat)]⟩])
        have hwn:gi (whV a.owner.length m.next.length ((zh (rcM m (gq (stM a m s i) i)) (usM a m (gq (stM a m s i) i)) (stM a m s i) k).1++ [⟨(gi (usM a m (gq (stM a m s i) i)) k),[(gi (gl m.next (gi (gq (stM a m s i) i).record 0).toNat) (gq (stM a m s i) i).at_.toNat)]⟩])) ((gi (gl m.next (gi (gq (stM a m s i) i).record 0).toNat) (gq (stM a m s i) i).at_.toNat)*(a.owner.length:Int)+(gi (usM a m (gq (stM a m s i) i)) k)).toNat=((zh (rcM m (gq (stM a m s i) i)) (usM a m (gq (stM a m s i) i)) (stM a m s i) k).1.length:Int):=by rw [(JV huu ⟨hN1,hN2⟩).2,kz,if_pos (show ixQ (yD (gi (usM a m (gq (stM a m s i) i)) k) [(gi (gl m.next (gi (gq (stM a m s i) i).record 0).toNat) (gq (stM a m s i) i).at_.toNat)]) (zh (rcM m (gq (stM a m s i) i)) (usM a m (gq (stM a m s i) i)) (stM a m s i) k).1<0 from hx),YP (p:=⟨(gi (usM a m (gq (stM a m s i) i)) k),[(gi (gl m.next (gi (gq (stM a m s i) i).record 0).toNat) (gq (stM a m s i) i).at_.toNat)]⟩) rfl rfl,if_pos rfl]
        refine zM zQ zO [] rfl ?_
        all_goals simp only [push_cast,↓zK,↓zJ,↓reduceIte,zA,zB,zC,zD,zE,zF,zG,zH,zI,reduceCtorEq]
        all_goals repeat'(first|(apply zP<;>(intro hg;(try simp only [push_cast]at hg)))|apply And.intro|(intro hg;(try simp only [push_cast]at hg)))
        all_goals first|exact gA|(exact zR (by omega))|skip
        all_goals rw [hwn]
        (try simp only [zS,zT,reduceIte,zF]);refine hK9 _ ?_
        refine zM zQ zO [] rfl ?_
        all_goals simp only [push_cast,↓zK,↓zJ,↓reduceIte,zA,zB,zC,zD,zE,zF,zG,zH,zI,reduceCtorEq]
        all_goals repeat'(first|(apply zP<;>(intro hg;(try simp only [push_cast]at hg)))|apply And.intro|(intro hg;(try simp only [push_cast]at hg)))
        all_goals first|exact gA|(exact zR (by omega))|skip
        refine hL2 _ ⟨k+1,by omega,by omega,?_⟩
        (try rw [List.take_of_length_le (l:=(zh (rcM m (gq (stM a m s i) i)) (usM a m (gq (stM a m s i) i)) (stM a m s i) k).2) (by omega)])
        rw [qH (by omega) hx]
        refine zb rfl ?_ ?_ ?_<;>simp only [zj,zi,push_cast,↓zK,↓zJ,↓reduceIte,zA,zB,zC,zD,zE,zF,zG,zH,zI,reduceCtorEq]
        all_goals first|rfl|(rw [List.length_append];rfl)|exact⟨rfl,rfl⟩|exact⟨rfl,rfl,rfl⟩|skip
       ·
        refine zL fun K hK=> ?_
        refine zM zQ zO [] rfl ?_
        all_goals simp only [push_cast,↓zK,↓zJ,↓reduceIte,zA,zB,zC,zD,zE,zF,zG,zH,zI,reduceCtorEq]
        all_goals repeat'(first|(apply zP<;>(intro hg;(try simp only [push_cast]at hg)))|apply And.intro|(intro hg;(try simp only [push_cast]at hg)))
        all_goals first|exact gA|(exact zR (by omega))|skip
        all_goals first|(refine hK _ ?_;clear hK K)|(simp only [push_cast];done)
        refine zU rfl (fun hc=> ?_) (fun hc=> ?_)
        skip
        ·exfalso;first|(cases hc;done)|(simp only [push_cast]at hc;done)|(simp only [push_cast]at hc;omega)|omega
        refine zV ?_
        (try simp only [zS,zT,reduceIte,zF]);refine hK10 _ ?_
        refine zM zQ zO [] rfl ?_
        all_goals simp only [push_cast,↓zK,↓zJ,↓reduceIte,zA,zB,zC,zD,zE,zF,zG,zH,zI,reduceCtorEq]
        all_goals repeat'(first|(apply zP<;>(intro hg;(try simp only [push_cast]at hg)))|apply And.intro|(intro hg;(try simp only [push_cast]at hg)))
        all_goals first|exact gA|(exact zR (by omega))|skip
        all_goals rw [hwx]
        (try simp only [zS,zT,reduceIte,zF]);refine hK9 _ ?_
        refine zM zQ zO [] rfl ?_
        all_goals simp only [push_cast,↓zK,↓zJ,↓reduceIte,zA,zB,zC,zD,zE,zF,zG,zH,zI,reduceCtorEq]
        all_goals repeat'(first|(apply zP<;>(intro hg;(try simp only [push_cast]at hg)))|apply And.intro|(intro hg;(try simp only [push_cast]at hg)))
        all_goals first|exact gA|(exact zR (by omega))|skip
        refine hL2 _ ⟨k+1,by omega,by omega,?_⟩
        (try rw [List.take_of_length_le (l:=(zh (rcM m (gq (stM a m s i) i)) (usM a m (gq (stM a m s i) i)) (stM a m s i) k).2) (by omega)])
        rw [qI (by omega) hx]
        refine zb rfl ?_ ?_ ?_<;>simp only [zj,zi,push_cast,↓zK,↓zJ,↓reduceIte,zA,zB,zC,zD,zE,zF,zG,zH,zI,reduceCtorEq]
        all_goals first|rfl|(rw [List.length_append];rfl)|exact⟨rfl,rfl⟩|exact⟨rfl,rfl,rfl⟩|skip
      ·
       refine zp ?_
       have hkk:k=(usM a m (gq (stM a m s i) i)).length:=by omega
       subst hkk
       have hst:stM a m s (i+1)=(zh (rcM m (gq (stM a m s i) i)) (usM a m (gq (stM a m s i) i)) (stM a m s i) (usM a m (gq (stM a m s i) i)).length).1:=JO (a:=a) (m:=m) (s:=s) hi2
       have hrw:rwM a m s i=(zh (rcM m (gq (stM a m s i) i)) (usM a m (gq (stM a m s i) i)) (stM a m s i) (usM a m (gq (stM a m s i) i)).length).2:=rfl
       have htk:List.take (usM a m (gq (stM a m s i) i)).length (zh (rcM m (gq (stM a m s i) i)) (usM a m (gq (stM a m s i) i)) (stM a m s i) (usM a m (gq (stM a m s i) i)).length).2=(zh (rcM m (gq (stM a m s i) i)) (usM a m (gq (stM a m s i) i)) (stM a m s i) (usM a m (gq (stM a m s i) i)).length).2:=List.take_of_length_le (by omega)
       (try simp only [zS,zT,reduceIte,zF]);refine hK7 _ ?_
       refine zf false zQ zO ?_ rfl ?_
       ·kernel_rfl
       simp only [push_cast,↓zK,↓zJ,↓reduceIte,zA,zB,zC,zD,zE,zF,zG,zH,zI,reduceCtorEq]
       all_goals repeat'(first|(apply zP<;>(intro hg;(try simp only [push_cast]at hg)))|apply And.intro|(intro hg;(try simp only [push_cast]at hg)))
       all_goals first|exact gA|(exact zR (by omega))|skip
       (try simp only [zS,zT,reduceIte,zF]);refine hK6 _ ?_
       refine vS 22 12 (Nat.le_of_ble_eq_true rfl) ?_
       simp only [push_cast,↓zK,↓zJ,↓reduceIte,zA,zB,zC,zD,zE,zF,zG,zH,zI,reduceCtorEq]
       refine zM zQ zO [] rfl ?_
       all_goals simp only [push_cast,↓zK,↓zJ,↓reduceIte,zA,zB,zC,zD,zE,zF,zG,zH,zI,reduceCtorEq]
       all_goals repeat'(first|(apply zP<;>(intro hg;(try simp only [push_cast]at hg)))|apply And.intro|(intro hg;(try simp only [push_cast]at hg)))
       all_goals first|exact gA|(exact zR (by omega))|skip
       refine hL1 _ ⟨i+1,(by rw [hst];omega),by omega,?_⟩
       (try rw [List.take_of_length_le (l:=rsM a m s i) (by omega)])
       (try rw [htk])
       rw [hst,jg,hrw]
       refine zb rfl ?_ ?_ ?_<;>simp only [zj,zi,push_cast,↓zK,↓zJ,↓reduceIte,zA,zB,zC,zD,zE,zF,zG,zH,zI,reduceCtorEq]
       all_goals first|rfl|exact⟨rfl,rfl⟩|skip
    ·
     refine zp ?_
     (try simp only [zS,zT,reduceIte,zF]);refine hK4 _ ?_
     refine zL fun K hK=> ?_
     refine zM zQ zO [] rfl ?_
     all_goals simp only [push_cast,↓zK,↓zJ,↓reduceIte,zA,zB,zC,zD,zE,zF,zG,zH,zI,reduceCtorEq]
     all_goals repeat'(first|(apply zP<;>(intro hg;(try simp only [push_cast]at hg)))|apply And.intro|(intro hg;(try simp only [push_cast]at hg)))
     all_goals first|exact gA|(exact zR (by omega))|skip
     all_goals first|(refine hK _ ?_;clear hK K)|(simp only [push_cast];done)
     refine za ?_
     (try simp only [zS,zT])
     refine⟨Or.inl rfl,?_⟩
     simp only [ze,push_cast,↓zK,↓zJ,↓reduceIte,zA,zB,zC,zD,zE,zF,zG,zH,zI,reduceCtorEq]
     have hE:=zA0 h (by omega) (show ¬i<(stM a m s i).length by omega)
     rw [hE,show(stM a m s i).length=i by omega,hrs]
     all_goals first|rfl|exact⟨⟨rfl,rfl⟩,rfl,rfl⟩|skip
structure XM (w w':World)(r:Nat):Prop where
 os:w'.os=w.os
 tape:w'.tape=w.tape
 output:w'.output=w.output
 size:w'.heap.size=w.heap.size
 other: ∀k,k≠r→w'.heap[k]? =w.heap[k]?
 it: ∃m,w.heap[r]? =some (qt m)
section
variable {w w':World} {r:Nat}
theorem XM.cell (hm:XM w w' r){b o:Nat}{u:Value}(h:w.cell? ⟨b,o,none⟩=some u):w'.cell? ⟨b,o,none⟩=some u:=by
 by_cases e:b=r
 ·obtain⟨m,hm⟩:=hm.it
  rw [e]at h
  simp [World.cell?,hm,qt]at h
 ·rw [xJ (hm.other b e)];exact h
theorem XM.cells (hm:XM w w' r){b:Nat}{cs:Array Value}{ty:TypeId}{fz:Nat×Nat}(h:w.heap[b]? =some (.cells cs ty fz)):w'.heap[b]? =some (.cells cs ty fz):=by
 by_cases e:b=r
 ·obtain⟨m,hm⟩:=hm.it
  rw [e,hm]at h
  cases h
 ·rw [hm.other b e];exact h
theorem zFw {S:TypeId→Nat}{lo:Nat}{ow:Nat→Option Pl}(hm:XM w w' r){m:Md}{e:TypeId}{v:Value}{N:Nat}{vs:List Value}(h:Hd S lo w ow m e v N vs):Hd S lo w' ow m e v N vs:=by
 obtain⟨h1,n,h2,h3⟩:=h
 refine⟨h1,n,h2,?_⟩
 have own: ∀(p:Pl),(w.ownsRow lo e (S e) v n vs∧∀b,v.ownBlock=some b→ow b=some p)→(w'.ownsRow lo e (S e) v n vs∧∀b,v.ownBlock=some b→ow b=some p):=by
  rintro p ⟨h3,h4⟩
  refine⟨⟨h3.1,?_⟩,h4⟩
  rcases h3.2 with hn|⟨g,cap,cur,hv,hb,hg,rest⟩
  ·exact .inl hn
  ·exact .inr ⟨g,cap,cur,hv,hb,hm.cells hg,rest⟩
 cases m with
 |sh=>
  obtain⟨A,c,hv,hn,hc,hmm⟩:=h3
  refine⟨A,c,hv,hn,hc,fun h0=> ?_⟩
  obtain⟨b,o,hA,hb,ho,hcell⟩:=hmm h0
  exact⟨b,o,hA,by rw [hm.size];exact hb,ho,fun i u hu=>hm.cell (hcell i u hu)⟩
 |ex d p=>exact own _ h3
 |top d p=>exact own _ h3
mutual
theorem zBY {S:TypeId→Nat}{lo:Nat}{ow:Nat→Option Pl}(hm:XM w w' r): ∀(t:D) (m:Md) (v:Value),Rp S lo w ow m t v→Rp S lo w' ow m t v
 | .int k n,m,v,h=>by simpa only [Rp]using h
 | .bool b,m,v,h=>by simpa only [Rp]using h
 | .hole,m,v,h=>by simpa only [Rp]using h
 | .lst e xs,m,v,h=>by
  simp only [Rp]at h⊢
  obtain⟨vs,h1,h2⟩:=h
  exact⟨vs,zFw hm h1,Un hm xs m 0 vs h2⟩
theorem Un {S:TypeId→Nat}{lo:Nat}{ow:Nat→Option Pl}(hm:XM w w' r): ∀(xs:List D) (m:Md) (k:Nat) (vs:List Value),RpL S lo w ow m k xs vs→RpL S lo w' ow m k xs vs
 | [],m,k,vs,h=>by simpa only [RpL]using h
 |x::xs,m,k,vs,h=>by
  simp only [RpL]at h⊢
  obtain⟨v,vs',h1,h2,h3⟩:=h
  exact⟨v,vs',h1,zBY hm x _ v h2,Un hm xs m (k+1) vs' h3⟩
end
end
structure jU (w:World)(ow:Nat→Option Pl)(r:Nat)(m:MD):Prop where
 it:w.heap[r]? =some (qt m)
 nobody: ∀p,ow r=some p→p= .ext
section
variable {P:Program} {τ:Ty} {lo:Nat} {w0:Fz} {ow:Nat→Option Pl} {hd:Nat→Value} {bk:Nat→Nat} {st:St} {a:Act} {w w':World} {r:Nat} {m:MD}
theorem zCy (h:zd τ lo w0 ow hd bk st a w)(hm:XM w w' r)(hb:ye w0 w'):zd τ lo w0 ow hd bk st a w':=by
 have hD: ∀d,noB d=false→yh w w' st.r st.r hd hd d:=fun d _ R hR=>⟨R,hR,rfl,fun p hp=>⟨hp,yp p _ _ _ _ (h.root d R hR) hp (fun b o A n c hb _ hc=>hm.cell hc)⟩⟩
 have hB: ∀t,noB t=false→yg st.b st.b bk bk t:=fun t _ hl=>⟨hl,rfl⟩
 refine⟨h.big,h.defers,h.size,by rw [hm.size];exact h.low,hb,fun b p hlt hb hp=>h.ge b p (by rw [←hm.size];exact hlt) hb hp,fun b hb=>h.new b (by rw [←hm.size];exact hb),fun k v hv=> ?_,fun d R hR=>zBY hm _ _ _ (h.root d R hR),fun t vs hv=> ?_,h.pin⟩
 ·have :=yd hD hB v _ (h.slot k v hv)
  rwa [qU]at this
 ·obtain⟨cs,ty,h1,h2,h3⟩:=h.box t vs hv
  have :=zw hD hB vs cs h3
  rw [yf]at this
  exact⟨cs,ty,hm.cells h1,h2,this⟩
def wI (τ:Ty)(lo:Nat)(w0:Fz)(r:Nat)(m:MD)(st:St)(a:Act)(w:World):Prop:=w0.w.heap.size≤r∧∃ow hd bk,zd τ lo w0 ow hd bk st a w∧jU w ow r m
def fzM (w0:Fz)(ow:Nat→Option Pl)(w:World):Fz:=⟨w,fun b=> ∀p,ow b=some p→p= .ext,w0.pin⟩
theorem qX (h:zd τ lo w0 ow hd bk st a w):zd τ lo (fzM w0 ow w) ow hd bk st a w:=
 ⟨h.big,h.defers,h.size,h.low,ye.start (fzM w0 ow w),fun b p hlt hb hp=>⟨(h.ge b p hlt hb hp).1,fun _ hk=>hp (hk p hb)⟩,h.new,h.slot,h.root,h.box,h.pin⟩
theorem qG (h:zd τ lo w0 ow hd bk st a w)(hm:jU w ow r m)(hr:w0.w.heap.size≤r){st':St}{a':Act}(h':Rel τ lo (fzM w0 ow w) st' a' w'):wI τ lo w0 r m st' a' w':=by
 obtain⟨ow',hd',bk',h'⟩:=h'
 have hlt:r<w.heap.size:=(Array.getElem?_eq_some_iff.1 hm.it).1
 have hback: ∀b,(fzM w0 ow w).fre b→w0.fre b:=fun b hf hlt0 hk=>by
  have hb:b<w.heap.size:=Nat.lt_of_lt_of_le hlt0 h.below.size
  refine hf hb fun p hp=> ?_
  cases p with
  |ext=>rfl
  |root d q=>exact absurd hk ((h.ge b _ hb hp (by simp)).2 hlt0)
  |box t=>exact absurd hk ((h.ge b _ hb hp (by simp)).2 hlt0)
 refine⟨hr,ow',hd',bk',⟨h'.big,h'.defers,h'.size,h'.low,?_,fun b p hb hp hne=>⟨(h'.ge b p hb hp hne).1,hback b (h'.ge b p hb hp hne).2⟩,h'.new,h'.slot,h'.root,h'.box,h'.pin⟩,?_,fun p hp=> ?_⟩
 ·refine⟨h'.below.os.trans h.below.os,h'.below.tape.trans h.below.tape,h'.below.output.trans h.below.output,Nat.le_trans h.below.size h'.below.size,fun b hb hk=> ?_⟩
  have hb2:b<w.heap.size:=Nat.lt_of_lt_of_le hb h.below.size
  refine(h'.below.block b hb2 fun p hp=> ?_).trans (h.below.block b hb hk)
  cases p with
  |ext=>rfl
  |root d q=>exact absurd hk ((h.ge b _ hb2 hp (by simp)).2 hb)
  |box t=>exact absurd hk ((h.ge b _ hb2 hp (by simp)).2 hb)
 ·rw [←hm.it]
  exact h'.below.block r hlt hm.nobody
 ·cases p with
  |ext=>rfl
  |root d q=>
   have hsz:=h'.below.size
   exact absurd hm.nobody ((h'.ge r _ (Nat.lt_of_lt_of_le hlt hsz) hp (by simp)).2 hlt)
  |box t=>
   have hsz:=h'.below.size
   exact absurd hm.nobody ((h'.ge r _ (Nat.lt_of_lt_of_le hlt hsz) hp (by simp)).2 hlt)
theorem jt {st':St}(h:wI τ lo w0 r m st a w)(hc:Cov st st'):wI τ lo w0 r m st' a w:=by
 obtain⟨hr,ow,hd,bk,h1,h2⟩:=h
 exact qG h1 h2 hr (qO ⟨ow,hd,bk,qX h1⟩ hc)
end
def xZ (P:Program)(τ:Ty)(r:Nat)(c:Code)(Q:Exit→St→MD→Prop)(st:St)(m:MD):Prop:=
 ∀(lo:Nat) (w0:Fz) (a:Act) (w:World),wI τ lo w0 r m st a w→c.wp P (fun e a' w'=> ∃st' m',wI τ lo w0 r m' st' a' w'∧Q e st' m') a w
def yo (N:St→MD→Prop)(Q:Exit→St→MD→Prop):Exit→St→MD→Prop
 | .normal,st,m=>N st m
 |e,st,m=>Q e st m
def xY (id:Nat)(Q:Exit→St→MD→Prop):Exit→St→MD→Prop
 | .exit id',st,m=>if id'=id then Q .normal st m else Q (.exit id') st m
 |e,st,m=>Q e st m
section
variable {P:Program} {τ:Ty} {r:Nat} {Q:Exit→St→MD→Prop} {st:St} {m:MD}
theorem zl {c:Code}(h:awp P τ c (fun e st'=>Q e st' m) st):xZ P τ r c Q st m:=fun lo w0 a w ⟨hr,ow,hd,bk,h1,h2⟩=>
 Go.wp_mono (h lo _ a w ⟨ow,hd,bk,qX h1⟩) fun e a' w' ⟨st',h3,h4⟩=>⟨st',m,qG h1 h2 hr h3,h4⟩
theorem zDC {x y:Code}(h:xZ P τ r x (yo (fun st m=>xZ P τ r y Q st m) Q) st m):xZ P τ r (.seq x y) Q st m:=fun lo w0 a w hr=>by
 refine wp_seq (Go.wp_mono (h lo w0 a w hr) fun e a' w' ⟨st',m',h1,h2⟩=> ?_)
 cases e with
 |normal=>exact h2 lo w0 a' w' h1
 |_=>exact⟨st',m',h1,h2⟩
theorem zg {x y:Code}(h: ∀K:St→MD→Prop,(∀st m,xZ P τ r y Q st m→K st m)→xZ P τ r x (yo K Q) st m):xZ P τ r (.seq x y) Q st m:=zDC (h _ fun _ _ h=>h)
theorem qh {id:Nat}{c:Code}(h:xZ P τ r c (xY id Q) st m):xZ P τ r (.block id c) Q st m:=fun lo w0 a w hr=>by
 refine wp_block (Go.wp_mono (h lo w0 a w hr) fun e a' w' ⟨st',m',h1,h2⟩=> ?_)
 cases e with
 |exit id'=>
  simp only [Exit.inBlock,xY]at h2⊢
  split
  ·rename_i e;rw [if_pos e]at h2;exact⟨st',m',h1,h2⟩
  ·rename_i e;rw [if_neg e]at h2;exact⟨st',m',h1,h2⟩
 |_=>exact⟨st',m',h1,h2⟩
theorem vG (h:Q .normal st m):xZ P τ r .skip Q st m:=fun lo w0 a w hr=>wp_skip ⟨st,m,hr,h⟩
theorem YB {id:Nat}(h:Q (.exit id) st m):xZ P τ r (.exit id) Q st m:=fun lo w0 a w hr=>wp_exit ⟨st,m,hr,h⟩
theorem zDB (h:Q .ret st m):xZ P τ r .ret Q st m:=fun lo w0 a w hr=>wp_ret ⟨st,m,hr,h⟩
theorem xi {c:Operand}{x y:Code}{b:Bool}(hc:ev st c= .bool b)(ht:b=true→xZ P τ r x Q st m)(hf:b=false→xZ P τ r y Q st m):xZ P τ r (.cond c x y) Q st m:=fun lo w0 a w hr=>by
 obtain⟨-,ow,hd,bk,h1,-⟩:=id hr
 have hx:=zY h1 c
 rw [hc]at hx
 simp only [AvR]at hx
 exact wp_cond_split hx (fun e=>ht e lo w0 a w hr) (fun e=>hf e lo w0 a w hr)
theorem zBh {ι:Type}{c:Code}(F:ι→St)(G:ι→MD)(I:ι→Prop)(μ:ι→Nat)(i0:ι)(h0:Cov st (F i0))(hm:m=G i0)(hI:I i0)
  (round: ∀i,I i→xZ P τ r c (yo (fun st' m'=> ∃j,I j∧μ j<μ i∧Cov st' (F j)∧m'=G j) Q) (F i) (G i)):xZ P τ r (.loop c) Q st m:=fun lo w0 a w hr=>by
 intro b k cs
 have key: ∀n i a w,μ i=n→I i→wI τ lo w0 r (G i) (F i) a w→∃e a' w',(∃st' m',wI τ lo w0 r m' st' a' w'∧Q e st' m')∧Arrives P (lone (b.at a (.code c:: .inLoop c::k)) cs w) b k cs e a' w':=by
  intro n
  induction n using Nat.strongRecOn with
  |_ n ih=>
   intro i a w hn hi hr
   obtain⟨e,a₁,w₁,⟨st',m',hr',hq⟩,harr⟩:=round i hi lo w0 a w hr b (.inLoop c::k) cs
   cases e with
   |normal=>
    obtain⟨j,hj,hlt,hcov,rfl⟩:=hq
    obtain⟨e₂,a₂,w₂,hq₂,harr₂⟩:=ih (μ j) (hn ▸ hlt) j a₁ w₁ rfl hj (jt hr' hcov)
    exact⟨e₂,a₂,w₂,hq₂, .of_steps (Steps.trans harr (.one step_inLoop)) harr₂⟩
   |exit id=>exact⟨_,a₁,w₁,⟨st',m',hr',hq⟩, .pass (x:= .inLoop c) rfl (fun _ _=> .inl (by simp)) harr⟩
   |goto l=>exact⟨_,a₁,w₁,⟨st',m',hr',hq⟩, .pass (x:= .inLoop c) rfl (fun _ _=> .inl (by simp)) harr⟩
   |ret=>exact⟨_,a₁,w₁,⟨st',m',hr',hq⟩, .pass (x:= .inLoop c) rfl (fun _ _=> .inl (by simp)) harr⟩
   |panic ch=>exact⟨_,a₁,w₁,⟨st',m',hr',hq⟩, .pass (x:= .inLoop c) rfl (fun _ _=> .inl (by simp)) harr⟩
   |outgrown=>exact⟨_,a₁,w₁,⟨st',m',hr',hq⟩, .pass (x:= .inLoop c) rfl (fun _ _=> .inl (by simp)) harr⟩
 obtain⟨e,a',w',hq,harr⟩:=key _ i0 a w rfl hI (hm ▸ jt hr h0)
 exact⟨e,a',w',hq, .of_steps (.one step_loop) harr⟩
theorem ZU {ι:Type}{c:Code}(ds rs:List Nat)(L:ι→List (Nat×AV))(B:ι→List (Nat×List AV))(R:ι→List (Nat×zo))(G:ι→MD)(I:ι→Prop)(μ:ι→Nat)(i0:ι)(h0:Cov st (st.reset ds rs (L i0) (B i0) (R i0)))(hm:m=G i0)(hI:I i0)
  (round: ∀i,I i→∀K:St→MD→Prop,(∀st' m',(∃j,I j∧μ j<μ i∧Cov st' (st.reset ds rs (L j) (B j) (R j))∧m'=G j)→K st' m')→xZ P τ r c (yo K Q) (st.reset ds rs (L i) (B i) (R i)) (G i)):xZ P τ r (.loop c) Q st m:=
 zBh (fun i=>st.reset ds rs (L i) (B i) (R i)) G I μ i0 h0 hm hI fun i hi=>round i hi _ fun _ _ h=>h
end
def aopM (P:Program)(τ:Ty)(al:List Nat)(ta tm:TypeId)(r:Nat)(o:Oper)(K:St→MD→Prop)(st:St)(m:MD):Prop:=
 match o.op with
 | .build t fs=>if t=ta then(match fs.toList with
   | [(0,x),(1,y)]=>(match ev st x,ev st y with
    | .int .i64 a, .int .i64 b=>K (st.put o.dst (.agg [.int .i64 a, .int .i64 b])) m
    |_,_=>False)
   |_=>False)else aop P τ al o (fun st'=>K st' m) st
 | .alloc t=>if t=ta then(match o.dst with
   |some d=>d<1000000∧K ((Qz τ st d ta [.int .i64 0, .int .i64 0]).put (some d) (.bp d 0)) m
   |none=>False)else aop P τ al o (fun st'=>K st' m) st
 | .store t p v=>if t=ta then(match ev st p,ev st v with
   | .bp d 0, .agg [.int .i64 a, .int .i64 b]=>(match lk st.b d with
    |some [_,_]=>K ((st.setB d [.int .i64 a, .int .i64 b]).put o.dst (.tup [])) m
    |_=>False)
   |_,_=>False)else aop P τ al o (fun st'=>K st' m) st
 | .load t p=>if t=ta then(match ev st p with
   | .bp d 0=>(match lk st.b d with
    |some [x,y]=>K (st.put o.dst (.agg [x,y])) m
    |_=>False)
   |_=>False)else aop P τ al o (fun st'=>K st' m) st
 | .indexAddr t p i=>if t=ta then(match ev st p,ev st i with
   | .bp d 0, .int .i64 k=>(∃cs,lk st.b d=some cs)∧(0≤k∧k<2)∧K (st.put o.dst (.bp d k.toNat)) m
   |_,_=>False)else aop P τ al o (fun st'=>K st' m) st
 | .lookup t x k true=>t=tm∧(match ev st x,ev st k with
   | .raw u, .agg [.int .i64 a, .int .i64 b]=>u= .map (some r)∧K (st.put o.dst (.tup [.int .i64 ((lkM m (a,b)).getD 0), .bool (lkM m (a,b)).isSome])) m
   |_,_=>False)
 | .mapUpdate t x k v=>t=tm∧(match ev st x,ev st k,ev st v with
   | .raw u, .agg [.int .i64 a, .int .i64 b], .int .i64 z=>u= .map (some r)∧lkM m (a,b)=none∧K (st.put o.dst (.tup [])) (m++ [((a,b),z)])
   |_,_,_=>False)
 | .insert t x k v=>t=tm∧(match ev st x,ev st k,ev st v with
   | .raw u, .agg [.int .i64 a, .int .i64 b], .int .i64 z=>u= .map (some r)∧lkM m (a,b)=none∧K (st.put o.dst (.tup [])) (m++ [((a,b),z)])
   |_,_,_=>False)
 |_=>aop P τ al o (fun st'=>K st' m) st
section
variable {P:Program} {τ:Ty} {lo:Nat} {w0:Fz} {ow:Nat→Option Pl} {hd:Nat→Value} {bk:Nat→Nat} {st:St} {a:Act} {w w':World} {r:Nat} {m:MD} {ta te tm:TypeId}
theorem agg2 {x:Value}{b c:Int}(h:AvR τ w st.r st.b hd bk (.agg [.int .i64 b, .int .i64 c]) x):x= .agg #[.int .i64 b, .int .i64 c]:=by
 simp only [AvR,zW]at h
 obtain⟨_,rfl,_,_,rfl,rfl,_,_,rfl,rfl,rfl⟩:=h
 rfl
theorem zDc {o:Obj}(hr:w.heap[r]? =some (qt m)):XM w {w with heap:=w.heap.setIfInBounds r o} r:=
 ⟨rfl,rfl,rfl,by simp,fun k hk=>by simp only;rw [Array.getElem?_setIfInBounds,if_neg (fun e=>hk e.symm)],m,hr⟩
theorem WV (hτ:zu P τ)(hpos:yK τ)(hT:yc P ta te tm){al:List Nat}{o:Oper}{K:St→MD→Prop}{Q:Exit→Act→World→Prop}{K':Act→World→Prop}(hd9: ∀k,o.dst=some k→k<a.tmps.size)(h:wI τ lo w0 r m st a w)(ha:aopM P τ al ta tm r o K st m)
  (hK: ∀st' m' x w',K st' m'→wI τ lo w0 r m' st' (a.put o.dst x) w'→K' (a.put o.dst x) w'):o.wp P a w K' Q:=by
 obtain⟨hr0,ow,hd,bk,hr,hm⟩:=id h
 have std:aop P τ al o (fun st'=>K st' m) st→o.wp P a w K' Q:=fun ha=>vz hτ hpos hd9 ⟨ow,hd,bk,qX hr⟩ ha fun st' x w' h2 h3=>hK st' m x w' h2 (qG hr hm hr0 h3)
 -- the end of an operation that gives a value in the same world
 have fin: ∀{x:Value} {v:AV},(execOp a.eval o).run P w= .ok (.value x) w→AvR τ w st.r st.b hd bk v x→K (st.put o.dst v) m→o.wp P a w K' Q:=fun{x v} he hv hk=>by
  unfold Oper.wp
  rw [he]
  exact hK _ m x w hk (qG hr hm hr0 (yU (qX hr) hd9 hv))
 have sk: ∀{w':World} {st1:St},(execOp a.eval o).run P w= .ok .skip w'→zd τ lo (fzM w0 ow w) ow hd bk st1 a w'→K (st1.put o.dst (.tup [])) m→o.wp P a w K' Q:=fun{w' st1} he hv hk=>by
  unfold Oper.wp
  rw [he]
  exact hK _ m undef w' hk (qG hr hm hr0 (yU hv hd9 (by simp only [AvR];exact⟨[],rfl,by simp [zW]⟩)))
 have up: ∀{k:Int×Int} {z:Int},(execOp a.eval o).run P w= .ok .skip {w with heap:=w.heap.setIfInBounds r (qt (m++ [(k,z)]))}→K (st.put o.dst (.tup [])) (m++ [(k,z)])→o.wp P a w K' Q:=fun{k z} he hk=>by
  have hlt:r<w.heap.size:=(Array.getElem?_eq_some_iff.1 hm.it).1
  have hW:=zDc (o:=qt (m++ [(k,z)])) hm.it
  have hkeep:ye w0 {w with heap:=w.heap.setIfInBounds r (qt (m++ [(k,z)]))}:=hr.below.step rfl rfl rfl (by simp) fun b hb hf=>by
   refine hW.other b fun e=>hf ?_
   subst e
   exact fun hlt0 _=>absurd hlt0 (by omega)
  unfold Oper.wp
  rw [he]
  have h2:=zCy hr hW hkeep
  have hat:jU {w with heap:=w.heap.setIfInBounds r (qt (m++ [(k,z)]))} ow r (m++ [(k,z)]):=⟨by simp only;rw [Array.getElem?_setIfInBounds,if_pos rfl,if_pos hlt],hm.nobody⟩
  exact hK _ _ undef _ hk (qG h2 hat hr0 (yU (qX h2) hd9 (by simp only [AvR];exact⟨[],rfl,by simp [zW]⟩)))
 obtain⟨dst,op,oty,pos,after,guard⟩:=o
 unfold aopM at ha
 cases op<;>simp only at ha<;>try(exact std ha)
 case build t fs=>
  split at ha
  rotate_left
  ·exact std ha
  rename_i e
  subst e
  split at ha
  rotate_left
  ·exact ha.elim
  rename_i x y hfs
  split at ha
  rotate_left
  ·exact ha.elim
  rename_i b c hx hy
  have e1:fs= #[(0,x),(1,y)]:=by cases fs;simp at hfs;subst hfs;rfl
  subst e1
  have ex:=zY hr x
  have ey:=zY hr y
  rw [hx]at ex
  rw [hy]at ey
  simp only [AvR]at ex ey
  refine fin (x:= .agg #[.int .i64 b, .int .i64 c]) ?_ (by simp only [AvR,zW];exact⟨_,rfl,_,_,rfl,rfl,_,_,rfl,rfl,rfl⟩) ha
  have hz:=hT.zero (w:=w)
  have hs:=hT.esize (w:=w)
  simp only [execOp]
  rw [Sem.run_bind]
  unfold Instr.build
  simp [Sem.run_bind,hz,run_underlying hT.ua,hs,Result.andThen,Instr.fill,ex,ey,Value.cells]
 case alloc t=>
  split at ha
  rotate_left
  ·exact std ha
  rename_i e
  subst e
  cases dst with
  |none=>exact ha.elim
  |some d=>
   obtain⟨hd0,hK1⟩:=ha
   obtain⟨ow',hd',bk',r1,r2⟩:=YC (qX hr) d hd0 t [.int .i64 0, .int .i64 0] [.int .i64 0, .int .i64 0] (by simp only [zW,AvR];exact⟨_,_,rfl,rfl,_,_,rfl,rfl,rfl⟩)
   unfold Oper.wp
   have he:(execOp a.eval ⟨some d, .alloc t,oty,pos,after,guard⟩).run P w= .ok (.value (.pointer (some ⟨w.heap.size,0,none⟩))) (w.alloc (.cells #[.int .i64 0, .int .i64 0] t)):=by
    have hz:=hT.zero (w:=w)
    simp only [execOp]
    rw [Sem.run_bind]
    unfold Instr.alloc
    rw [Sem.run_bind,hz,Result.andThen_ok]
    simp [newVar,newRow,newObj,Sem.run,Value.cells]
   rw [he]
   refine hK _ m _ _ hK1 (qG hr hm hr0 (yU r1 hd9 ?_))
   simp only [AvR]
   exact⟨⟨_,rfl⟩,fun _=>by rw [r2]⟩
 case store t p v=>
  split at ha
  rotate_left
  ·exact std ha
  rename_i e
  subst e
  split at ha
  rotate_left
  ·exact ha.elim
  rename_i d b c hp hv
  split at ha
  rotate_left
  ·exact ha.elim
  rename_i x y hb
  have ep:=zY hr p
  have ev9:=zY hr v
  rw [hp]at ep
  rw [hv]at ev9
  have ev9:=agg2 ev9
  simp only [AvR]at ep
  have hptr:=ep.2 ⟨_,hb⟩
  obtain⟨cs,ty,b1,b2,b3⟩:=(qX hr).box d _ hb
  have hcl:=xp (st:=st) b3
  have hset:=Zx (qX hr) hb b1 (i:=0) (vs:= [.int .i64 b, .int .i64 c]) (us:= [.int .i64 b, .int .i64 c]) (by simp) b3 (by simp only [zW,AvR];exact⟨_,_,rfl,rfl,_,_,rfl,rfl,rfl⟩)
  have hlay:lay [x,y] 0 [AV.int .i64 b,AV.int .i64 c]= [.int .i64 b, .int .i64 c]:=rfl
  rw [hlay]at hset
  have hst:=run_storeCells_at P (bk d) 0 ty [.int .i64 b, .int .i64 c] 0 cs.toArray w b1 (by simp at hcl⊢;omega) (by intro u hu;simp at hu;rcases hu with rfl|rfl<;>rfl)
  rw [wW]at hst
  refine sk (w':=w.setRow (bk d) (lay cs 0 [.int .i64 b, .int .i64 c]).toArray) ?_ hset ha
  have hs:=hT.size (w:=w)
  simp only [execOp]
  rw [Sem.run_bind]
  unfold Instr.storeAt
  rw [Sem.run_bind,hptr]
  simp only [Instr.sureAddr,Sem.run_pure,Result.andThen_ok,storeVar,Sem.run_bind,hs,ev9]
  rw [if_neg (by simp [Value.cells])]
  rw [show(Value.agg #[.int .i64 b, .int .i64 c]).cells= [Value.int .i64 b, .int .i64 c].toArray from rfl,hst]
  simp
 case load t p=>
  split at ha
  rotate_left
  ·exact std ha
  rename_i e
  subst e
  split at ha
  rotate_left
  ·exact ha.elim
  rename_i d hp
  split at ha
  rotate_left
  ·exact ha.elim
  rename_i x y hb
  have ep:=zY hr p
  rw [hp]at ep
  simp only [AvR]at ep
  have hptr:=ep.2 ⟨_,hb⟩
  obtain⟨cs,ty,b1,b2,b3⟩:=hr.box d _ hb
  have hcl:=xp (st:=st) b3
  have hcell: ∀j v,cs[j]? =some v→w.cell? ((⟨bk d,0,none⟩:Addr).add j)=some v:=fun j v hj=>by
   rw [Addr.add_lit,Nat.zero_add,cell_of_row w (bk d) j _ _ _ b1]
   simpa using hj
  have hl:=run_loadCells_list (P:=P) w ⟨bk d,0,none⟩ cs hcell
  rw [hcl]at hl
  refine fin (x:= .agg cs.toArray) ?_ (by simp only [AvR];exact⟨cs,rfl,b3⟩) ha
  have hs:=hT.size (w:=w)
  have hg:=hT.agg (w:=w)
  simp only [execOp]
  rw [Sem.run_bind]
  simp only [hptr,Instr.loadAt,Instr.sureAddr,pure_bind,loadVar,Sem.run_bind,hg,Result.andThen_ok,if_true,hs,Sem.run_pure]
  rw [show [x,y].length=2 from rfl]at hl
  rw [hl]
  simp
 case indexAddr t p i=>
  split at ha
  rotate_left
  ·exact std ha
  rename_i e
  subst e
  split at ha
  rotate_left
  ·exact ha.elim
  rename_i d k hp hi
  obtain⟨⟨cells,hb⟩,hk2,hK1⟩:=ha
  have ep:=zY hr p
  have ei:=zY hr i
  rw [hp]at ep
  rw [hi]at ei
  simp only [AvR]at ep ei
  have hptr:=ep.2 ⟨_,hb⟩
  refine fin (x:= .pointer (some ⟨bk d,k.toNat,none⟩)) ?_ (by simp [AvR]) hK1
  have hs:=hT.esize (w:=w)
  simp only [execOp]
  rw [Sem.run_bind]
  unfold Instr.indexAt
  simp [hptr,ei,Sem.run_bind,asIntOf,run_underlying hT.ua,Instr.sureAddr,Result.andThen,hs,hk2,Addr.add]
  try omega
  try(intro _;omega)
 case lookup t x k ok=>
  cases ok with
  |false=>exact std ha
  |true=>
   simp only at ha
   obtain⟨rfl,ha⟩:=ha
   split at ha
   rotate_left
   ·exact ha.elim
   rename_i u b c hx hk
   obtain⟨rfl,hK1⟩:=ha
   have ex:=zY hr x
   have ek:=zY hr k
   rw [hx]at ex
   rw [hk]at ek
   have ek:=agg2 ek
   simp only [AvR]at ex
   refine fin (x:= .tuple #[.int .i64 ((lkM m (b,c)).getD 0), .bool (lkM m (b,c)).isSome]) ?_ (by simp only [AvR,zW];exact⟨_,rfl,_,_,rfl,rfl,_,_,rfl,rfl,rfl⟩) hK1
   have hl:=hT.look hm.it (b,c)
   simp only [execOp]
   rw [Sem.run_bind,ex,ek,hl]
   simp
 case mapUpdate t x k v=>
  obtain⟨rfl,ha⟩:=ha
  split at ha
  rotate_left
  ·exact ha.elim
  rename_i u b c z hx hk hv
  obtain⟨rfl,hl,hK1⟩:=ha
  have ex:=zY hr x
  have ek:=zY hr k
  have ez:=zY hr v
  rw [hx]at ex
  rw [hk]at ek
  rw [hv]at ez
  have ek:=agg2 ek
  simp only [AvR]at ex ez
  refine up (k:=(b,c)) (z:=z) ?_ hK1
  have hu:=hT.upd hm.it (b,c) z hl
  simp only [execOp]
  rw [Sem.run_bind,ex,ek,ez,hu]
  simp
 case insert t x k v=>
  obtain⟨rfl,ha⟩:=ha
  split at ha
  rotate_left
  ·exact ha.elim
  rename_i u b c z hx hk hv
  obtain⟨rfl,hl,hK1⟩:=ha
  have ex:=zY hr x
  have ek:=zY hr k
  have ez:=zY hr v
  rw [hx]at ex
  rw [hk]at ek
  rw [hv]at ez
  have ek:=agg2 ek
  simp only [AvR]at ex ez
  refine up (k:=(b,c)) (z:=z) ?_ hK1
  have hu:=hT.upd hm.it (b,c) z hl
  simp only [execOp]
  rw [Sem.run_bind,ex,ek,ez,hu]
  simp
def ZT (P:Program)(τ:Ty)(al:List Nat)(ta tm:TypeId)(r:Nat)(K:St→MD→Prop):List Oper→St→MD→Prop
 | [],st,m=>K st m
 |o::os,st,m=>
  match o.guard with
  |none=>aopM P τ al ta tm r o (ZT P τ al ta tm r K os) st m
  |some (j,want)=>False
theorem YV (hτ:zu P τ)(hpos:yK τ)(hT:yc P ta te tm){al:List Nat}{all:List Oper}{K:St→MD→Prop}{Q:Exit→Act→World→Prop}(hQ: ∀st m a w,K st m→wI τ lo w0 r m st a w→Q .normal a w):
  ∀(os:List Oper) (st:St) (m:MD) (a:Act) (w:World),yk a.tmps.size os=true→wI τ lo w0 r m st a w→ZT P τ al ta tm r K os st m→wpList P all.toArray Q os a w
 | [],st,m,a,w,_,h,ha=>wpList_nil (hQ st m a w ha h)
 |o::os,st,m,a,w,hd,h,ha=>by
  have hd1: ∀k,o.dst=some k→k<a.tmps.size:=fun k hk=>by
   have :=List.all_eq_true.1 hd o (by simp)
   rw [hk]at this
   simpa using this
  have hd2:yk a.tmps.size os=true:=List.all_eq_true.2 fun x hx=>List.all_eq_true.1 hd x (by simp [hx])
  refine wpList_step fun K' hK'=> ?_
  simp only [ZT]at ha
  split at ha
  ·rename_i hg
   rw [if_pos (by simp [Region.wanted,hg])]
   exact WV hτ hpos hT hd1 h ha fun st' m' x w' h2 h3=>hK' _ _ (YV hτ hpos hT hQ os st' m' _ w' (by rw [yy];exact hd2) h3 h2)
  ·exact ha.elim
end
theorem xj {P:Program}{τ:Ty}{r:Nat}{Q:Exit→St→MD→Prop}{st:St}{m:MD}{ta te tm:TypeId}(hτ:zu P τ)(hpos:yK τ)(hT:yc P ta te tm)(al:List Nat){id:Nat}{ops:List Oper}(hd:yk st.n ops=true)(h:ZT P τ al ta tm r (Q .normal) ops st m):xZ P τ r (.region id ops.toArray false) Q st m:=fun lo w0 a w hr=>by
 have hn:a.tmps.size=st.n:=by obtain⟨-,ow,hd,bk,h,-⟩:=hr;exact h.size
 refine wp_region_lit (YV hτ hpos hT (fun st m a w h1 h2=>⟨st,m,h2,h1⟩) ops st m a w (by rw [hn];exact hd) hr h)
theorem UL {P:Program}{τ:Ty}{Q:Exit→St→Prop}{st:St}{ta te tm:TypeId}(hτ:zu P τ)(hpos:yK τ)(hT:yc P ta te tm)(al:List Nat){id:Nat}{o:Oper}{ops:List Oper}{rest:Code}{t:Nat}(ho:o.op= .makeMap tm none)(hg:o.guard=none)(ht:o.dst=some t)(hd:yk st.n (o::ops)=true)
  (hK9: ∀r (K:St→MD→Prop),(∀st m,xZ P τ r rest (fun e st _=>Q e st) st m→K st m)→ZT P τ al ta tm r K ops (st.put (some t) (.raw (.map (some r)))) []):awp P τ (.seq (.region id (o::ops).toArray false) rest) Q st:=fun lo w0 a w hr=>by
 have h:=fun r=>hK9 r _ fun _ _ h=>h
 clear hK9
 obtain⟨ow,hd9,bk,hr⟩:=hr
 have hn:a.tmps.size=st.n:=hr.size
 have hd1: ∀k,o.dst=some k→k<a.tmps.size:=fun k hk=>by
  have :=List.all_eq_true.1 hd o (by simp)
  rw [hk,←hn]at this
  simpa using this
 have hd2:yk a.tmps.size ops=true:=List.all_eq_true.2 fun x hx=>by rw [hn];exact List.all_eq_true.1 hd x (by simp [hx])
 have h1:=wG hr (.map #[] 0) none (by simp)
 have hat:jU (w.alloc (.map #[] 0)) (upd ow w.heap.size none) w.heap.size []:=⟨heap_alloc_new w _,fun p hp=>by rw [yF]at hp;cases hp⟩
 refine wp_seq (wp_region_lit (wpList_step fun K' hK'=> ?_))
 rw [if_pos (by simp [Region.wanted,hg])]
 unfold Oper.wp
 have he:(execOp a.eval o).run P w= .ok (.value (.map (some w.heap.size))) (w.alloc (.map #[] 0)):=by
  obtain⟨dst,op,oty,pos,after,guard⟩:=o
  simp only at ho
  subst ho
  simp only [execOp]
  rw [Sem.run_bind]
  simp [Instr.makeMap,newObj,Sem.run]
 rw [he]
 refine hK' _ _ (YV hτ hpos hT (fun st' m' a' w' h2 h3=> ?_) ops _ _ _ _ (by rw [yy];exact hd2) (qG h1 hat hr.below.size (yU (qX h1) hd1 (v:= .raw (.map (some w.heap.size))) (x:= .map (some w.heap.size)) (by simp only [AvR]))) (by rw [ht];exact h w.heap.size))
 refine Go.wp_mono (h2 lo w0 a' w' h3) fun e a2 w2 ⟨st2,m2,⟨_,ow2,hd2,bk2,h4,_⟩,h5⟩=>⟨st2,⟨ow2,hd2,bk2,h4⟩,h5⟩
section
variable {P:Program} {τ:Ty} {lo:Nat} {w0:Fz} {r:Nat} {ta te tm:TypeId}
theorem WW (hτ:zu P τ)(hpos:yK τ)(hT:yc P ta te tm){al:List Nat}{all o2:List Oper}{K:St→MD→Prop}{Q:Exit→Act→World→Prop}{n:Nat}(hQ: ∀st m a w,a.tmps.size=n→K st m→wI τ lo w0 r m st a w→wpList P all.toArray Q o2 a w):
  ∀(os:List Oper) (st:St) (m:MD) (a:Act) (w:World),a.tmps.size=n→yk a.tmps.size os=true→wI τ lo w0 r m st a w→ZT P τ al ta tm r K os st m→wpList P all.toArray Q (os++o2) a w
 | [],st,m,a,w,hn,_,h,ha=>hQ st m a w hn ha h
 |o::os,st,m,a,w,hn,hd,h,ha=>by
  have hd1: ∀k,o.dst=some k→k<a.tmps.size:=fun k hk=>by
   have :=List.all_eq_true.1 hd o (by simp)
   rw [hk]at this
   simpa using this
  have hd2:yk a.tmps.size os=true:=List.all_eq_true.2 fun x hx=>List.all_eq_true.1 hd x (by simp [hx])
  refine wpList_step fun K' hK'=> ?_
  simp only [ZT]at ha
  split at ha
  ·rename_i hg
   rw [if_pos (by simp [Region.wanted,hg])]
   exact WV hτ hpos hT hd1 h ha fun st' m' x w' h2 h3=>hK' _ _ (WW hτ hpos hT hQ os st' m' _ w' (by rw [yy];exact hn) (by rw [yy];exact hd2) h3 h2)
  ·exact ha.elim
theorem QK (np:Bool)(n:Nat)(hτ:zu P τ)(hpos:yK τ)(hT:yc P ta te tm){Q:Exit→St→MD→Prop}{st:St}{m:MD}{id:Nat}{ops:List Oper}(hs:Zq np ops=true)(hd:yk st.n ops=true)(hl:n≤ops.length)
  (h:ZT P τ [] ta tm r (fun st m=>xf P np τ ops (fun st'=>Q .normal st' m) (ops.drop n) (st.start np ops)) (ops.take n) st m):xZ P τ r (.region id ops.toArray false) Q st m:=fun lo w0 a w hr=>by
 have hn:a.tmps.size=st.n:=by obtain⟨-,ow,hd,bk,h,-⟩:=hr;exact h.size
 have hd':yk a.tmps.size ops=true:=by rw [hn];exact hd
 refine wp_region_lit ?_
 have key:=WW (P:=P) (τ:=τ) (lo:=lo) (w0:=w0) (r:=r) (al:= []) (all:=ops) (o2:=ops.drop n) (n:=st.n) (K:=fun st m=>xf P np τ ops (fun st'=>Q .normal st' m) (ops.drop n) (st.start np ops)) (Q:=fun e a' w'=> ∃st' m',wI τ lo w0 r m' st' a' w'∧Q e st' m') hτ hpos hT (fun st' m' a' w' hn' h1 h2=>by
  obtain⟨hr0,ow,hd2,bk,h3,h4⟩:=h2
  exact Xu (np:=np) hτ hpos hs (fun st2 a2 w2 h5 h6=>⟨st2,m',qG h3 h4 hr0 h6,h5⟩) (ops.drop n) n (st'.start np ops) a' w' (fun j=>by rw [List.getElem?_drop]) (by rw [hn'];exact hd) (fun j o _ ho hm=>JQ ho hm) (fun e=>by unfold St.start;rw [if_pos e];exact Wi _) (KU ⟨ow,hd2,bk,qX h3⟩ ops) h1) (ops.take n) st m a w hn (List.all_eq_true.2 fun x hx=>List.all_eq_true.1 hd' x (List.mem_of_mem_take hx)) hr h
 rwa [List.take_append_drop]at key
theorem xN {Q:Exit→St→MD→Prop}{st:St}{m:MD}(e:TypeId)(t:Nat)(ht:t<st.n){c:Code}(h:xZ P τ r c Q (st.settle e t) m):xZ P τ r c Q st m:=fun lo w0 a w hr=>by
 obtain⟨hr0,ow,hd,bk,h1,h2⟩:=id hr
 have hrr:=qX h1
 have hx:=zY hrr (.tmp t)
 obtain⟨ow',hd',r1,r2,-,-⟩:=YG hrr [] (.sl e) (zZ t 0) hx
 have hsz:t<a.tmps.size:=by rw [hrr.size];exact ht
 have hrel:=yU (d:=some t) r1 (fun k hk=>by cases hk;exact hsz) r2
 rw [zDs hsz]at hrel
 exact h lo w0 a w (qG h1 h2 hr0 hrel)
end
attribute [push_cast] aopM ZT lkM
end Go.Proofs.Ytggpbepdeilpgaa
