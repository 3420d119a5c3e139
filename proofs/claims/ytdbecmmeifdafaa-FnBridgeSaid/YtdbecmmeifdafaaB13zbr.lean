/- The reference solver: who wins, the plan; walks -/
import Derived.Test.YtdbecmmeifdafaaB12zbr
namespace Go.Proofs.Ytdbecmmeifdafaa
open Nat renaming reduceMod → zA, reduceMul → zB, reduceDiv → zC, reduceAdd → zD, reduceSub → zE, reduceEqDiff → zF, reduceBEq → zG, reduceLT → zH, reduceLeDiff → zI
open Go.RowKit
set_option linter.unusedVariables false
set_option linter.unusedSimpArgs false
theorem zDE {s:List Bool}{k:Nat}(h:k<s.length):(s.take (k+1)).map wZ=(s.take k).map wZ++ [wZ (gb s k)]:=by
 rw [List.take_add_one,List.map_append]
 unfold gb
 rw [List.getD_eq_getElem?_getD,List.getElem?_eq_getElem h]
 rfl
def kM (x:L7)(p:List Int):L7:=⟨x.owner,x.prio,x.next,x.prev,p⟩
theorem zH5 {x:L7}{n:Nat}(h:x.Ok n){p:List Int}(hp:p.length=n):(kM x p).Ok n:=
 ⟨h.hn,h.ho,h.hp,h.hx,h.hv,hp,h.deg,h.to,h.pr,h.ow,h.nd,h.dpv,h.pin,h.pal,h.pnd⟩
noncomputable def Jz (x:L7)(inn:List Bool)(v i:Nat):Bool:=gb inn (gi (gl x.next v) i).toNat&&Xe inn (qK (kM x (x.pick.set v (gi (gl x.next v) i))) inn.length (inn.length+1) inn) (gi x.owner v)
def ww (x:L7)(inn:List Bool)(v:Nat):Nat→List Int
 |0=>x.pick
 |i+1=>if gb inn (gi (gl x.next v) i).toNat then x.pick.set v (gi (gl x.next v) i)else ww x inn v i
noncomputable def wW (x:L7)(inn:List Bool)(v:Nat):Nat→Nat→Int×List Int
 |0,i=>(-1,ww x inn v i)
 |m+1,i=>if Jz x inn v i then(gi (gl x.next v) i,x.pick.set v (gi (gl x.next v) i))else wW x inn v m (i+1)
theorem WN (x:L7)(inn:List Bool)(v:Nat): ∀i,(ww x inn v i).length=x.pick.length
 |0=>rfl
 |i+1=>by
  unfold ww
  split
  ·rw [List.length_set]
  ·exact WN x inn v i
theorem WU (x:L7)(inn:List Bool)(v:Nat): ∀m i,(wW x inn v m i).2.length=x.pick.length
 |0,i=>WN x inn v i
 |m+1,i=>by
  unfold wW
  split
  ·exact List.length_set ..
  ·exact WU x inn v m (i+1)
theorem ud (x:L7)(inn:List Bool)(v:Nat)(u:Int): ∀i,(ww x inn v i).set v u=x.pick.set v u
 |0=>rfl
 |i+1=>by
  unfold ww
  split
  ·rw [List.set_set]
  ·exact ud x inn v u i
theorem zFE {x:L7}{inn:List Bool}{v L i:Nat}{r:Int×List Int}(hi:i<L)(h:wW x inn v (L - i) i=r)(h2:Jz x inn v i=true):r=(gi (gl x.next v) i,x.pick.set v (gi (gl x.next v) i)):=by
 rw [←h,show L - i=(L - (i+1))+1 from by omega]
 exact if_pos h2
theorem Ue {x:L7}{inn:List Bool}{v L i:Nat}{r:Int×List Int}(hi:i<L)(h:wW x inn v (L - i) i=r)(h2:Jz x inn v i=false):wW x inn v (L - (i+1)) (i+1)=r:=by
 rw [←h,show L - i=(L - (i+1))+1 from by omega]
 exact(if_neg (by rw [h2];decide)).symm
theorem zFi {x:L7}{inn:List Bool}{v L:Nat}{r:Int×List Int}(h:wW x inn v (L - L) L=r):r=(-1,ww x inn v L):=by
 rw [←h,Nat.sub_self];rfl
theorem zJ5 {x:L7}{inn:List Bool}{v i:Nat}(h:gb inn (gi (gl x.next v) i).toNat=false):Jz x inn v i=false:=by unfold Jz;rw [h];rfl
theorem zHO {x:L7}{inn:List Bool}{v i:Nat}{b:Bool}(h:gb inn (gi (gl x.next v) i).toNat=true)(h2:Xe inn (qK (kM x (x.pick.set v (gi (gl x.next v) i))) inn.length (inn.length+1) inn) (gi x.owner v)=b):Jz x inn v i=b:=by unfold Jz;rw [h,h2];rfl
theorem zFD {x:L7}{inn:List Bool}{v i:Nat}(h:gb inn (gi (gl x.next v) i).toNat=true):x.pick.set v (gi (gl x.next v) i)=ww x inn v (i+1):=by
 show _=if _ then _ else _;rw [h];rfl
theorem zG4 {x:L7}{inn:List Bool}{v i:Nat}(h:gb inn (gi (gl x.next v) i).toNat=false):ww x inn v i=ww x inn v (i+1):=by
 show _=if _ then _ else _;rw [h];rfl
noncomputable def qY (g:Pa):Nat→List Int
 |0=>noP g.a.owner.length
 |v+1=>if 0≤gi (qY g v) v∨¬gi (yn g) v=gi g.a.owner v then qY g v else((wW (l7G g (qY g v)) (Vs (yn g) (gi (yn g) v)) v (gl g.a.next v).length 0).2).set v (wW (l7G g (qY g v)) (Vs (yn g) (gi (yn g) v)) v (gl g.a.next v).length 0).1
theorem YW (g:Pa): ∀v,(qY g v).length=g.a.owner.length
 |0=>qw _
 |v+1=>by
  unfold qY
  split
  ·exact YW g v
  ·rw [List.length_set,WU];exact YW g v
theorem zGZ {g:Pa}{v:Nat}(h:0≤gi (qY g v) v∨¬gi (yn g) v=gi g.a.owner v):qY g v=qY g (v+1):=(if_pos h).symm
theorem zEK {g:Pa}{v:Nat}(h1: ¬0≤gi (qY g v) v)(h2:gi (yn g) v=gi g.a.owner v){w:Int}(hw:gi (yn g) v=w){r:Int×List Int}(hr:wW (l7G g (qY g v)) (Vs (yn g) w) v (gl g.a.next v).length 0=r):r.2.set v r.1=qY g (v+1):=by
 subst hr;subst hw;exact(if_neg fun e=>e.elim h1 fun e=>e h2).symm
noncomputable def Kf (g:Pa):List Int:=qY g g.a.owner.length
theorem zHg (b:Bool):wZ b=0∨wZ b=1:=by cases b<;>simp [wZ]
theorem zH6 (n v:Nat)(h:v<n):(noP n).set v (-1)=noP n:=by
 refine KI (by simp) fun k hk=> ?_
 rw [List.length_set,qw]at hk
 rw [YI (by rw [qw];exact h),Wi _ _ hk]
 split<;>rfl
theorem KQ (won:List Int)(w:Int):(Vs won w).length=won.length:=VS _ _
set_option maxRecDepth 20000 in
set_option maxHeartbeats 4000000 in
theorem zAf (g:Pa)(hok:yD g=true):Fn Try.prog tyT 130 [.agg (dPa g)] [.c (DI (yn g))]:=by
 obtain⟨hao,hpl,hpr⟩:=yS hok
 have hal:=zw hao
 have hxo:=Uv hok (qw g.a.owner.length)
 have hOf:=zCt g hok
 have hAl:=zF0 g.a.owner.length hal.2.1
 have hWn:=Qm (l7G g (noP g.a.owner.length)) (g.a.owner.length+1) (ZY g.a.owner.length) (by rw [VG];exact hxo) (by rw [VG];exact Nat.lt_succ_of_le (Zv _ _))
 rw [VG]at hWn
 have hbl:=Js g
 have hw9:qK (l7G g (noP g.a.owner.length)) g.a.owner.length (g.a.owner.length+1) (ZY g.a.owner.length)=Vz g:=rfl
 rw [hw9,show ZY g.a.owner.length=ZY g.prio.length from by rw [hpl]]at hWn
 rw [←hpl]at hAl
 unfold yn
 generalize Vz g=win at hWn hbl⊢
 unfold dL7 l7G ZY at hWn
 dsimp only at hWn
 unfold dPa at hOf⊢
 refine zt (fn:=Try.f130) (ts:= [2]) Try.func130 (by kernel_rfl) rfl rfl (by rw [Try.ntmps130];exact Nat.le_of_ble_eq_true rfl) rfl (by simp only [szA,List.mem_cons,List.not_mem_nil,or_false,forall_eq_or_imp,forall_eq,VT.cells,szL];try decide) ?_
 rw [Try.ntmps130]
 simp only [push_cast,↓zK,↓zJ,↓reduceIte,zA,zB,zC,zD,zE,zF,zG,zH,zI,reduceCtorEq]
 refine zL fun K hK=> ?_
 refine zM zP zN [] rfl ?_
 simp only [push_cast,↓zK,↓zJ,↓reduceIte,zA,zB,zC,zD,zE,zF,zG,zH,zI,reduceCtorEq]
 repeat' apply And.intro
 all_goals try exact gB
 all_goals first|(refine hK _ ?_;clear hK K)|(simp only [push_cast];done)
 refine zL fun K hK=> ?_
 refine XM false (jn Try.prog tyT) 7 (fun _ _ _ h=>uk h) zP zN yj ?_ rfl ?_
 ·kernel_rfl
 intro E hE
 all_goals refine XQ 2 (by decide) fun K9 hK9=> ?_
 all_goals simp only [push_cast,↓zK,↓zJ,↓reduceIte,zA,zB,zC,zD,zE,zF,zG,zH,zI,reduceCtorEq]
 all_goals repeat'(first|(apply zO<;>(intro hg;(try simp only [push_cast]at hg)))|(refine⟨_,_,hOf,?_⟩;simp only [push_cast,↓zK,↓zJ,↓reduceIte,zA,zB,zC,zD,zE,zF,zG,zH,zI,reduceCtorEq])|apply And.intro|(intro hg;(try simp only [push_cast]at hg)))
 all_goals try exact gA
 all_goals first|(refine hK9 _ _ ?_;clear hK9 K9)|(simp only [push_cast];done)
 all_goals refine XQ 4 (by decide) fun K9 hK9=> ?_
 all_goals simp only [push_cast,↓zK,↓zJ,↓reduceIte,zA,zB,zC,zD,zE,zF,zG,zH,zI,reduceCtorEq]
 all_goals repeat'(first|(apply zO<;>(intro hg;(try simp only [push_cast]at hg)))|(refine⟨_,hAl,?_⟩;simp only [push_cast,↓zK,↓zJ,↓reduceIte,zA,zB,zC,zD,zE,zF,zG,zH,zI,reduceCtorEq])|apply And.intro|(intro hg;(try simp only [push_cast]at hg)))
 all_goals try exact gA
 all_goals first|(refine hK9 _ _ ?_;clear hK9 K9)|(simp only [push_cast];done)
 all_goals refine XQ 1 (by decide) fun K9 hK9=> ?_
 all_goals simp only [push_cast,↓zK,↓zJ,↓reduceIte,zA,zB,zC,zD,zE,zF,zG,zH,zI,reduceCtorEq]
 all_goals repeat'(first|(apply zO<;>(intro hg;(try simp only [push_cast]at hg)))|(refine⟨_,hWn,?_⟩;simp only [push_cast,↓zK,↓zJ,↓reduceIte,zA,zB,zC,zD,zE,zF,zG,zH,zI,reduceCtorEq])|apply And.intro|(intro hg;(try simp only [push_cast]at hg)))
 all_goals try exact gA
 all_goals first|(refine hK9 _ _ ?_;clear hK9 K9)|(simp only [push_cast];done)
 all_goals simp only [push_cast,↓zK,↓zJ,↓reduceIte,zA,zB,zC,zD,zE,zF,zG,zH,zI,reduceCtorEq]
 all_goals repeat'(first|(apply zO<;>(intro hg;(try simp only [push_cast]at hg)))|(refine⟨_,_,hOf,?_⟩;simp only [push_cast,↓zK,↓zJ,↓reduceIte,zA,zB,zC,zD,zE,zF,zG,zH,zI,reduceCtorEq])|(refine⟨_,hAl,?_⟩;simp only [push_cast,↓zK,↓zJ,↓reduceIte,zA,zB,zC,zD,zE,zF,zG,zH,zI,reduceCtorEq])|(refine⟨_,hWn,?_⟩;simp only [push_cast,↓zK,↓zJ,↓reduceIte,zA,zB,zC,zD,zE,zF,zG,zH,zI,reduceCtorEq])|apply And.intro|(intro hg;(try simp only [push_cast]at hg)))
 all_goals first|exact gA|(refine hE _ _ ?_ ?_;kernel_rfl)|skip
 all_goals clear hE E
 all_goals first|(refine hK _ ?_;clear hK K)|(simp only [push_cast];done)
 refine zL fun K hK=> ?_
 refine zM zP zN [] rfl ?_
 simp only [push_cast,↓zK,↓zJ,↓reduceIte,zA,zB,zC,zD,zE,zF,zG,zH,zI,reduceCtorEq]
 repeat' apply And.intro
 all_goals try exact gB
 all_goals first|(refine hK _ ?_;clear hK K)|(simp only [push_cast];done)
 refine zL fun K1 hK1=> ?_
 refine zL fun K hK=> ?_
 refine zM zP zN [] rfl ?_
 simp only [push_cast,↓zK,↓zJ,↓reduceIte,zA,zB,zC,zD,zE,zF,zG,zH,zI,reduceCtorEq]
 repeat' apply And.intro
 all_goals try exact gB
 all_goals first|(refine hK _ ?_;clear hK K)|(simp only [push_cast];done)
 refine zT ?_
 refine zd [4,5,14,15,16,17,18,19,20,21,22,23,24,25,26,27,28] [64] (fun(k:Nat)=> [(5, .int .i64 k),(4, .sl 64 [] 0 k 2)]) (fun k=> []) (fun k=> [(64,⟨.ex,2,dI ((win.take k).map wZ),none⟩)]) (fun k=>k≤win.length) (fun k=>win.length - k) 0 ?_ (by omega) ?_
 ·
  rw [show dI ((win.take 0).map wZ)= []from rfl]
  refine zW rfl ?_ ?_ ?_<;>simp only [zc,zb,push_cast,↓zK,↓zJ,↓reduceIte,zA,zB,zC,zD,zE,zF,zG,zH,zI,reduceCtorEq]
 ·rintro k hk KL0 hL0
  have hfl:((win.take k).map wZ).length=k:=by rw [List.length_map,List.length_take];omega
  have hfn:wZ (gb win k)=1 - (if gb win k=true then 1 else 0):=by cases gb win k<;>rfl
  simp only [push_cast,↓zK,↓zJ,↓reduceIte,zA,zB,zC,zD,zE,zF,zG,zH,zI,reduceCtorEq]
  refine zL fun K2 hK2=> ?_
  refine zL fun K hK=> ?_
  refine zM zP zN [] rfl ?_
  simp only [push_cast,↓zK,↓zJ,↓reduceIte,zA,zB,zC,zD,zE,zF,zG,zH,zI,reduceCtorEq]
  repeat' apply And.intro
  all_goals try exact gB
  all_goals first|(refine hK _ ?_;clear hK K)|(simp only [push_cast];done)
  refine zU rfl (fun hc=> ?_) (fun hc=> ?_)<;>(try simp only [push_cast]at hc)
  ·
   refine zV ?_
   (try simp only [zR,zS,reduceIte,zF]);refine hK2 _ ?_
   refine zL fun K3 hK3=> ?_
   refine zT ?_
   refine zM zP zN [] rfl ?_
   all_goals refine zm 6 fun K9 hK9=> ?_
   all_goals simp only [push_cast,↓zK,↓zJ,↓reduceIte,zA,zB,zC,zD,zE,zF,zG,zH,zI,reduceCtorEq]
   all_goals repeat'(first|(apply zO<;>(intro hg;(try simp only [push_cast]at hg)))|(refine⟨_,WI _,?_⟩;simp only [push_cast,↓zK,↓zJ,↓reduceIte,zA,zB,zC,zD,zE,zF,zG,zH,zI,reduceCtorEq])|apply And.intro|(intro hg;(try simp only [push_cast]at hg)))
   all_goals try exact gA
   all_goals first|(refine hK9 _ ?_;clear hK9 K9)|(simp only [push_cast];done)
   all_goals simp only [push_cast,↓zK,↓zJ,↓reduceIte,zA,zB,zC,zD,zE,zF,zG,zH,zI,reduceCtorEq]
   all_goals repeat'(first|(apply zO<;>(intro hg;(try simp only [push_cast]at hg)))|(refine⟨_,WI _,?_⟩;simp only [push_cast,↓zK,↓zJ,↓reduceIte,zA,zB,zC,zD,zE,zF,zG,zH,zI,reduceCtorEq])|apply And.intro|(intro hg;(try simp only [push_cast]at hg)))
   all_goals try exact gA
   (try simp only [zR,zS,reduceIte,zF]);refine hK3 _ ?_
   refine zM zP zN [] rfl ?_
   simp only [push_cast,↓zK,↓zJ,↓reduceIte,zA,zB,zC,zD,zE,zF,zG,zH,zI,reduceCtorEq]
   repeat' apply And.intro
   all_goals try exact gB
   refine hL0 _ ⟨k+1,by omega,by omega,?_⟩
   (try rw [List.take_of_length_le (l:=(win.take k).map wZ) (by omega)])
   rw [zDE (by omega),hfn]
   refine zW rfl ?_ ?_ ?_<;>simp only [zc,zb,push_cast,↓zK,↓zJ,↓reduceIte,zA,zB,zC,zD,zE,zF,zG,zH,zI,reduceCtorEq]
   all_goals first|rfl|(simp;done)
  ·
   refine ze ?_
   have hkk:k=win.length:=by omega
   subst hkk
   rw [List.take_length]
   (try simp only [zR,zS,reduceIte,zF]);refine hK1 _ ?_
   refine zL fun K hK=> ?_
   refine zM zP zN [] rfl ?_
   simp only [push_cast,↓zK,↓zJ,↓reduceIte,zA,zB,zC,zD,zE,zF,zG,zH,zI,reduceCtorEq]
   repeat' apply And.intro
   all_goals try exact gB
   all_goals first|(refine hK _ ?_;clear hK K)|(simp only [push_cast];done)
   refine zX ?_
   (try simp only [zR,zS])
   refine⟨Or.inl rfl,?_⟩
   simp only [zg,push_cast,↓zK,↓zJ,↓reduceIte,zA,zB,zC,zD,zE,zF,zG,zH,zI,reduceCtorEq]
   all_goals first|rfl|exact⟨rfl,by simp⟩|(simp;done)
set_option maxRecDepth 20000 in
set_option maxHeartbeats 4000000 in
theorem zEp (g:Pa)(hg:g.Ln 1048576)(hok:yD g=true):Fn Try.prog tyT 145 [.agg (dPa g), .c (DI (noP g.prio.length))] [.agg (dPa g), .c (.bool true)]:=by
 obtain⟨hao,hpl,hpr⟩:=yS hok
 have hal:=zw hao
 have hP:=XS g hg
 rw [hok]at hP
 have hPk:=zDz g hg
 have hp9:=hg.prio
 have ho9:=hg.a.owner
 have hx9:=hg.a.next
 have hC1:=vW g.a.owner ho9
 have hC2:=vW g.prio hp9
 have hC3:=fun v (hv:v<g.a.next.length)=>vW (gl g.a.next v) (zIR hx9 hv)
 unfold LnI at hp9 ho9
 have hnl:=qw g.prio.length
 have hng:=Wi g.prio.length
 generalize noP g.prio.length=ps at hnl hng hPk⊢
 unfold dPa at hP hPk⊢
 refine Qb (fn:=Try.f145) (rs:= [.cell 4 69, .tmp 5]) zP zN Try.func145 (by kernel_rfl) rfl rfl (by rw [Try.ntmps145];exact Nat.le_of_ble_eq_true rfl) rfl (by simp only [szA,List.mem_cons,List.not_mem_nil,or_false,forall_eq_or_imp,forall_eq,VT.cells,szL];try decide) ?_
 rw [Try.ntmps145]
 simp only [push_cast,↓zK,↓zJ,↓reduceIte,zA,zB,zC,zD,zE,zF,zG,zH,zI,reduceCtorEq]
 refine zL fun K hK=> ?_
 refine zM zP zN [] rfl ?_
 all_goals simp only [push_cast,↓zK,↓zJ,↓reduceIte,zA,zB,zC,zD,zE,zF,zG,zH,zI,reduceCtorEq]
 all_goals repeat'(first|(apply zO<;>(intro hg;(try simp only [push_cast]at hg)))|apply And.intro|(intro hg;(try simp only [push_cast]at hg)))
 all_goals first|exact gA|(exact zQ (by omega))|skip
 all_goals first|(refine hK _ ?_;clear hK K)|(simp only [push_cast];done)
 refine zL fun K1 hK1=> ?_
 refine zL fun K hK=> ?_
 refine zf false zP zN ?_ rfl ?_
 ·kernel_rfl
 all_goals refine zp 2 fun K9 hK9=> ?_
 all_goals simp only [push_cast,↓zK,↓zJ,↓reduceIte,zA,zB,zC,zD,zE,zF,zG,zH,zI,reduceCtorEq]
 all_goals repeat'(first|(apply zO<;>(intro hg;(try simp only [push_cast]at hg)))|(refine⟨_,hP,?_⟩;simp only [push_cast,↓zK,↓zJ,↓reduceIte,zA,zB,zC,zD,zE,zF,zG,zH,zI,reduceCtorEq])|(refine⟨_,hPk,?_⟩;simp only [push_cast,↓zK,↓zJ,↓reduceIte,zA,zB,zC,zD,zE,zF,zG,zH,zI,reduceCtorEq])|apply And.intro|(intro hg;(try simp only [push_cast]at hg)))
 all_goals first|exact gA|(exact zQ (by omega))|skip
 all_goals first|(refine hK9 _ ?_;clear hK9 K9)|(simp only [push_cast];done)
 all_goals refine zp 5 fun K9 hK9=> ?_
 all_goals simp only [push_cast,↓zK,↓zJ,↓reduceIte,zA,zB,zC,zD,zE,zF,zG,zH,zI,reduceCtorEq]
 all_goals repeat'(first|(apply zO<;>(intro hg;(try simp only [push_cast]at hg)))|(refine⟨_,hP,?_⟩;simp only [push_cast,↓zK,↓zJ,↓reduceIte,zA,zB,zC,zD,zE,zF,zG,zH,zI,reduceCtorEq])|(refine⟨_,hPk,?_⟩;simp only [push_cast,↓zK,↓zJ,↓reduceIte,zA,zB,zC,zD,zE,zF,zG,zH,zI,reduceCtorEq])|apply And.intro|(intro hg;(try simp only [push_cast]at hg)))
 all_goals first|exact gA|(exact zQ (by omega))|skip
 all_goals first|(refine hK9 _ ?_;clear hK9 K9)|(simp only [push_cast];done)
 all_goals simp only [push_cast,↓zK,↓zJ,↓reduceIte,zA,zB,zC,zD,zE,zF,zG,zH,zI,reduceCtorEq]
 all_goals repeat'(first|(apply zO<;>(intro hg;(try simp only [push_cast]at hg)))|(refine⟨_,hP,?_⟩;simp only [push_cast,↓zK,↓zJ,↓reduceIte,zA,zB,zC,zD,zE,zF,zG,zH,zI,reduceCtorEq])|(refine⟨_,hPk,?_⟩;simp only [push_cast,↓zK,↓zJ,↓reduceIte,zA,zB,zC,zD,zE,zF,zG,zH,zI,reduceCtorEq])|apply And.intro|(intro hg;(try simp only [push_cast]at hg)))
 all_goals first|exact gA|(exact zQ (by omega))|skip
 all_goals first|(refine hK _ ?_;clear hK K)|(simp only [push_cast];done)
 all_goals(
   refine zU rfl (fun hc=> ?_) (fun hc=> ?_)
   skip
   ·exfalso;first|(cases hc;done)|(simp only [push_cast]at hc;done)|(simp only [push_cast]at hc;omega)|omega
   refine zV ?_
   (try simp only [zR,zS,reduceIte,zF]);refine hK1 _ ?_
   refine zL fun K hK=> ?_
   refine zv false zP zN yj ?_ rfl ?_
   ·kernel_rfl
   intro E hE
   all_goals refine yT 4 (by decide) fun K9 hK9=> ?_
   all_goals simp only [push_cast,↓zK,↓zJ,↓reduceIte,zA,zB,zC,zD,zE,zF,zG,zH,zI,reduceCtorEq]
   all_goals repeat'(first|(apply zO<;>(intro hg;(try simp only [push_cast]at hg)))|(refine⟨_,hC1,?_⟩;simp only [push_cast,↓zK,↓zJ,↓reduceIte,zA,zB,zC,zD,zE,zF,zG,zH,zI,reduceCtorEq])|(refine⟨_,hC2,?_⟩;simp only [push_cast,↓zK,↓zJ,↓reduceIte,zA,zB,zC,zD,zE,zF,zG,zH,zI,reduceCtorEq])|apply And.intro|(intro hg;(try simp only [push_cast]at hg)))
   all_goals first|exact gA|(exact zQ (by omega))|skip
   all_goals first|(refine hK9 _ _ ?_;clear hK9 K9)|(simp only [push_cast];done)
   all_goals refine yT 4 (by decide) fun K9 hK9=> ?_
   all_goals simp only [push_cast,↓zK,↓zJ,↓reduceIte,zA,zB,zC,zD,zE,zF,zG,zH,zI,reduceCtorEq]
   all_goals repeat'(first|(apply zO<;>(intro hg;(try simp only [push_cast]at hg)))|(refine⟨_,hC1,?_⟩;simp only [push_cast,↓zK,↓zJ,↓reduceIte,zA,zB,zC,zD,zE,zF,zG,zH,zI,reduceCtorEq])|(refine⟨_,hC2,?_⟩;simp only [push_cast,↓zK,↓zJ,↓reduceIte,zA,zB,zC,zD,zE,zF,zG,zH,zI,reduceCtorEq])|apply And.intro|(intro hg;(try simp only [push_cast]at hg)))
   all_goals first|exact gA|(exact zQ (by omega))|skip
   all_goals first|(refine hK9 _ _ ?_;clear hK9 K9)|(simp only [push_cast];done)
   all_goals simp only [push_cast,↓zK,↓zJ,↓reduceIte,zA,zB,zC,zD,zE,zF,zG,zH,zI,reduceCtorEq]
   all_goals repeat'(first|(apply zO<;>(intro hg;(try simp only [push_cast]at hg)))|(refine⟨_,hC1,?_⟩;simp only [push_cast,↓zK,↓zJ,↓reduceIte,zA,zB,zC,zD,zE,zF,zG,zH,zI,reduceCtorEq])|(refine⟨_,hC2,?_⟩;simp only [push_cast,↓zK,↓zJ,↓reduceIte,zA,zB,zC,zD,zE,zF,zG,zH,zI,reduceCtorEq])|apply And.intro|(intro hg;(try simp only [push_cast]at hg)))
   all_goals first|exact gA|(refine hE _ _ ?_ ?_;kernel_rfl)|(exact zQ (by omega))|skip
   all_goals clear hE E
   all_goals first|(refine hK _ ?_;clear hK K)|(simp only [push_cast];done)
   refine wi [.sl 2, .sl 27, .sl 2] 6 ?_
   simp only [push_cast,↓zK,↓zJ,↓reduceIte,zA,zB,zC,zD,zE,zF,zG,zH,zI,reduceCtorEq]
   refine zL fun K2 hK2=> ?_
   refine zL fun K hK=> ?_
   refine zM zP zN [] rfl ?_
   all_goals simp only [push_cast,↓zK,↓zJ,↓reduceIte,zA,zB,zC,zD,zE,zF,zG,zH,zI,reduceCtorEq]
   all_goals repeat'(first|(apply zO<;>(intro hg;(try simp only [push_cast]at hg)))|apply And.intro|(intro hg;(try simp only [push_cast]at hg)))
   all_goals first|exact gA|(exact zQ (by omega))|skip
   all_goals first|(refine hK _ ?_;clear hK K)|(simp only [push_cast];done)
   refine zT ?_
   refine zd [6,7,8,12,28,29,30,31,32,33,34,35,36,37,38,39,40,41,42,43,44,45,46,47,48,49,50,51,52,53,54,55,56,57,58] [96,97,98] (fun(v:Nat)=> [(7, .int .i64 v),(6, .bp 6 0)]) (fun v=> [(6,[.sl 96 [] 0 g.a.owner.length 2, .sl 97 [] 0 v 27, .sl 98 [] 0 g.prio.length 2])]) (fun v=> [(96,⟨.ex,2,dI g.a.owner,none⟩),(97,⟨.ex,27,dII (g.a.next.take v),none⟩),(98,⟨.ex,2,dI g.prio,none⟩)]) (fun v=>v≤g.a.next.length) (fun v=>g.a.next.length - v) 0 ?_ (by omega) ?_
   ·
    rw [show dII (g.a.next.take 0)= []from rfl]
    refine zW rfl ?_ ?_ ?_<;>simp only [zc,zb,push_cast,↓zK,↓zJ,↓reduceIte,zA,zB,zC,zD,zE,zF,zG,zH,zI,reduceCtorEq]
   ·rintro v hv KL0 hL0
    have htl:(g.a.next.take v).length=v:=by rw [List.length_take];omega
    simp only [push_cast,↓zK,↓zJ,↓reduceIte,zA,zB,zC,zD,zE,zF,zG,zH,zI,reduceCtorEq]
    refine zL fun K3 hK3=> ?_
    refine zL fun K hK=> ?_
    refine zM zP zN [] rfl ?_
    all_goals simp only [push_cast,↓zK,↓zJ,↓reduceIte,zA,zB,zC,zD,zE,zF,zG,zH,zI,reduceCtorEq]
    all_goals repeat'(first|(apply zO<;>(intro hg;(try simp only [push_cast]at hg)))|apply And.intro|(intro hg;(try simp only [push_cast]at hg)))
    all_goals first|exact gA|(exact zQ (by omega))|skip
    all_goals first|(refine hK _ ?_;clear hK K)|(simp only [push_cast];done)
    refine zU rfl (fun hc=> ?_) (fun hc=> ?_)<;>(try simp only [push_cast]at hc)
    ·
     refine zV ?_
     (try simp only [zR,zS,reduceIte,zF]);refine hK3 _ ?_
     refine zL fun K4 hK4=> ?_
     refine zT ?_
     refine zL fun K hK=> ?_
     refine zM zP zN [] rfl ?_
     all_goals refine zm 7 fun K9 hK9=> ?_
     all_goals simp only [push_cast,↓zK,↓zJ,↓reduceIte,zA,zB,zC,zD,zE,zF,zG,zH,zI,reduceCtorEq]
     all_goals repeat'(first|(apply zO<;>(intro hg;(try simp only [push_cast]at hg)))|(refine⟨_,hC3 v (by omega),?_⟩;simp only [push_cast,↓zK,↓zJ,↓reduceIte,zA,zB,zC,zD,zE,zF,zG,zH,zI,reduceCtorEq])|apply And.intro|(intro hg;(try simp only [push_cast]at hg)))
     all_goals first|exact gA|(exact zQ (by omega))|skip
     all_goals first|(refine hK9 _ ?_;clear hK9 K9)|(simp only [push_cast];done)
     all_goals simp only [push_cast,↓zK,↓zJ,↓reduceIte,zA,zB,zC,zD,zE,zF,zG,zH,zI,reduceCtorEq]
     all_goals repeat'(first|(apply zO<;>(intro hg;(try simp only [push_cast]at hg)))|(refine⟨_,hC3 v (by omega),?_⟩;simp only [push_cast,↓zK,↓zJ,↓reduceIte,zA,zB,zC,zD,zE,zF,zG,zH,zI,reduceCtorEq])|apply And.intro|(intro hg;(try simp only [push_cast]at hg)))
     all_goals first|exact gA|(exact zQ (by omega))|skip
     all_goals first|(refine hK _ ?_;clear hK K)|(simp only [push_cast];done)
     refine zL fun K5 hK5=> ?_
     have hpk:=hng v (by omega)
     refine zL fun K hK=> ?_
     refine zM zP zN [] rfl ?_
     all_goals simp only [push_cast,↓zK,↓zJ,↓reduceIte,zA,zB,zC,zD,zE,zF,zG,zH,zI,reduceCtorEq]
     all_goals repeat'(first|(apply zO<;>(intro hg;(try simp only [push_cast]at hg)))|apply And.intro|(intro hg;(try simp only [push_cast]at hg)))
     all_goals first|exact gA|(exact zQ (by omega))|skip
     all_goals first|(refine hK _ ?_;clear hK K)|(simp only [push_cast];done)
     refine zU rfl (fun hc=> ?_) (fun hc=> ?_)
     skip
     ·exfalso;first|(cases hc;done)|(simp only [push_cast]at hc;done)|(simp only [push_cast]at hc;omega)|omega
     refine zV ?_
     (try simp only [zR,zS,reduceIte,zF]);refine hK5 _ ?_
     refine zf false zP zN ?_ rfl ?_
     ·kernel_rfl
     simp only [push_cast,↓zK,↓zJ,↓reduceIte,zA,zB,zC,zD,zE,zF,zG,zH,zI,reduceCtorEq]
     all_goals repeat'(first|(apply zO<;>(intro hg;(try simp only [push_cast]at hg)))|apply And.intro|(intro hg;(try simp only [push_cast]at hg)))
     all_goals first|exact gA|(exact zQ (by omega))|skip
     (try simp only [zR,zS,reduceIte,zF]);refine hK4 _ ?_
     refine wi [.sl 2, .sl 27, .sl 2] 6 ?_
     simp only [push_cast,↓zK,↓zJ,↓reduceIte,zA,zB,zC,zD,zE,zF,zG,zH,zI,reduceCtorEq]
     refine zM zP zN [] rfl ?_
     all_goals simp only [push_cast,↓zK,↓zJ,↓reduceIte,zA,zB,zC,zD,zE,zF,zG,zH,zI,reduceCtorEq]
     all_goals repeat'(first|(apply zO<;>(intro hg;(try simp only [push_cast]at hg)))|apply And.intro|(intro hg;(try simp only [push_cast]at hg)))
     all_goals first|exact gA|(exact zQ (by omega))|skip
     refine hL0 _ ⟨v+1,by omega,by omega,?_⟩
     (try rw [List.take_of_length_le (l:=g.a.next.take v) (by omega)])
     rw [jG (xs:=g.a.next) (k:=v) (by omega)]
     refine zW rfl ?_ ?_ ?_<;>simp only [zc,zb,push_cast,↓zK,↓zJ,↓reduceIte,zA,zB,zC,zD,zE,zF,zG,zH,zI,reduceCtorEq]
    ·
     refine ze ?_
     have hvv:v=g.a.next.length:=by omega
     subst hvv
     rw [List.take_length]
     (try simp only [zR,zS,reduceIte,zF]);refine hK2 _ ?_
     refine zL fun K hK=> ?_
     refine zM zP zN [] rfl ?_
     all_goals simp only [push_cast,↓zK,↓zJ,↓reduceIte,zA,zB,zC,zD,zE,zF,zG,zH,zI,reduceCtorEq]
     all_goals repeat'(first|(apply zO<;>(intro hg;(try simp only [push_cast]at hg)))|apply And.intro|(intro hg;(try simp only [push_cast]at hg)))
     all_goals first|exact gA|(exact zQ (by omega))|skip
     all_goals first|(refine hK _ ?_;clear hK K)|(simp only [push_cast];done)
     refine zX ?_
     (try simp only [zR,zS])
     refine⟨Or.inl rfl,?_⟩
     simp only [zg,ya,xf,push_cast,↓zK,↓zJ,↓reduceIte,zA,zB,zC,zD,zE,zF,zG,zH,zI,reduceCtorEq]
     all_goals first|rfl|decide|skip)
set_option maxRecDepth 20000 in
set_option maxHeartbeats 4000000 in
theorem zBh (g:Pa)(hg:g.Ln 1048576)(hok:yD g=true):Fn Try.prog tyT 129 [.agg (dPa g), .c (DI (noP g.prio.length))] [.c (.bool true)]:=by
 obtain⟨hao,hpl,hpr⟩:=yS hok
 have hal:=zw hao
 have hO:=zEp g hg hok
 have hW:=zAf g hok
 have hwl:=YF g
 have hS:=zE7 (yn g) (yn g) (by omega) (by omega)
 rw [decide_eq_true rfl]at hS
 unfold dPa at hO hW⊢
 refine zt (fn:=Try.f129) (ts:= [4]) Try.func129 (by kernel_rfl) rfl rfl (by rw [Try.ntmps129];exact Nat.le_of_ble_eq_true rfl) rfl (by simp only [szA,List.mem_cons,List.not_mem_nil,or_false,forall_eq_or_imp,forall_eq,VT.cells,szL];try decide) ?_
 rw [Try.ntmps129]
 simp only [push_cast,↓zK,↓zJ,↓reduceIte,zA,zB,zC,zD,zE,zF,zG,zH,zI,reduceCtorEq]
 refine zL fun K hK=> ?_
 refine zM zP zN [] rfl ?_
 simp only [push_cast,↓zK,↓zJ,↓reduceIte,zA,zB,zC,zD,zE,zF,zG,zH,zI,reduceCtorEq]
 repeat' apply And.intro
 all_goals try exact gB
 all_goals first|(refine hK _ ?_;clear hK K)|(simp only [push_cast];done)
 refine zL fun K hK=> ?_
 refine zM zP zN [] rfl ?_
 all_goals refine zm 3 fun K9 hK9=> ?_
 all_goals simp only [push_cast,↓zK,↓zJ,↓reduceIte,zA,zB,zC,zD,zE,zF,zG,zH,zI,reduceCtorEq]
 all_goals repeat'(first|(apply zO<;>(intro hg;(try simp only [push_cast]at hg)))|(refine⟨_,hO,?_⟩;simp only [push_cast,↓zK,↓zJ,↓reduceIte,zA,zB,zC,zD,zE,zF,zG,zH,zI,reduceCtorEq])|apply And.intro|(intro hg;(try simp only [push_cast]at hg)))
 all_goals try exact gA
 all_goals first|(refine hK9 _ ?_;clear hK9 K9)|(simp only [push_cast];done)
 all_goals simp only [push_cast,↓zK,↓zJ,↓reduceIte,zA,zB,zC,zD,zE,zF,zG,zH,zI,reduceCtorEq]
 all_goals repeat'(first|(apply zO<;>(intro hg;(try simp only [push_cast]at hg)))|(refine⟨_,hO,?_⟩;simp only [push_cast,↓zK,↓zJ,↓reduceIte,zA,zB,zC,zD,zE,zF,zG,zH,zI,reduceCtorEq])|apply And.intro|(intro hg;(try simp only [push_cast]at hg)))
 all_goals try exact gA
 all_goals first|(refine hK _ ?_;clear hK K)|(simp only [push_cast];done)
 refine zL fun K hK=> ?_
 refine zv false zP zN yj ?_ rfl ?_
 ·kernel_rfl
 intro E hE
 all_goals refine yT 4 (by decide) fun K9 hK9=> ?_
 all_goals simp only [push_cast,↓zK,↓zJ,↓reduceIte,zA,zB,zC,zD,zE,zF,zG,zH,zI,reduceCtorEq]
 all_goals repeat'(first|(apply zO<;>(intro hg;(try simp only [push_cast]at hg)))|(refine⟨_,hW,?_⟩;simp only [push_cast,↓zK,↓zJ,↓reduceIte,zA,zB,zC,zD,zE,zF,zG,zH,zI,reduceCtorEq])|apply And.intro|(intro hg;(try simp only [push_cast]at hg)))
 all_goals try exact gA
 all_goals first|(refine hK9 _ _ ?_;clear hK9 K9)|(simp only [push_cast];done)
 all_goals refine yT 2 (by decide) fun K9 hK9=> ?_
 all_goals simp only [push_cast,↓zK,↓zJ,↓reduceIte,zA,zB,zC,zD,zE,zF,zG,zH,zI,reduceCtorEq]
 all_goals repeat'(first|(apply zO<;>(intro hg;(try simp only [push_cast]at hg)))|(refine⟨_,hW,?_⟩;simp only [push_cast,↓zK,↓zJ,↓reduceIte,zA,zB,zC,zD,zE,zF,zG,zH,zI,reduceCtorEq])|apply And.intro|(intro hg;(try simp only [push_cast]at hg)))
 all_goals try exact gA
 all_goals first|(refine hK9 _ _ ?_;clear hK9 K9)|(simp only [push_cast];done)
 all_goals refine yT 1 (by decide) fun K9 hK9=> ?_
 all_goals simp only [push_cast,↓zK,↓zJ,↓reduceIte,zA,zB,zC,zD,zE,zF,zG,zH,zI,reduceCtorEq]
 all_goals repeat'(first|(apply zO<;>(intro hg;(try simp only [push_cast]at hg)))|(refine⟨_,hS,?_⟩;simp only [push_cast,↓zK,↓zJ,↓reduceIte,zA,zB,zC,zD,zE,zF,zG,zH,zI,reduceCtorEq])|apply And.intro|(intro hg;(try simp only [push_cast]at hg)))
 all_goals try exact gA
 all_goals first|(refine hK9 _ _ ?_;clear hK9 K9)|(simp only [push_cast];done)
 all_goals simp only [push_cast,↓zK,↓zJ,↓reduceIte,zA,zB,zC,zD,zE,zF,zG,zH,zI,reduceCtorEq]
 all_goals repeat'(first|(apply zO<;>(intro hg;(try simp only [push_cast]at hg)))|(refine⟨_,hW,?_⟩;simp only [push_cast,↓zK,↓zJ,↓reduceIte,zA,zB,zC,zD,zE,zF,zG,zH,zI,reduceCtorEq])|(refine⟨_,hS,?_⟩;simp only [push_cast,↓zK,↓zJ,↓reduceIte,zA,zB,zC,zD,zE,zF,zG,zH,zI,reduceCtorEq])|apply And.intro|(intro hg;(try simp only [push_cast]at hg)))
 all_goals first|exact gA|(refine hE _ _ ?_ ?_;kernel_rfl)|skip
 all_goals clear hE E
 all_goals first|(refine hK _ ?_;clear hK K)|(simp only [push_cast];done)
 all_goals(
   refine zX ?_
   (try simp only [zR,zS])
   refine⟨Or.inl rfl,?_⟩
   simp only [zg,push_cast,↓zK,↓zJ,↓reduceIte,zA,zB,zC,zD,zE,zF,zG,zH,zI,reduceCtorEq])
set_option maxRecDepth 20000 in
set_option maxHeartbeats 4000000 in
theorem zE2 (x:L7)(inn:List Bool)(hx:x.Ok inn.length)(v:Nat)(hv:v<inn.length)(r:Int×List Int)(hr:wW x inn v (gl x.next v).length 0=r):FnG Try.prog tyT 133 [.agg (dL7 x), .c (.lst 4 (dB inn)), .c (.int .i64 v)] [4] [(4,2,dI r.2)] [.c (.int .i64 r.1)]:=by
 have hn1:=hx.hn
 have hn2:=hx.ho
 have hn4:=hx.hx
 have hn6:=hx.hk
 have hdeg:=hx.deg v hv
 have hto:=hx.to v hv
 have hH:=fun u=>zDc (kM x (x.pick.set v u)) inn (zH5 hx (by rw [List.length_set];exact hx.hk)) (inn.length+1) (Nat.lt_succ_of_le (Zv _ _)) (gi x.owner v)
 obtain⟨hb,hbe⟩: ∃hb:Int→Bool,∀u,hb u=Xe inn (qK (kM x (x.pick.set v u)) inn.length (inn.length+1) inn) (gi x.owner v):=⟨_,fun _=>rfl⟩
 simp only [←hbe]at hH
 unfold dL7 kM at hH
 dsimp only at hH
 unfold dL7
 refine zIz (fn:=Try.f133) (rs:= [.tmp 6]) (own:= [4]) (outs:= [(4,2,dI r.2)]) zP zN Try.func133 (by kernel_rfl) rfl rfl (by rw [Try.ntmps133];exact Nat.le_of_ble_eq_true rfl) rfl (by simp only [szA,List.mem_cons,List.not_mem_nil,or_false,forall_eq_or_imp,forall_eq,VT.cells,szL];try decide) ?_
 rw [Try.ntmps133]
 simp only [push_cast,↓zK,↓zJ,↓reduceIte,zA,zB,zC,zD,zE,zF,zG,zH,zI,reduceCtorEq]
 refine zL fun K hK=> ?_
 refine zM zP zN [] rfl ?_
 all_goals simp only [push_cast,↓zK,↓zJ,↓reduceIte,zA,zB,zC,zD,zE,zF,zG,zH,zI,reduceCtorEq]
 all_goals repeat'(first|(apply zO<;>(intro hg;(try simp only [push_cast]at hg)))|apply And.intro|(intro hg;(try simp only [push_cast]at hg)))
 all_goals first|exact gA|(exact zQ (by omega))|skip
 all_goals first|(refine hK _ ?_;clear hK K)|(simp only [push_cast];done)
 refine zL fun K1 hK1=> ?_
 refine zL fun K hK=> ?_
 refine zM zP zN [] rfl ?_
 all_goals simp only [push_cast,↓zK,↓zJ,↓reduceIte,zA,zB,zC,zD,zE,zF,zG,zH,zI,reduceCtorEq]
 all_goals repeat'(first|(apply zO<;>(intro hg;(try simp only [push_cast]at hg)))|apply And.intro|(intro hg;(try simp only [push_cast]at hg)))
 all_goals first|exact gA|(exact zQ (by omega))|skip
 all_goals first|(refine hK _ ?_;clear hK K)|(simp only [push_cast];done)
 refine zT ?_
 refine zd [6,7,8,9,10,11,12,13,14,15,16,17,18,19,20,21,22,23,24,25,26,27,28,29,30,31,32,33,34,35,36,37,38,39,40,41,42,43,44,45] [4] (fun(i:Nat)=> [(7, .int .i64 i),(3, .bp 3 0)]) (fun i=> []) (fun i=> [(4,⟨.ex,2,dI (ww x inn v i),some 4⟩)]) (fun i=>i≤(gl x.next v).length∧wW x inn v ((gl x.next v).length - i) i=r) (fun i=>(gl x.next v).length - i) 0 ?_ ⟨Nat.zero_le _,hr⟩ ?_
 ·
  rw [show ww x inn v 0=x.pick from rfl]
  skip
  refine zW rfl ?_ ?_ ?_<;>simp only [zc,zb,push_cast,↓zK,↓zJ,↓reduceIte,zA,zB,zC,zD,zE,zF,zG,zH,zI,reduceCtorEq]
 ·rintro i ⟨hi,hrr⟩ KL0 hL0
  have hsl:=WN x inn v i
  simp only [push_cast,↓zK,↓zJ,↓reduceIte,zA,zB,zC,zD,zE,zF,zG,zH,zI,reduceCtorEq]
  refine zL fun K2 hK2=> ?_
  refine zL fun K hK=> ?_
  refine zM zP zN [] rfl ?_
  all_goals simp only [push_cast,↓zK,↓zJ,↓reduceIte,zA,zB,zC,zD,zE,zF,zG,zH,zI,reduceCtorEq]
  all_goals repeat'(first|(apply zO<;>(intro hg;(try simp only [push_cast]at hg)))|apply And.intro|(intro hg;(try simp only [push_cast]at hg)))
  all_goals first|exact gA|(exact zQ (by omega))|skip
  all_goals first|(refine hK _ ?_;clear hK K)|(simp only [push_cast];done)
  refine zU rfl (fun hc=> ?_) (fun hc=> ?_)<;>(try simp only [push_cast]at hc)
  ·
   refine zV ?_
   (try simp only [zR,zS,reduceIte,zF]);refine hK2 _ ?_
   refine zL fun K3 hK3=> ?_
   refine zT ?_
   refine zL fun K hK=> ?_
   refine zM zP zN [] rfl ?_
   all_goals simp only [push_cast,↓zK,↓zJ,↓reduceIte,zA,zB,zC,zD,zE,zF,zG,zH,zI,reduceCtorEq]
   all_goals repeat'(first|(apply zO<;>(intro hg;(try simp only [push_cast]at hg)))|apply And.intro|(intro hg;(try simp only [push_cast]at hg)))
   all_goals first|exact gA|(exact zQ (by omega))|skip
   all_goals first|(refine hK _ ?_;clear hK K)|(simp only [push_cast];done)
   refine zL fun K4 hK4=> ?_
   have hti:=hto i (by omega)
   refine zL fun K hK=> ?_
   refine zM zP zN [] rfl ?_
   all_goals simp only [push_cast,↓zK,↓zJ,↓reduceIte,zA,zB,zC,zD,zE,zF,zG,zH,zI,reduceCtorEq]
   all_goals repeat'(first|(apply zO<;>(intro hg;(try simp only [push_cast]at hg)))|apply And.intro|(intro hg;(try simp only [push_cast]at hg)))
   all_goals first|exact gA|(exact zQ (by omega))|skip
   all_goals first|(refine hK _ ?_;clear hK K)|(simp only [push_cast];done)
   refine zU rfl (fun hc=> ?_) (fun hc=> ?_)<;>(try simp only [push_cast]at hc)
   ·
    refine ze ?_
    (try simp only [zR,zS,reduceIte,zF]);refine hK3 _ ?_
    refine zM zP zN [] rfl ?_
    all_goals simp only [push_cast,↓zK,↓zJ,↓reduceIte,zA,zB,zC,zD,zE,zF,zG,zH,zI,reduceCtorEq]
    all_goals repeat'(first|(apply zO<;>(intro hg;(try simp only [push_cast]at hg)))|apply And.intro|(intro hg;(try simp only [push_cast]at hg)))
    all_goals first|exact gA|(exact zQ (by omega))|skip
    refine hL0 _ ⟨i+1,⟨by omega,Ue (by omega) hrr (zJ5 (by with_reducible assumption))⟩,by omega,?_⟩
    rw [zG4 (by with_reducible assumption)]
    refine zW rfl ?_ ?_ ?_<;>simp only [zc,zb,push_cast,↓zK,↓zJ,↓reduceIte,zA,zB,zC,zD,zE,zF,zG,zH,zI,reduceCtorEq]
   ·
    refine zV ?_
    (try simp only [zR,zS,reduceIte,zF]);refine hK4 _ ?_
    refine zL fun K hK=> ?_
    refine zM zP zN [] rfl ?_
    all_goals simp only [push_cast,↓zK,↓zJ,↓reduceIte,zA,zB,zC,zD,zE,zF,zG,zH,zI,reduceCtorEq]
    all_goals repeat'(first|(apply zO<;>(intro hg;(try simp only [push_cast]at hg)))|apply And.intro|(intro hg;(try simp only [push_cast]at hg)))
    all_goals first|exact gA|(exact zQ (by omega))|skip
    all_goals first|(refine hK _ ?_;clear hK K)|(simp only [push_cast];done)
    rw [ud]
    have hH7:=hH (gi (gl x.next v) i)
    rw [←List.take_of_length_le (l:=x.pick.set v (gi (gl x.next v) i)) (i:=x.pick.length) (by rw [List.length_set];exact Nat.le_refl _)]at hH7
    refine zL fun K hK=> ?_
    refine zv false zP zN yj ?_ rfl ?_
    ·kernel_rfl
    intro E hE
    all_goals refine yT 8 (by decide) fun K9 hK9=> ?_
    all_goals simp only [push_cast,↓zK,↓zJ,↓reduceIte,zA,zB,zC,zD,zE,zF,zG,zH,zI,reduceCtorEq]
    all_goals repeat'(first|(apply zO<;>(intro hg;(try simp only [push_cast]at hg)))|(refine⟨_,hH7,?_⟩;simp only [push_cast,↓zK,↓zJ,↓reduceIte,zA,zB,zC,zD,zE,zF,zG,zH,zI,reduceCtorEq])|apply And.intro|(intro hg;(try simp only [push_cast]at hg)))
    all_goals first|exact gA|(exact zQ (by omega))|skip
    all_goals first|(refine hK9 _ _ ?_;clear hK9 K9)|(simp only [push_cast];done)
    all_goals simp only [push_cast,↓zK,↓zJ,↓reduceIte,zA,zB,zC,zD,zE,zF,zG,zH,zI,reduceCtorEq]
    all_goals repeat'(first|(apply zO<;>(intro hg;(try simp only [push_cast]at hg)))|(refine⟨_,hH7,?_⟩;simp only [push_cast,↓zK,↓zJ,↓reduceIte,zA,zB,zC,zD,zE,zF,zG,zH,zI,reduceCtorEq])|apply And.intro|(intro hg;(try simp only [push_cast]at hg)))
    all_goals first|exact gA|(refine hE _ _ ?_ ?_;kernel_rfl)|(exact zQ (by omega))|skip
    all_goals clear hE E
    all_goals first|(refine hK _ ?_;clear hK K)|(simp only [push_cast];done)
    refine zU rfl (fun hc=> ?_) (fun hc=> ?_)<;>(try simp only [push_cast]at hc)
    ·
     refine zL fun K hK=> ?_
     refine zM zP zN [] rfl ?_
     all_goals simp only [push_cast,↓zK,↓zJ,↓reduceIte,zA,zB,zC,zD,zE,zF,zG,zH,zI,reduceCtorEq]
     all_goals repeat'(first|(apply zO<;>(intro hg;(try simp only [push_cast]at hg)))|apply And.intro|(intro hg;(try simp only [push_cast]at hg)))
     all_goals first|exact gA|(exact zQ (by omega))|skip
     all_goals first|(refine hK _ ?_;clear hK K)|(simp only [push_cast];done)
     refine zX ?_
     (try simp only [zR,zS])
     refine⟨Or.inl rfl,?_⟩
     simp only [WC,XJ,ya,xf,push_cast,↓zK,↓zJ,↓reduceIte,zA,zB,zC,zD,zE,zF,zG,zH,zI,reduceCtorEq]
     have hre:=zFE (by omega) hrr (zHO (by with_reducible assumption) (by rw [←hbe];with_reducible assumption))
     subst hre
     all_goals first|rfl|exact⟨rfl,rfl⟩|skip
    ·
     refine zV ?_
     (try simp only [zR,zS,reduceIte,zF]);refine hK3 _ ?_
     refine zM zP zN [] rfl ?_
     all_goals simp only [push_cast,↓zK,↓zJ,↓reduceIte,zA,zB,zC,zD,zE,zF,zG,zH,zI,reduceCtorEq]
     all_goals repeat'(first|(apply zO<;>(intro hg;(try simp only [push_cast]at hg)))|apply And.intro|(intro hg;(try simp only [push_cast]at hg)))
     all_goals first|exact gA|(exact zQ (by omega))|skip
     refine hL0 _ ⟨i+1,⟨by omega,Ue (by omega) hrr (zHO (by with_reducible assumption) (by rw [←hbe];with_reducible assumption))⟩,by omega,?_⟩
     rw [zFD (by with_reducible assumption)]
     refine zW rfl ?_ ?_ ?_<;>simp only [zc,zb,push_cast,↓zK,↓zJ,↓reduceIte,zA,zB,zC,zD,zE,zF,zG,zH,zI,reduceCtorEq]
  ·
   refine ze ?_
   have hii:i=(gl x.next v).length:=by omega
   subst hii
   have hre:=zFi hrr
   subst hre
   (try simp only [zR,zS,reduceIte,zF]);refine hK1 _ ?_
   refine zL fun K hK=> ?_
   refine zM zP zN [] rfl ?_
   all_goals simp only [push_cast,↓zK,↓zJ,↓reduceIte,zA,zB,zC,zD,zE,zF,zG,zH,zI,reduceCtorEq]
   all_goals repeat'(first|(apply zO<;>(intro hg;(try simp only [push_cast]at hg)))|apply And.intro|(intro hg;(try simp only [push_cast]at hg)))
   all_goals first|exact gA|(exact zQ (by omega))|skip
   all_goals first|(refine hK _ ?_;clear hK K)|(simp only [push_cast];done)
   refine zX ?_
   (try simp only [zR,zS])
   refine⟨Or.inl rfl,?_⟩
   simp only [WC,XJ,ya,xf,push_cast,↓zK,↓zJ,↓reduceIte,zA,zB,zC,zD,zE,zF,zG,zH,zI,reduceCtorEq]
   all_goals first|rfl|exact⟨rfl,rfl⟩|skip
theorem zHx (g:Pa){v:Nat}(hv:v<g.a.owner.length):gi (yn g) v=0∨gi (yn g) v=1:=by rw [zB8 hv];exact zHg _
theorem zHR (g:Pa):qY g 0=noP g.a.owner.length:=rfl
set_option maxRecDepth 20000 in
set_option maxHeartbeats 8000000 in
theorem zBQ (g:Pa)(hg:g.Ln 1048576)(hok:yD g=true):Fn Try.prog tyT 99 [.agg (dPa g), .c (DI (noP g.prio.length))] [.agg [DI (yn g),DI (Kf g)], .c (.bool true)]:=by
 obtain⟨hao,hpl,hpr⟩:=yS hok
 have hal:=zw hao
 have hKW:=zBh g hg hok
 have hWn:=zAf g hok
 have hOf:=zCt g hok
 have hwl:=YF g
 have hwr:=fun v hv=>zHx g (v:=v) hv
 have hRg:=fun w=>zBs (yn g) (by omega) w
 obtain⟨F,hF⟩: ∃F:Nat→Int→Int×List Int,∀v w,F v w=wW (l7G g (qY g v)) (Vs (yn g) w) v (gl g.a.next v).length 0:=⟨_,fun _ _=>rfl⟩
 have hPk:=fun(v:Nat) (hv:v<g.a.owner.length) (w:Int) (_hw:gi (yn g) v=w)=>zE2 (l7G g (qY g v)) (Vs (yn g) w) (by rw [KQ,YF];exact Uv hok (YW g v)) v (by rw [KQ,YF];exact hv) (F v w) (hF v w).symm
 have hno:=fun v hv=>zGZ (g:=g) (v:=v) hv
 have hys:=fun v h1 h2 w hw=>zEK (g:=g) (v:=v) h1 h2 (w:=w) hw (hF v w).symm
 have hkl:=YW g
 have hk0:=zHR g
 have hng:=Wi g.a.owner.length
 have hns:=zH6 g.a.owner.length
 have hnl:=qw g.a.owner.length
 have hpv:=Zn g.a g.a.owner.length g.a.owner.length 0
 have hrl:=fun w=>KQ (yn g) w
 unfold Kf
 unfold dL7 l7G at hPk
 dsimp only at hPk
 rw [←List.take_of_length_le (l:=xy g.a g.a.owner.length g.a.owner.length 0) (i:=g.a.owner.length) (by omega)]at hPk
 have hFl: ∀v w,(F v w).2.length=g.a.owner.length:=fun v w=>by rw [hF,WU];exact YW g v
 clear hF
 unfold dPa at hKW hWn hOf⊢
 rw [hpl]at hKW⊢
 generalize yn g=won at*
 refine Qb (fn:=Try.f99) (rs:= [.cell 4 74, .tmp 5]) zP zN Try.func99 (by kernel_rfl) rfl rfl (by rw [Try.ntmps99];exact Nat.le_of_ble_eq_true rfl) rfl (by simp only [szA,List.mem_cons,List.not_mem_nil,or_false,forall_eq_or_imp,forall_eq,VT.cells,szL];try decide) ?_
 rw [Try.ntmps99]
 simp only [push_cast,↓zK,↓zJ,↓reduceIte,zA,zB,zC,zD,zE,zF,zG,zH,zI,reduceCtorEq]
 refine zL fun K hK=> ?_
 refine zM zP zN [] rfl ?_
 simp only [push_cast,↓zK,↓zJ,↓reduceIte,zA,zB,zC,zD,zE,zF,zG,zH,zI,reduceCtorEq]
 repeat' apply And.intro
 all_goals try exact gB
 all_goals first|(refine hK _ ?_;clear hK K)|(simp only [push_cast];done)
 refine zL fun K1 hK1=> ?_
 refine zL fun K hK=> ?_
 refine zM zP zN [] rfl ?_
 all_goals refine zm 3 fun K9 hK9=> ?_
 all_goals simp only [push_cast,↓zK,↓zJ,↓reduceIte,zA,zB,zC,zD,zE,zF,zG,zH,zI,reduceCtorEq]
 all_goals repeat'(first|(apply zO<;>(intro hg;(try simp only [push_cast]at hg)))|(refine⟨_,hKW,?_⟩;simp only [push_cast,↓zK,↓zJ,↓reduceIte,zA,zB,zC,zD,zE,zF,zG,zH,zI,reduceCtorEq])|apply And.intro|(intro hg;(try simp only [push_cast]at hg)))
 all_goals try exact gA
 all_goals first|(refine hK9 _ ?_;clear hK9 K9)|(simp only [push_cast];done)
 all_goals simp only [push_cast,↓zK,↓zJ,↓reduceIte,zA,zB,zC,zD,zE,zF,zG,zH,zI,reduceCtorEq]
 all_goals repeat'(first|(apply zO<;>(intro hg;(try simp only [push_cast]at hg)))|(refine⟨_,hKW,?_⟩;simp only [push_cast,↓zK,↓zJ,↓reduceIte,zA,zB,zC,zD,zE,zF,zG,zH,zI,reduceCtorEq])|apply And.intro|(intro hg;(try simp only [push_cast]at hg)))
 all_goals try exact gA
 all_goals first|(refine hK _ ?_;clear hK K)|(simp only [push_cast];done)
 refine zU rfl (fun hc=> ?_) (fun hc=> ?_)
 skip
 ·exfalso;first|(cases hc;done)|(simp only [push_cast]at hc;done)|(simp only [push_cast]at hc;omega)|omega
 refine zV ?_
 (try simp only [zR,zS,reduceIte,zF]);refine hK1 _ ?_
 refine zL fun K hK=> ?_
 refine zM zP zN [] rfl ?_
 all_goals refine zm 2 fun K9 hK9=> ?_
 all_goals simp only [push_cast,↓zK,↓zJ,↓reduceIte,zA,zB,zC,zD,zE,zF,zG,zH,zI,reduceCtorEq]
 all_goals repeat'(first|(apply zO<;>(intro hg;(try simp only [push_cast]at hg)))|(refine⟨_,hWn,?_⟩;simp only [push_cast,↓zK,↓zJ,↓reduceIte,zA,zB,zC,zD,zE,zF,zG,zH,zI,reduceCtorEq])|apply And.intro|(intro hg;(try simp only [push_cast]at hg)))
 all_goals try exact gA
 all_goals first|(refine hK9 _ ?_;clear hK9 K9)|(simp only [push_cast];done)
 all_goals simp only [push_cast,↓zK,↓zJ,↓reduceIte,zA,zB,zC,zD,zE,zF,zG,zH,zI,reduceCtorEq]
 all_goals repeat'(first|(apply zO<;>(intro hg;(try simp only [push_cast]at hg)))|(refine⟨_,hWn,?_⟩;simp only [push_cast,↓zK,↓zJ,↓reduceIte,zA,zB,zC,zD,zE,zF,zG,zH,zI,reduceCtorEq])|apply And.intro|(intro hg;(try simp only [push_cast]at hg)))
 all_goals try exact gA
 all_goals first|(refine hK _ ?_;clear hK K)|(simp only [push_cast];done)
 refine zL fun K hK=> ?_
 refine Uh false (jn Try.prog tyT) 21 (fun _ _ _ h=>uk h) zP zN ?_ rfl ?_
 ·kernel_rfl
 all_goals simp only [push_cast,↓zK,↓zJ,↓reduceIte,zA,zB,zC,zD,zE,zF,zG,zH,zI,reduceCtorEq]
 all_goals repeat'(first|(apply zO<;>(intro hg;(try simp only [push_cast]at hg)))|(refine⟨_,_,hOf,?_⟩;simp only [push_cast,↓zK,↓zJ,↓reduceIte,zA,zB,zC,zD,zE,zF,zG,zH,zI,reduceCtorEq])|apply And.intro|(intro hg;(try simp only [push_cast]at hg)))
 all_goals try exact gA
 all_goals first|(refine hK _ ?_;clear hK K)|(simp only [push_cast];done)
 refine zL fun K2 hK2=> ?_
 refine XK [112,113,114] [.sl 2, .sl 2, .sl 27, .sl 27, .sl 2] 7 ?_
 simp only [push_cast,↓zK,↓zJ,↓reduceIte,zA,zB,zC,zD,zE,zF,zG,zH,zI,reduceCtorEq]
 refine zL fun K hK=> ?_
 refine zM zP zN [] rfl ?_
 simp only [push_cast,↓zK,↓zJ,↓reduceIte,zA,zB,zC,zD,zE,zF,zG,zH,zI,reduceCtorEq]
 repeat' apply And.intro
 all_goals try exact gB
 all_goals first|(refine hK _ ?_;clear hK K)|(simp only [push_cast];done)
 refine zT ?_
 refine zd [5,7,8,22,23,24,25,26,27,28,29,30,31,32,33,34,35,36,37,38,39,40,41,42,43,44,45,46,47,48,49,50,51,52,53,54] [115,116] (fun(v:Nat)=> [(8, .int .i64 v),(7, .bp 7 0)]) (fun v=> [(7,[.sl 0 [] 0 g.a.owner.length 2, .sl 2 [] 0 g.prio.length 2, .sl 1 [] 0 g.a.next.length 27, .sl 115 [] 0 g.a.owner.length 27, .sl 116 [] 0 g.a.owner.length 2])]) (fun v=> [(115,⟨.ex,27,dII (xy g.a g.a.owner.length g.a.owner.length 0),none⟩),(116,⟨.ex,2,dI (noP g.a.owner.length),none⟩)]) (fun v=>v≤g.a.owner.length) (fun v=>g.a.owner.length - v) 0 ?_ (by omega) ?_
 ·
  rw [hpv]
  rw [hnl]
  refine zW rfl ?_ ?_ ?_<;>simp only [zc,zb,push_cast,↓zK,↓zJ,↓reduceIte,zA,zB,zC,zD,zE,zF,zG,zH,zI,reduceCtorEq]
 ·rintro v hv KL0 hL0
  simp only [push_cast,↓zK,↓zJ,↓reduceIte,zA,zB,zC,zD,zE,zF,zG,zH,zI,reduceCtorEq]
  refine zL fun K3 hK3=> ?_
  refine zL fun K hK=> ?_
  refine zM zP zN [] rfl ?_
  simp only [push_cast,↓zK,↓zJ,↓reduceIte,zA,zB,zC,zD,zE,zF,zG,zH,zI,reduceCtorEq]
  repeat' apply And.intro
  all_goals try exact gB
  all_goals first|(refine hK _ ?_;clear hK K)|(simp only [push_cast];done)
  refine zU rfl (fun hc=> ?_) (fun hc=> ?_)<;>(try simp only [push_cast]at hc)
  ·
   refine zV ?_
   (try simp only [zR,zS,reduceIte,zF]);refine hK3 _ ?_
   refine zL fun K4 hK4=> ?_
   refine zT ?_
   refine zL fun K5 hK5=> ?_
   have hngv:=hng v (by omega)
   refine zL fun K hK=> ?_
   refine zv false zP zN yj ?_ rfl ?_
   ·kernel_rfl
   intro E hE
   all_goals simp only [push_cast,↓zK,↓zJ,↓reduceIte,zA,zB,zC,zD,zE,zF,zG,zH,zI,reduceCtorEq]
   all_goals repeat'(first|(apply zO<;>(intro hg;(try simp only [push_cast]at hg)))|apply And.intro|(intro hg;(try simp only [push_cast]at hg)))
   all_goals first|exact gA|(refine hE _ _ ?_ ?_;kernel_rfl)|skip
   all_goals clear hE E
   all_goals first|(refine hK _ ?_;clear hK K)|(simp only [push_cast];done)
   all_goals(
     refine zU rfl (fun hc=> ?_) (fun hc=> ?_)
     skip
     ·exfalso;first|(cases hc;done)|(simp only [push_cast]at hc;done)|(simp only [push_cast]at hc;omega)|omega
     refine zV ?_
     (try simp only [zR,zS,reduceIte,zF]);refine hK5 _ ?_
     refine qD false zP zN yj ?_ rfl ?_
     ·kernel_rfl
     intro C hC
     simp only [push_cast,↓zK,↓zJ,↓reduceIte,zA,zB,zC,zD,zE,zF,zG,zH,zI,reduceCtorEq]
     repeat' apply And.intro
     all_goals first|omega|with_reducible assumption|(refine hC _ ?_;kernel_rfl)|(simp only [List.length_set,List.length_append,List.length_replicate,List.length_cons,List.length_nil];omega)|skip
     clear hC C
     (try simp only [zR,zS,reduceIte,zF]);refine hK4 _ ?_
     refine zM zP zN [] rfl ?_
     simp only [push_cast,↓zK,↓zJ,↓reduceIte,zA,zB,zC,zD,zE,zF,zG,zH,zI,reduceCtorEq]
     repeat' apply And.intro
     all_goals try exact gB
     refine hL0 _ ⟨v+1,by omega,by omega,?_⟩
     refine zW rfl ?_ ?_ ?_<;>simp only [zc,zb,push_cast,↓zK,↓zJ,↓reduceIte,zA,zB,zC,zD,zE,zF,zG,zH,zI,reduceCtorEq]
     all_goals(rw [hngv,hns v (by omega)]))
  ·
   refine ze ?_
   (try simp only [zR,zS,reduceIte,zF]);refine hK2 _ ?_
   refine zL fun K hK=> ?_
   refine zM zP zN [] rfl ?_
   all_goals refine zm 2 fun K9 hK9=> ?_
   all_goals simp only [push_cast,↓zK,↓zJ,↓reduceIte,zA,zB,zC,zD,zE,zF,zG,zH,zI,reduceCtorEq]
   all_goals repeat'(first|(apply zO<;>(intro hg;(try simp only [push_cast]at hg)))|(refine⟨_,hRg 0,?_⟩;simp only [push_cast,↓zK,↓zJ,↓reduceIte,zA,zB,zC,zD,zE,zF,zG,zH,zI,reduceCtorEq])|apply And.intro|(intro hg;(try simp only [push_cast]at hg)))
   all_goals try exact gA
   all_goals first|(refine hK9 _ ?_;clear hK9 K9)|(simp only [push_cast];done)
   all_goals simp only [push_cast,↓zK,↓zJ,↓reduceIte,zA,zB,zC,zD,zE,zF,zG,zH,zI,reduceCtorEq]
   all_goals repeat'(first|(apply zO<;>(intro hg;(try simp only [push_cast]at hg)))|(refine⟨_,hRg 0,?_⟩;simp only [push_cast,↓zK,↓zJ,↓reduceIte,zA,zB,zC,zD,zE,zF,zG,zH,zI,reduceCtorEq])|apply And.intro|(intro hg;(try simp only [push_cast]at hg)))
   all_goals try exact gA
   all_goals first|(refine hK _ ?_;clear hK K)|(simp only [push_cast];done)
   refine zL fun K hK=> ?_
   refine zM zP zN [] rfl ?_
   all_goals refine zm 2 fun K9 hK9=> ?_
   all_goals simp only [push_cast,↓zK,↓zJ,↓reduceIte,zA,zB,zC,zD,zE,zF,zG,zH,zI,reduceCtorEq]
   all_goals repeat'(first|(apply zO<;>(intro hg;(try simp only [push_cast]at hg)))|(refine⟨_,hRg 1,?_⟩;simp only [push_cast,↓zK,↓zJ,↓reduceIte,zA,zB,zC,zD,zE,zF,zG,zH,zI,reduceCtorEq])|apply And.intro|(intro hg;(try simp only [push_cast]at hg)))
   all_goals try exact gA
   all_goals first|(refine hK9 _ ?_;clear hK9 K9)|(simp only [push_cast];done)
   all_goals simp only [push_cast,↓zK,↓zJ,↓reduceIte,zA,zB,zC,zD,zE,zF,zG,zH,zI,reduceCtorEq]
   all_goals repeat'(first|(apply zO<;>(intro hg;(try simp only [push_cast]at hg)))|(refine⟨_,hRg 1,?_⟩;simp only [push_cast,↓zK,↓zJ,↓reduceIte,zA,zB,zC,zD,zE,zF,zG,zH,zI,reduceCtorEq])|apply And.intro|(intro hg;(try simp only [push_cast]at hg)))
   all_goals try exact gA
   all_goals first|(refine hK _ ?_;clear hK K)|(simp only [push_cast];done)
   refine zL fun K6 hK6=> ?_
   refine zL fun K hK=> ?_
   refine zM zP zN [] rfl ?_
   simp only [push_cast,↓zK,↓zJ,↓reduceIte,zA,zB,zC,zD,zE,zF,zG,zH,zI,reduceCtorEq]
   repeat' apply And.intro
   all_goals try exact gB
   all_goals first|(refine hK _ ?_;clear hK K)|(simp only [push_cast];done)
   refine zT ?_
   refine zd [7,11,12,33,59,60,61,62,63,64,65,66,67,68,69,70,71,72,73,74,75,76,77,78,79,80,81,82,83,84,85,86,87,88,89,90,91,92,93,94,95,96,97,98] [115,116] (fun(v:Nat)=> [(11, .int .i64 v),(7, .bp 7 0)]) (fun v=> [(7,[.sl 0 [] 0 g.a.owner.length 2, .sl 2 [] 0 g.prio.length 2, .sl 1 [] 0 g.a.next.length 27, .sl 115 [] 0 g.a.owner.length 27, .sl 116 [] 0 g.a.owner.length 2])]) (fun v=> [(115,⟨.ex,27,dII (xy g.a g.a.owner.length g.a.owner.length 0),none⟩),(116,⟨.ex,2,dI (qY g v),none⟩)]) (fun v=>v≤g.a.owner.length) (fun v=>g.a.owner.length - v) 0 ?_ (by omega) ?_
   ·
    rw [hk0]
    refine zW rfl ?_ ?_ ?_<;>simp only [zc,zb,push_cast,↓zK,↓zJ,↓reduceIte,zA,zB,zC,zD,zE,zF,zG,zH,zI,reduceCtorEq]
   ·rintro v hv KL1 hL1
    have hkv:=hkl v
    simp only [push_cast,↓zK,↓zJ,↓reduceIte,zA,zB,zC,zD,zE,zF,zG,zH,zI,reduceCtorEq]
    refine zL fun K7 hK7=> ?_
    refine zL fun K hK=> ?_
    refine zM zP zN [] rfl ?_
    simp only [push_cast,↓zK,↓zJ,↓reduceIte,zA,zB,zC,zD,zE,zF,zG,zH,zI,reduceCtorEq]
    repeat' apply And.intro
    all_goals try exact gB
    all_goals first|(refine hK _ ?_;clear hK K)|(simp only [push_cast];done)
    refine zU rfl (fun hc=> ?_) (fun hc=> ?_)<;>(try simp only [push_cast]at hc)
    ·
     refine zV ?_
     (try simp only [zR,zS,reduceIte,zF]);refine hK7 _ ?_
     refine zL fun K8 hK8=> ?_
     refine zT ?_
     refine zL fun K9 hK9=> ?_
     refine zL fun K hK=> ?_
     refine zv false zP zN yj ?_ rfl ?_
     ·kernel_rfl
     intro E hE
     all_goals simp only [push_cast,↓zK,↓zJ,↓reduceIte,zA,zB,zC,zD,zE,zF,zG,zH,zI,reduceCtorEq]
     all_goals repeat'(first|(apply zO<;>(intro hg;(try simp only [push_cast]at hg)))|apply And.intro|(intro hg;(try simp only [push_cast]at hg)))
     all_goals first|exact gA|(refine hE _ _ ?_ ?_;kernel_rfl)|skip
     all_goals clear hE E
     all_goals first|(refine hK _ ?_;clear hK K)|(simp only [push_cast];done)
     all_goals refine zU rfl (fun hc=> ?_) (fun hc=> ?_)
     all_goals(first|(cases hc;done)|skip)
     all_goals(try simp only [push_cast]at hc)
     all_goals first
      |(
        refine zV ?_
        (try simp only [zR,zS,reduceIte,zF]);refine hK9 _ ?_
        refine zL fun K hK=> ?_
        refine zM zP zN [192] rfl ?_
        simp only [push_cast,↓zK,↓zJ,↓reduceIte,zA,zB,zC,zD,zE,zF,zG,zH,zI,reduceCtorEq]
        repeat' apply And.intro
        all_goals try exact gB
        all_goals first|(refine hK _ ?_;clear hK K)|(simp only [push_cast];done)
        refine zL fun K10 hK10=> ?_
        refine zL fun K hK=> ?_
        refine zM zP zN [] rfl ?_
        simp only [push_cast,↓zK,↓zJ,↓reduceIte,zA,zB,zC,zD,zE,zF,zG,zH,zI,reduceCtorEq]
        repeat' apply And.intro
        all_goals try exact gB
        all_goals first|(refine hK _ ?_;clear hK K)|(simp only [push_cast];done)
        refine zU rfl (fun hc=> ?_) (fun hc=> ?_)<;>(try simp only [push_cast]at hc)
        ·
         refine zM zP zN [192] rfl ?_
         simp only [push_cast,↓zK,↓zJ,↓reduceIte,zA,zB,zC,zD,zE,zF,zG,zH,zI,reduceCtorEq]
         repeat' apply And.intro
         all_goals try exact gB
         (try simp only [zR,zS,reduceIte,zF]);refine hK10 _ ?_
         have hF1:=hFl v 1
         have hF0:=hFl v 0
         have hPv:=hPk v (by omega)
         rw [←List.take_of_length_le (l:=qY g v) (i:=g.a.owner.length) (by omega)]at hPv
         refine XM true (Kq Try.prog tyT 4) 97 (fun _ _ _ h=>ut h) zP zN yj ?_ rfl ?_
         ·kernel_rfl
         intro E hE
         all_goals refine XQ 7 (by decide) fun K9 hK9=> ?_
         all_goals simp only [push_cast,↓zK,↓zJ,↓reduceIte,zA,zB,zC,zD,zE,zF,zG,zH,zI,reduceCtorEq]
         all_goals repeat'(first|(apply zO<;>(intro hg;(try simp only [push_cast]at hg)))|(refine⟨_,_,_,hPv 1 (by omega),?_⟩;(try simp only [push_cast,↓zK,↓zJ,↓reduceIte,zA,zB,zC,zD,zE,zF,zG,zH,zI,reduceCtorEq]))|(refine⟨_,_,_,hPv 0 (by have :=hwr v (by omega);omega),?_⟩;(try simp only [push_cast,↓zK,↓zJ,↓reduceIte,zA,zB,zC,zD,zE,zF,zG,zH,zI,reduceCtorEq]))|apply And.intro|(intro hg;(try simp only [push_cast]at hg)))
         all_goals try exact gA
         all_goals first|(refine hK9 _ _ ?_;clear hK9 K9)|(simp only [push_cast];done)
         all_goals simp only [push_cast,↓zK,↓zJ,↓reduceIte,zA,zB,zC,zD,zE,zF,zG,zH,zI,reduceCtorEq]
         all_goals repeat'(first|(apply zO<;>(intro hg;(try simp only [push_cast]at hg)))|(refine⟨_,_,_,hPv 1 (by omega),?_⟩;(try simp only [push_cast,↓zK,↓zJ,↓reduceIte,zA,zB,zC,zD,zE,zF,zG,zH,zI,reduceCtorEq]))|(refine⟨_,_,_,hPv 0 (by have :=hwr v (by omega);omega),?_⟩;(try simp only [push_cast,↓zK,↓zJ,↓reduceIte,zA,zB,zC,zD,zE,zF,zG,zH,zI,reduceCtorEq]))|apply And.intro|(intro hg;(try simp only [push_cast]at hg)))
         all_goals first|exact gA|(refine hE _ _ ?_ ?_;kernel_rfl)|skip
         all_goals clear hE E
         (try simp only [zR,zS,reduceIte,zF]);refine hK8 _ ?_
         refine zM zP zN [] rfl ?_
         simp only [push_cast,↓zK,↓zJ,↓reduceIte,zA,zB,zC,zD,zE,zF,zG,zH,zI,reduceCtorEq]
         repeat' apply And.intro
         all_goals try exact gB
         refine hL1 _ ⟨v+1,by omega,by omega,?_⟩
         rw [hys v (by omega) (by omega) 1 (by omega)]
         refine zW rfl ?_ ?_ ?_<;>simp only [zc,zb,push_cast,↓zK,↓zJ,↓reduceIte,zA,zB,zC,zD,zE,zF,zG,zH,zI,reduceCtorEq]
        ·
         refine zV ?_
         (try simp only [zR,zS,reduceIte,zF]);refine hK10 _ ?_
         have hF1:=hFl v 1
         have hF0:=hFl v 0
         have hPv:=hPk v (by omega)
         rw [←List.take_of_length_le (l:=qY g v) (i:=g.a.owner.length) (by omega)]at hPv
         refine XM true (Kq Try.prog tyT 4) 97 (fun _ _ _ h=>ut h) zP zN yj ?_ rfl ?_
         ·kernel_rfl
         intro E hE
         all_goals refine XQ 7 (by decide) fun K9 hK9=> ?_
         all_goals simp only [push_cast,↓zK,↓zJ,↓reduceIte,zA,zB,zC,zD,zE,zF,zG,zH,zI,reduceCtorEq]
         all_goals repeat'(first|(apply zO<;>(intro hg;(try simp only [push_cast]at hg)))|(refine⟨_,_,_,hPv 1 (by omega),?_⟩;(try simp only [push_cast,↓zK,↓zJ,↓reduceIte,zA,zB,zC,zD,zE,zF,zG,zH,zI,reduceCtorEq]))|(refine⟨_,_,_,hPv 0 (by have :=hwr v (by omega);omega),?_⟩;(try simp only [push_cast,↓zK,↓zJ,↓reduceIte,zA,zB,zC,zD,zE,zF,zG,zH,zI,reduceCtorEq]))|apply And.intro|(intro hg;(try simp only [push_cast]at hg)))
         all_goals try exact gA
         all_goals first|(refine hK9 _ _ ?_;clear hK9 K9)|(simp only [push_cast];done)
         all_goals simp only [push_cast,↓zK,↓zJ,↓reduceIte,zA,zB,zC,zD,zE,zF,zG,zH,zI,reduceCtorEq]
         all_goals repeat'(first|(apply zO<;>(intro hg;(try simp only [push_cast]at hg)))|(refine⟨_,_,_,hPv 1 (by omega),?_⟩;(try simp only [push_cast,↓zK,↓zJ,↓reduceIte,zA,zB,zC,zD,zE,zF,zG,zH,zI,reduceCtorEq]))|(refine⟨_,_,_,hPv 0 (by have :=hwr v (by omega);omega),?_⟩;(try simp only [push_cast,↓zK,↓zJ,↓reduceIte,zA,zB,zC,zD,zE,zF,zG,zH,zI,reduceCtorEq]))|apply And.intro|(intro hg;(try simp only [push_cast]at hg)))
         all_goals first|exact gA|(refine hE _ _ ?_ ?_;kernel_rfl)|skip
         all_goals clear hE E
         (try simp only [zR,zS,reduceIte,zF]);refine hK8 _ ?_
         refine zM zP zN [] rfl ?_
         simp only [push_cast,↓zK,↓zJ,↓reduceIte,zA,zB,zC,zD,zE,zF,zG,zH,zI,reduceCtorEq]
         repeat' apply And.intro
         all_goals try exact gB
         refine hL1 _ ⟨v+1,by omega,by omega,?_⟩
         rw [hys v (by omega) (by omega) 0 (by have :=hwr v (by omega);omega)]
         refine zW rfl ?_ ?_ ?_<;>simp only [zc,zb,push_cast,↓zK,↓zJ,↓reduceIte,zA,zB,zC,zD,zE,zF,zG,zH,zI,reduceCtorEq]
        done)
      |(
        refine ze ?_
        (try simp only [zR,zS,reduceIte,zF]);refine hK8 _ ?_
        refine zM zP zN [] rfl ?_
        simp only [push_cast,↓zK,↓zJ,↓reduceIte,zA,zB,zC,zD,zE,zF,zG,zH,zI,reduceCtorEq]
        repeat' apply And.intro
        all_goals try exact gB
        refine hL1 _ ⟨v+1,by omega,by omega,?_⟩
        rw [hno v (by first|exact Or.inl (by omega)|exact Or.inr (by omega))]
        refine zW rfl ?_ ?_ ?_<;>simp only [zc,zb,push_cast,↓zK,↓zJ,↓reduceIte,zA,zB,zC,zD,zE,zF,zG,zH,zI,reduceCtorEq]
        done)
    ·
     refine ze ?_
     have hvv:v=g.a.owner.length:=by omega
     subst hvv
     (try simp only [zR,zS,reduceIte,zF]);refine hK6 _ ?_
     refine zL fun K hK=> ?_
     refine zM zP zN [] rfl ?_
     simp only [push_cast,↓zK,↓zJ,↓reduceIte,zA,zB,zC,zD,zE,zF,zG,zH,zI,reduceCtorEq]
     repeat' apply And.intro
     all_goals try exact gB
     all_goals first|(refine hK _ ?_;clear hK K)|(simp only [push_cast];done)
     refine zX ?_
     (try simp only [zR,zS])
     refine⟨Or.inl rfl,?_⟩
     simp only [zg,ya,xf,push_cast,↓zK,↓zJ,↓reduceIte,zA,zB,zC,zD,zE,zF,zG,zH,zI,reduceCtorEq]
     all_goals first|rfl|omega|skip
set_option maxRecDepth 20000 in
set_option maxHeartbeats 4000000 in
theorem zFl (g:Pa)(hg:g.Ln 1048576)(hok:yD g=true):Fn Try.prog tyT 47 [.agg (dPa g)] [.agg [DI (yn g),DI (Kf g)]]:=by
 have hp:=hg.prio
 unfold LnI at hp
 have hP:=XS g hg
 rw [hok]at hP
 have hN:=zEX g.prio.length hp
 have hF:=zBQ g hg hok
 generalize yn g=won at*
 generalize Kf g=pl at*
 unfold dPa at hP hF⊢
 refine Qb (fn:=Try.f47) (rs:= [.cell 2 74]) zP zN Try.func47 (by kernel_rfl) rfl rfl (by rw [Try.ntmps47];exact Nat.le_of_ble_eq_true rfl) rfl (by simp only [szA,List.mem_cons,List.not_mem_nil,or_false,forall_eq_or_imp,forall_eq,VT.cells,szL];try decide) ?_
 rw [Try.ntmps47]
 simp only [push_cast,↓zK,↓zJ,↓reduceIte,zA,zB,zC,zD,zE,zF,zG,zH,zI,reduceCtorEq]
 refine zL fun K hK=> ?_
 refine zM zP zN [] rfl ?_
 simp only [push_cast,↓zK,↓zJ,↓reduceIte,zA,zB,zC,zD,zE,zF,zG,zH,zI,reduceCtorEq]
 repeat' apply And.intro
 all_goals try exact gB
 all_goals first|(refine hK _ ?_;clear hK K)|(simp only [push_cast];done)
 refine zL fun K1 hK1=> ?_
 refine zL fun K hK=> ?_
 refine zM zP zN [] rfl ?_
 all_goals refine zm 2 fun K9 hK9=> ?_
 all_goals simp only [push_cast,↓zK,↓zJ,↓reduceIte,zA,zB,zC,zD,zE,zF,zG,zH,zI,reduceCtorEq]
 all_goals repeat'(first|(apply zO<;>(intro hg;(try simp only [push_cast]at hg)))|(refine⟨_,hP,?_⟩;simp only [push_cast,↓zK,↓zJ,↓reduceIte,zA,zB,zC,zD,zE,zF,zG,zH,zI,reduceCtorEq])|apply And.intro|(intro hg;(try simp only [push_cast]at hg)))
 all_goals try exact gA
 all_goals first|(refine hK9 _ ?_;clear hK9 K9)|(simp only [push_cast];done)
 all_goals simp only [push_cast,↓zK,↓zJ,↓reduceIte,zA,zB,zC,zD,zE,zF,zG,zH,zI,reduceCtorEq]
 all_goals repeat'(first|(apply zO<;>(intro hg;(try simp only [push_cast]at hg)))|(refine⟨_,hP,?_⟩;simp only [push_cast,↓zK,↓zJ,↓reduceIte,zA,zB,zC,zD,zE,zF,zG,zH,zI,reduceCtorEq])|apply And.intro|(intro hg;(try simp only [push_cast]at hg)))
 all_goals try exact gA
 all_goals first|(refine hK _ ?_;clear hK K)|(simp only [push_cast];done)
 refine zU rfl (fun hc=> ?_) (fun hc=> ?_)
 skip
 ·exfalso;first|(cases hc;done)|(simp only [push_cast]at hc;done)|(simp only [push_cast]at hc;omega)|omega
 refine zV ?_
 (try simp only [zR,zS,reduceIte,zF]);refine hK1 _ ?_
 refine zL fun K hK=> ?_
 refine zv false zP zN yj ?_ rfl ?_
 ·kernel_rfl
 intro E hE
 all_goals refine yT 5 (by decide) fun K9 hK9=> ?_
 all_goals simp only [push_cast,↓zK,↓zJ,↓reduceIte,zA,zB,zC,zD,zE,zF,zG,zH,zI,reduceCtorEq]
 all_goals repeat'(first|(apply zO<;>(intro hg;(try simp only [push_cast]at hg)))|(refine⟨_,hN,?_⟩;simp only [push_cast,↓zK,↓zJ,↓reduceIte,zA,zB,zC,zD,zE,zF,zG,zH,zI,reduceCtorEq])|apply And.intro|(intro hg;(try simp only [push_cast]at hg)))
 all_goals try exact gA
 all_goals first|(refine hK9 _ _ ?_;clear hK9 K9)|(simp only [push_cast];done)
 all_goals refine yT 1 (by decide) fun K9 hK9=> ?_
 all_goals simp only [push_cast,↓zK,↓zJ,↓reduceIte,zA,zB,zC,zD,zE,zF,zG,zH,zI,reduceCtorEq]
 all_goals repeat'(first|(apply zO<;>(intro hg;(try simp only [push_cast]at hg)))|(refine⟨_,hF,?_⟩;simp only [push_cast,↓zK,↓zJ,↓reduceIte,zA,zB,zC,zD,zE,zF,zG,zH,zI,reduceCtorEq])|apply And.intro|(intro hg;(try simp only [push_cast]at hg)))
 all_goals try exact gA
 all_goals first|(refine hK9 _ _ ?_;clear hK9 K9)|(simp only [push_cast];done)
 all_goals simp only [push_cast,↓zK,↓zJ,↓reduceIte,zA,zB,zC,zD,zE,zF,zG,zH,zI,reduceCtorEq]
 all_goals repeat'(first|(apply zO<;>(intro hg;(try simp only [push_cast]at hg)))|(refine⟨_,hN,?_⟩;simp only [push_cast,↓zK,↓zJ,↓reduceIte,zA,zB,zC,zD,zE,zF,zG,zH,zI,reduceCtorEq])|(refine⟨_,hF,?_⟩;simp only [push_cast,↓zK,↓zJ,↓reduceIte,zA,zB,zC,zD,zE,zF,zG,zH,zI,reduceCtorEq])|apply And.intro|(intro hg;(try simp only [push_cast]at hg)))
 all_goals first|exact gA|(refine hE _ _ ?_ ?_;kernel_rfl)|skip
 all_goals clear hE E
 all_goals first|(refine hK _ ?_;clear hK K)|(simp only [push_cast];done)
 refine zL fun K hK=> ?_
 refine zM zP zN [] rfl ?_
 simp only [push_cast,↓zK,↓zJ,↓reduceIte,zA,zB,zC,zD,zE,zF,zG,zH,zI,reduceCtorEq]
 repeat' apply And.intro
 all_goals try exact gB
 all_goals first|(refine hK _ ?_;clear hK K)|(simp only [push_cast];done)
 refine zX ?_
 (try simp only [zR,zS])
 refine⟨Or.inl rfl,?_⟩
 simp only [zg,ya,xf,push_cast,↓zK,↓zJ,↓reduceIte,zA,zB,zC,zD,zE,zF,zG,zH,zI,reduceCtorEq]
 all_goals first|rfl|decide|skip
section
variable {P:Program} {np:Bool} {τ:Ty} {lo:Nat} {w0:Fz} {ow:Nat→Option Pl} {hd:Nat→Value} {bk:Nat→Nat} {st:St} {a:Act} {w:World}
def FnE (P:Program)(τ:Ty)(f:FuncId)(args:List VT)(res:D):Prop:=
 wL P f∧∀(lo:Nat) (w:World) (ow:Nat→Option Pl) (cargs:List Value),lo≤w.heap.size→(∀b,w.heap.size≤b→ow b=none)→qA (sz τ) lo w ow args cargs→
  Calls P f cargs.toArray w fun e w'=> ∃v,e= .returned v∧Below w.heap.size w w'∧Rp (sz τ) lo w' ow .sh res v
def YV (τ:Ty)(st:St):List AV→Option (List VT×Prop)
 | []=>some ([],True)
 | .agg us::vs=>match yi τ st us,YV τ st vs with
  |some (ds,p),some (as9,q)=>some (.agg ds::as9,p∧q)
  |_,_=>none
 |v::vs=>match cellsOf τ st v,YV τ st vs with
  |some (d,p),some (as9,q)=>some (.c d::as9,p∧q)
  |_,_=>none
def zAp (st:St)(ns:List Nat):Bool:=ns.all fun n=>(n%2==0)&&(match lk st.r (n / 2)with|some R=>R.o.isSh|none=>false)
theorem zDn {ns:List Nat}(h:zAp st ns=true){d:Nat}{R:zq}(hd:2*d∈ns)(hR:lk st.r d=some R):R.o= .sh:=by
 have :=List.all_eq_true.1 h _ hd
 rw [Bool.and_eq_true,show 2*d / 2=d by omega,hR]at this
 have h2:R.o.isSh=true:=this.2
 cases ho:R.o<;>rw [ho]at h2<;>first|rfl|cases h2
theorem Xm (h:zj τ lo w0 ow hd bk st a w){ow':Nat→Option Pl}(lo':Nat): ∀{vs:List AV} {xs:List Value} {ds:List D} {ob:Prop},(∀d R,2*d∈AV.nmL vs→lk st.r d=some R→∀b,b<w.heap.size→rel (md R.o d) (ow b)→ow' b=none)→zY τ w st.r st.b hd bk vs xs→yi τ st vs=some (ds,ob)→ob→RpS (sz τ) lo' w ow' ds xs
 | [],xs,ds,ob,_,hv,he,hob=>by
  simp only [yi,Option.some.injEq,Prod.mk.injEq]at he
  obtain⟨rfl,rfl⟩:=he
  simpa only [zY,RpS]using hv
 |v::vs,xs,ds,ob,hs,hv,he,hob=>by
  simp only [zY]at hv
  obtain⟨x,xs',rfl,h1,h2⟩:=hv
  simp only [yi]at he
  split at he
  ·rename_i d p ds' q e1 e2
   simp only [Option.some.injEq,Prod.mk.injEq]at he
   obtain⟨rfl,rfl⟩:=he
   simp only [RpS]
   exact⟨x,xs',rfl,vT h (fun d R hd=>hs d R (by simp only [AV.nmL,List.mem_append];exact .inl hd)) h1 e1 hob.1 lo',Xm h lo' (fun d R hd=>hs d R (by simp only [AV.nmL,List.mem_append];exact .inr hd)) h2 e2 hob.2⟩
  ·cases he
theorem XA (h:zj τ lo w0 ow hd bk st a w){ow':Nat→Option Pl}(lo':Nat): ∀{vs:List AV} {xs:List Value} {as9:List VT} {ob:Prop},(∀d R,2*d∈AV.nmL vs→lk st.r d=some R→∀b,b<w.heap.size→rel (md R.o d) (ow b)→ow' b=none)→zY τ w st.r st.b hd bk vs xs→YV τ st vs=some (as9,ob)→ob→qA (sz τ) lo' w ow' as9 xs
 | [],xs,as9,ob,_,hv,he,hob=>by
  simp only [YV,Option.some.injEq,Prod.mk.injEq]at he
  obtain⟨rfl,rfl⟩:=he
  simpa only [zY,qA]using hv
 |v::vs,xs,as9,ob,hs,hv,he,hob=>by
  simp only [zY]at hv
  obtain⟨x,xs',rfl,h1,h2⟩:=hv
  have hs1: ∀d R,2*d∈v.nm→lk st.r d=some R→∀b,b<w.heap.size→rel (md R.o d) (ow b)→ow' b=none:=fun d R hd=>hs d R (by simp only [AV.nmL,List.mem_append];exact .inl hd)
  have hs2: ∀d R,2*d∈AV.nmL vs→lk st.r d=some R→∀b,b<w.heap.size→rel (md R.o d) (ow b)→ow' b=none:=fun d R hd=>hs d R (by simp only [AV.nmL,List.mem_append];exact .inr hd)
  have one:(match cellsOf τ st v,YV τ st vs with
    |some (d,p),some (as9,q)=>some (VT.c d::as9,p∧q)
    |_,_=>none)=some (as9,ob)→qA (sz τ) lo' w ow' as9 (x::xs'):=fun he=>by
   split at he
   ·rename_i d p as9' q e1 e2
    simp only [Option.some.injEq,Prod.mk.injEq]at he
    obtain⟨rfl,rfl⟩:=he
    simp only [qA,Ya]
    exact⟨x,xs',rfl,vT h hs1 h1 e1 hob.1 lo',XA h lo' hs2 h2 e2 hob.2⟩
   ·cases he
  cases v with
  |agg us=>
   simp only [YV]at he
   split at he
   ·rename_i ds p as9' q e1 e2
    simp only [Option.some.injEq,Prod.mk.injEq]at he
    obtain⟨rfl,rfl⟩:=he
    simp only [AvR]at h1
    obtain⟨cs,rfl,h3⟩:=h1
    simp only [qA,Ya]
    exact⟨_,xs',rfl,⟨cs,rfl,Xm h lo' (fun d R hd=>hs1 d R (by simp only [AV.nm];exact hd)) h3 e1 hob.1⟩,XA h lo' hs2 h2 e2 hob.2⟩
   ·cases he
  |int k n=>exact one he
  |bool b=>exact one he
  |sl d p off len e=>exact one he
  |nil=>exact one he
  |ep d p i=>exact one he
  |bp t i=>exact one he
  |tup us=>exact one he
  |fn f us=>exact one he
  |dead=>exact one he
  |raw u=>exact one he
def jS (P:Program)(τ:Ty)(o:Oper)(K:St→Prop)(st:St):Prop:=
 match zz o with
 |some (f,args,ts)=>
  match YV τ st (args.toList.map (ev st))with
  |some (as9,ob)=>ob∧zAp st (AV.nmL (args.toList.map (ev st)))=true∧∃e xs,FnE P τ f as9 (.lst e xs)∧sz τ e≠0∧K ((st.addR (zZ (zo o) 0) ⟨.sh,e,xs,none⟩).put o.dst (.sl (zZ (zo o) 0) [] 0 (xs.length / sz τ e) e))
  |none=>False
 |none=>False
theorem zAG {o:Oper}{K:St→Prop}{Q:Exit→Act→World→Prop}{K':Act→World→Prop}(hd: ∀k,o.dst=some k→k<a.tmps.size)(h:Rel τ lo w0 st a w)(ha:jS P τ o K st)
  (hK: ∀st' x w',K st'→Rel τ lo w0 st' (a.put o.dst x) w'→K' (a.put o.dst x) w'):o.wp P a w K' Q:=by
 obtain⟨ow,hd',bk,hr⟩:=h
 unfold jS at ha
 split at ha
 rotate_left
 ·exact ha.elim
 rename_i f args ts hc
 split at ha
 rotate_left
 ·exact ha.elim
 rename_i as9 ob hargs
 obtain⟨hob,hsh,e,xs,⟨hcl,hcall⟩,hz,hK1⟩:=ha
 have hev:zY τ w st.r st.b hd' bk (args.toList.map (ev st)) (args.toList.map a.eval):=zn.2 ⟨by simp,fun i v x hv hx=>by
  rw [List.getElem?_map]at hv hx
  cases hk:args.toList[i]? with
  |none=>rw [hk]at hv;cases hv
  |some p=>rw [hk]at hv hx;cases hv;cases hx;exact zi hr p⟩
 have hA:=XA hr (ow':=ow) lo (fun d R hd hR b _ hrel=>by
  rw [zDn hsh hd hR]at hrel
  exact hrel) hev hargs hob
 have hC:=hcall lo w ow _ hr.low hr.new hA
 unfold Oper.wp
 rw [VA hr hc hcl]
 simp only [Oper.upon]
 refine hC.mono fun e' w' hpost=> ?_
 obtain⟨v,he,hbl,hrp⟩:=hpost
 subst he
 have hgrow:=XZ hr (w':=w') (ow':=ow) hbl.size (fun b hb=>⟨hbl.block b hb,rfl⟩) (hr.below.below hbl) (fun b p hle hp hne=>by rw [hr.new b hle]at hp;cases hp) (fun b hle=>hr.new b (by have :=hbl.size;omega))
 have hadd:=qF hgrow (zZ (zo o) 0) ⟨.sh,e,xs,none⟩ v hrp
 refine hK _ _ w' hK1 (qc hadd hd ?_)
 have :=qy (τ:=τ) (lo:=lo) (w:=w') (ow:=ow) (hd:=upd hd' (zZ (zo o) 0) v) (bk:=bk) (rr:=(st.addR (zZ (zo o) 0) ⟨.sh,e,xs,none⟩).r) (bb:=(st.addR (zZ (zo o) 0) ⟨.sh,e,xs,none⟩).b) (zo o) [.lst e xs] 0 [v] rfl ⟨hz,trivial⟩ (fun i d c h1 h2=>by
  cases i with
  |zero=>simp at h1 h2;subst h1;subst h2;exact⟨_,hrp⟩
  |succ i=>simp at h1) (fun i e' xs' c h1 h2=>by
  cases i with
  |zero=>simp at h1 h2;subst h2;exact yQ _ _ _
  |succ i=>simp at h1)
 simp only [yO,zY]at this
 obtain⟨x,ys,e1,h4,-⟩:=this
 cases e1
 exact h4
def Wp (P:Program)(τ:Ty)(al:List Nat)(t:Nat)(K:St→Prop):List Oper→St→Prop
 | [],st=>K st
 |o::os,st=>
  match o.guard with
  |none=>if o.dst=some t then jS P τ o (Wp P τ al t K os) st else aop P τ al o (Wp P τ al t K os) st
  |some (j,want)=>False
theorem Xv (hτ:yB P τ)(hpos:yd τ){al:List Nat}{t:Nat}{all:List Oper}{K:St→Prop}{Q:Exit→Act→World→Prop}(hQ: ∀st a w,K st→Rel τ lo w0 st a w→Q .normal a w):
  ∀(os:List Oper) (st:St) (a:Act) (w:World),qW a.tmps.size os=true→Rel τ lo w0 st a w→Wp P τ al t K os st→wpList P all.toArray Q os a w
 | [],st,a,w,_,h,ha=>wpList_nil (hQ st a w ha h)
 |o::os,st,a,w,hd,h,ha=>by
  have hd1: ∀k,o.dst=some k→k<a.tmps.size:=fun k hk=>by
   have :=List.all_eq_true.1 hd o (by simp)
   rw [hk]at this
   simpa using this
  have hd2:qW a.tmps.size os=true:=List.all_eq_true.2 fun x hx=>List.all_eq_true.1 hd x (by simp [hx])
  refine wpList_step fun K' hK'=> ?_
  simp only [Wp]at ha
  split at ha
  ·rename_i hg
   rw [if_pos (by simp [Region.wanted,hg])]
   split at ha
   ·exact zAG hd1 h ha fun st' x w' h2 h3=>hK' _ _ (Xv hτ hpos hQ os st' _ w' (by rw [vY];exact hd2) h3 h2)
   ·exact Xf hτ hpos hd1 h ha fun st' x w' h2 h3=>hK' _ _ (Xv hτ hpos hQ os st' _ w' (by rw [vY];exact hd2) h3 h2)
  ·exact ha.elim
end
theorem zBZ {P:Program}{τ:Ty}{Q:Exit→St→Prop}{st:St}(t:Nat)(hτ:yB P τ)(hpos:yd τ)(al:List Nat){id:Nat}{ops:List Oper}(hd:qW st.n ops=true)(h:Wp P τ al t (Q .normal) ops st):awp P τ (.region id ops.toArray false) Q st:=fun lo w0 a w hr=>by
 have hn:a.tmps.size=st.n:=by obtain⟨ow,hd,bk,h⟩:=hr;exact h.size
 refine wp_region_lit (Xv hτ hpos (fun st a w h1 h2=>⟨st,h2,h1⟩) ops st a w (by rw [hn];exact hd) hr h)
attribute [push_cast] jS Wp YV zAp
end Go.Proofs.Ytdbecmmeifdafaa
