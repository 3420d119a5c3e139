/- The reference solver: who wins, the plan; walks -/
import Derived.Test.YtcleaokoimhedaaGreatB18zmo
import Derived.Test.YtcleaokoimhedaaGreatGDzmo
import Derived.Test.YtcleaokoimhedaaGreatGEzmo
import Derived.Test.YtcleaokoimhedaaGreatB6zmo
import Derived.Test.YtcleaokoimhedaaGreatB7zmo
import Derived.Test.YtcleaokoimhedaaGreatB12zmo
import Derived.Test.YtcleaokoimhedaaGreatB11zmo
namespace Go.Proofs.YtcleaokoimhedaaGreat
open Nat renaming reduceMod → zA, reduceMul → zB, reduceDiv → zC, reduceAdd → zD, reduceSub → zE, reduceEqDiff → zF, reduceBEq → zG, reduceLT → zH, reduceLeDiff → zI
open Go.RowKit
set_option linter.unusedVariables false
set_option linter.unusedSimpArgs false
theorem zGi {s:List Bool}{k:Nat}(h:k<s.length):(s.take (k+1)).map ZP=(s.take k).map ZP++ [ZP (gb s k)]:=by
 rw [List.take_add_one,List.map_append]
 unfold gb
 rw [List.getD_eq_getElem?_getD,List.getElem?_eq_getElem h]
 rfl
def zAb (x:L7)(p:List Int):L7:=⟨x.owner,x.prio,x.next,x.prev,p⟩
theorem zMB {x:L7}{n:Nat}(h:x.Ok n){p:List Int}(hp:p.length=n):(zAb x p).Ok n:=
 ⟨h.hn,h.ho,h.hp,h.hx,h.hv,hp,h.deg,h.to,h.pr,h.ow,h.nd,h.dpv,h.pin,h.pal,h.pnd⟩
noncomputable def qt (x:L7)(inn:List Bool)(v i:Nat):Bool:=gb inn (gi (gl x.next v) i).toNat&&Xu inn (yV (zAb x (x.pick.set v (gi (gl x.next v) i))) inn.length (inn.length+1) inn) (gi x.owner v)
def wh (x:L7)(inn:List Bool)(v:Nat):Nat→List Int
 |0=>x.pick
 |i+1=>if gb inn (gi (gl x.next v) i).toNat then x.pick.set v (gi (gl x.next v) i)else wh x inn v i
noncomputable def qB (x:L7)(inn:List Bool)(v:Nat):Nat→Nat→Int×List Int
 |0,i=>(-1,wh x inn v i)
 |m+1,i=>if qt x inn v i then(gi (gl x.next v) i,x.pick.set v (gi (gl x.next v) i))else qB x inn v m (i+1)
theorem Kn (x:L7)(inn:List Bool)(v:Nat): ∀i,(wh x inn v i).length=x.pick.length
 |0=>rfl
 |i+1=>by
  unfold wh
  split
  ·rw [List.length_set]
  ·exact Kn x inn v i
theorem Xb (x:L7)(inn:List Bool)(v:Nat): ∀m i,(qB x inn v m i).2.length=x.pick.length
 |0,i=>Kn x inn v i
 |m+1,i=>by
  unfold qB
  split
  ·exact List.length_set ..
  ·exact Xb x inn v m (i+1)
theorem Ko (x:L7)(inn:List Bool)(v:Nat)(u:Int): ∀i,(wh x inn v i).set v u=x.pick.set v u
 |0=>rfl
 |i+1=>by
  unfold wh
  split
  ·rw [List.set_set]
  ·exact Ko x inn v u i
theorem zBQ {x:L7}{inn:List Bool}{v L i:Nat}{r:Int×List Int}(hi:i<L)(h:qB x inn v (L - i) i=r)(h2:qt x inn v i=true):r=(gi (gl x.next v) i,x.pick.set v (gi (gl x.next v) i)):=by
 rw [←h,show L - i=(L - (i+1))+1 from by omega]
 exact if_pos h2
theorem JY {x:L7}{inn:List Bool}{v L i:Nat}{r:Int×List Int}(hi:i<L)(h:qB x inn v (L - i) i=r)(h2:qt x inn v i=false):qB x inn v (L - (i+1)) (i+1)=r:=by
 rw [←h,show L - i=(L - (i+1))+1 from by omega]
 exact(if_neg (by rw [h2];decide)).symm
theorem zBP {x:L7}{inn:List Bool}{v L:Nat}{r:Int×List Int}(h:qB x inn v (L - L) L=r):r=(-1,wh x inn v L):=by
 rw [←h,Nat.sub_self];rfl
theorem zIT {x:L7}{inn:List Bool}{v i:Nat}(h:gb inn (gi (gl x.next v) i).toNat=false):qt x inn v i=false:=by unfold qt;rw [h];rfl
theorem zKk {x:L7}{inn:List Bool}{v i:Nat}{b:Bool}(h:gb inn (gi (gl x.next v) i).toNat=true)(h2:Xu inn (yV (zAb x (x.pick.set v (gi (gl x.next v) i))) inn.length (inn.length+1) inn) (gi x.owner v)=b):qt x inn v i=b:=by unfold qt;rw [h,h2];rfl
theorem zH3 {x:L7}{inn:List Bool}{v i:Nat}(h:gb inn (gi (gl x.next v) i).toNat=true):x.pick.set v (gi (gl x.next v) i)=wh x inn v (i+1):=by
 show _=if _ then _ else _;rw [h];rfl
theorem zJm {x:L7}{inn:List Bool}{v i:Nat}(h:gb inn (gi (gl x.next v) i).toNat=false):wh x inn v i=wh x inn v (i+1):=by
 show _=if _ then _ else _;rw [h];rfl
noncomputable def zt (g:Pa):Nat→List Int
 |0=>noP g.a.owner.length
 |v+1=>if 0≤gi (zt g v) v∨¬gi (zj g) v=gi g.a.owner v then zt g v else((qB (l7G g (zt g v)) (yS (zj g) (gi (zj g) v)) v (gl g.a.next v).length 0).2).set v (qB (l7G g (zt g v)) (yS (zj g) (gi (zj g) v)) v (gl g.a.next v).length 0).1
theorem vk (g:Pa): ∀v,(zt g v).length=g.a.owner.length
 |0=>xy _
 |v+1=>by
  unfold zt
  split
  ·exact vk g v
  ·rw [List.length_set,Xb];exact vk g v
theorem Qw {g:Pa}{v:Nat}(h:0≤gi (zt g v) v∨¬gi (zj g) v=gi g.a.owner v):zt g v=zt g (v+1):=(if_pos h).symm
theorem Xc {g:Pa}{v:Nat}(h1: ¬0≤gi (zt g v) v)(h2:gi (zj g) v=gi g.a.owner v){w:Int}(hw:gi (zj g) v=w){r:Int×List Int}(hr:qB (l7G g (zt g v)) (yS (zj g) w) v (gl g.a.next v).length 0=r):r.2.set v r.1=zt g (v+1):=by
 subst hr;subst hw;exact(if_neg fun e=>e.elim h1 fun e=>e h2).symm
noncomputable def vK (g:Pa):List Int:=zt g g.a.owner.length
theorem zFA (b:Bool):ZP b=0∨ZP b=1:=by cases b<;>simp [ZP]
theorem zLp (n v:Nat)(h:v<n):(noP n).set v (-1)=noP n:=by
 refine zDn (by simp) fun k hk=> ?_
 rw [List.length_set,xy]at hk
 rw [qb (by rw [xy];exact h),Yf _ _ hk]
 split<;>rfl
theorem Qx (won:List Int)(w:Int):(yS won w).length=won.length:=qz _ _
set_option maxRecDepth 20000 in
set_option maxHeartbeats 4000000 in
theorem zDE (g:Pa)(hok:yL g=true):Fn Tryz.prog tyT 73 [.agg (dPa g)] [.c (DI (zj g))]:=by
 obtain⟨hao,hpl,hpr⟩:=yJ hok
 have hal:=yQ hao
 have hxo:=WS hok (xy g.a.owner.length)
 have hOf:=zFK g hok
 have hAl:=zJK g.a.owner.length hal.2.1
 have hWn:=JM (l7G g (noP g.a.owner.length)) (g.a.owner.length+1) (qv g.a.owner.length) (by rw [QZ];exact hxo) (by rw [QZ];exact Nat.lt_succ_of_le (Yt _ _))
 rw [QZ]at hWn
 have hbl:=uO g
 have hw9:yV (l7G g (noP g.a.owner.length)) g.a.owner.length (g.a.owner.length+1) (qv g.a.owner.length)=Xl g:=rfl
 rw [hw9,show qv g.a.owner.length=qv g.prio.length from by rw [hpl]]at hWn
 rw [←hpl]at hAl
 unfold zj
 generalize Xl g=win at hWn hbl⊢
 unfold dL7 l7G qv at hWn
 dsimp only at hWn
 unfold dPa at hOf⊢
 refine θH (ts:= [2]) Tryz.func73 Tryz.ntmps73 ?_
 push_cast
 refine θA ?_
 refine zL fun K hK=> ?_
 refine YX false (uf Tryz.prog tyT) [7] (fun _ _ _ h=>zAw h) zO zN ya ?_ rfl ?_
 ·kernel_rfl
 intro E hE
 all_goals refine Zx 2 (by decide) fun K9 hK9=> ?_
 all_goals push_cast
 all_goals repeat'(first|(apply zP<;>(intro hg;push_cast at hg))|(refine⟨_,_,hOf,?_⟩;push_cast)|apply And.intro|(intro hg;push_cast at hg))
 all_goals try exact gA
 refine hK9 _ _ ?_;clear hK9 K9
 all_goals refine Zx 4 (by decide) fun K9 hK9=> ?_
 all_goals push_cast
 all_goals repeat'(first|(apply zP<;>(intro hg;push_cast at hg))|(refine⟨_,hAl,?_⟩;push_cast)|apply And.intro|(intro hg;push_cast at hg))
 all_goals try exact gA
 refine hK9 _ _ ?_;clear hK9 K9
 all_goals refine Zx 1 (by decide) fun K9 hK9=> ?_
 all_goals push_cast
 all_goals repeat'(first|(apply zP<;>(intro hg;push_cast at hg))|(refine⟨_,hWn,?_⟩;push_cast)|apply And.intro|(intro hg;push_cast at hg))
 all_goals try exact gA
 refine hK9 _ _ ?_;clear hK9 K9
 all_goals push_cast
 all_goals repeat'(first|(apply zP<;>(intro hg;push_cast at hg))|(refine⟨_,_,hOf,?_⟩;push_cast)|(refine⟨_,hAl,?_⟩;push_cast)|(refine⟨_,hWn,?_⟩;push_cast)|apply And.intro|(intro hg;push_cast at hg))
 all_goals first|exact gA|(refine hE _ _ ?_ ?_;kernel_rfl)|skip
 all_goals clear hE E
 refine hK _ ?_;clear hK K
 refine θA ?_
 refine zL fun K1 hK1=> ?_
 refine θA ?_
 refine zV ?_
 refine zg [4,5,14,15,16,17,18,19,20,21,22,23,24,25,26,27,28] [64] (fun(k:Nat)=> [(5, .int .i64 k),(4, .sl 64 [] 0 k 2)]) (fun k=> []) (fun k=> [(64,⟨.ex,2,dI ((win.take k).map ZP),none⟩)]) (fun k=>k≤win.length) (fun k=>win.length - k) 0 ?_ (by omega) ?_
 ·
  rw [show dI ((win.take 0).map ZP)= []from rfl]
  exact θX
 ·rintro k hk KL0 hL0
  have hfl:((win.take k).map ZP).length=k:=by rw [List.length_map,List.length_take];omega
  have hfn:ZP (gb win k)=1 - (if gb win k=true then 1 else 0):=by cases gb win k<;>rfl
  push_cast
  refine zL fun K2 hK2=> ?_
  refine θA ?_
  refine θU (fun hc=> ?_) fun hc=> ?_
  ·
   refine zU (hK2 _ ?_)
   refine zL fun K3 hK3=> ?_
   refine zV ?_
   refine zM zO zN [] rfl ?_
   all_goals refine zm 6 fun K9 hK9=> ?_
   all_goals push_cast
   all_goals repeat'(first|(apply zP<;>(intro hg;push_cast at hg))|(refine⟨_,zBI _,?_⟩;push_cast)|apply And.intro|(intro hg;push_cast at hg))
   all_goals try exact gA
   refine hK9 _ ?_;clear hK9 K9
   all_goals push_cast
   all_goals repeat'(first|(apply zP<;>(intro hg;push_cast at hg))|(refine⟨_,zBI _,?_⟩;push_cast)|apply And.intro|(intro hg;push_cast at hg))
   all_goals try exact gA
   refine hK3 _ ?_
   refine θB ?_
   refine hL0 _ ⟨k+1,by omega,by omega,?_⟩
   (try rw [List.take_of_length_le (l:=(win.take k).map ZP) (by omega)])
   rw [zGi (by omega),hfn]
   exact θX
   all_goals first|rfl|(simp;done)
  ·
   refine zh ?_
   have hkk:k=win.length:=by omega
   subst hkk
   rw [List.take_length]
   refine hK1 _ ?_
   refine θA ?_
   refine zZ ⟨Or.inl rfl,?_⟩
   push_cast [zd]
   all_goals first|rfl|exact⟨rfl,by simp⟩|(simp;done)
set_option maxRecDepth 20000 in
set_option maxHeartbeats 4000000 in
theorem zGp (g:Pa)(hg:g.Ln 1048576)(hok:yL g=true):Fn Tryz.prog tyT 90 [.agg (dPa g), .c (DI (noP g.prio.length))] [.agg (dPa g), .c (.bool true)]:=by
 obtain⟨hao,hpl,hpr⟩:=yJ hok
 have hal:=yQ hao
 have hP:=Jx g hg
 rw [hok]at hP
 have hPk:=zGP g hg
 have hp9:=hg.prio
 have ho9:=hg.a.owner
 have hx9:=hg.a.next
 have hC1:=KV g.a.owner ho9
 have hC2:=KV g.prio hp9
 have hC3:=fun v (hv:v<g.a.next.length)=>KV (gl g.a.next v) (zKs hx9 hv)
 unfold LnI at hp9 ho9
 have hnl:=xy g.prio.length
 have hng:=Yf g.prio.length
 generalize noP g.prio.length=ps at hnl hng hPk⊢
 unfold dPa at hP hPk⊢
 refine qm (fn:=Tryz.f90) (rs:= [.cell 4 50, .tmp 5]) zO zN Tryz.func90 (by kernel_rfl) rfl rfl (by rw [Tryz.ntmps90];exact Nat.le_of_ble_eq_true rfl) rfl (by simp only [szA,List.mem_cons,List.not_mem_nil,or_false,forall_eq_or_imp,forall_eq,VT.cells,szL];try decide) ?_
 rw [Tryz.ntmps90]
 push_cast
 refine θA ?_
 refine zL fun K1 hK1=> ?_
 refine zL fun K hK=> ?_
 refine zf false zO zN ?_ rfl ?_
 ·kernel_rfl
 all_goals refine yD 2 fun K9 hK9=> ?_
 all_goals push_cast
 all_goals repeat'(first|(apply zP<;>(intro hg;push_cast at hg))|(refine⟨_,hP,?_⟩;push_cast)|(refine⟨_,hPk,?_⟩;push_cast)|apply And.intro|(intro hg;push_cast at hg))
 all_goals first|exact gA|(exact zQ (by omega))|skip
 refine hK9 _ ?_;clear hK9 K9
 all_goals refine yD 5 fun K9 hK9=> ?_
 all_goals push_cast
 all_goals repeat'(first|(apply zP<;>(intro hg;push_cast at hg))|(refine⟨_,hP,?_⟩;push_cast)|(refine⟨_,hPk,?_⟩;push_cast)|apply And.intro|(intro hg;push_cast at hg))
 all_goals first|exact gA|(exact zQ (by omega))|skip
 refine hK9 _ ?_;clear hK9 K9
 all_goals push_cast
 all_goals repeat'(first|(apply zP<;>(intro hg;push_cast at hg))|(refine⟨_,hP,?_⟩;push_cast)|(refine⟨_,hPk,?_⟩;push_cast)|apply And.intro|(intro hg;push_cast at hg))
 all_goals first|exact gA|(exact zQ (by omega))|skip
 refine hK _ ?_;clear hK K
 all_goals(
   refine zT rfl (fun hc=> ?_) (fun hc=> ?_)
   skip
   ·exfalso;first|(cases hc;done)|(simp only [push_cast]at hc;done)|(simp only [push_cast]at hc;omega)|omega
   refine zU (hK1 _ ?_)
   refine zL fun K hK=> ?_
   refine zx false zO zN ya ?_ rfl ?_
   ·kernel_rfl
   intro E hE
   all_goals refine yb 4 (by decide) fun K9 hK9=> ?_
   all_goals push_cast
   all_goals repeat'(first|(apply zP<;>(intro hg;push_cast at hg))|(refine⟨_,hC1,?_⟩;push_cast)|(refine⟨_,hC2,?_⟩;push_cast)|apply And.intro|(intro hg;push_cast at hg))
   all_goals first|exact gA|(exact zQ (by omega))|skip
   refine hK9 _ _ ?_;clear hK9 K9
   all_goals refine yb 4 (by decide) fun K9 hK9=> ?_
   all_goals push_cast
   all_goals repeat'(first|(apply zP<;>(intro hg;push_cast at hg))|(refine⟨_,hC1,?_⟩;push_cast)|(refine⟨_,hC2,?_⟩;push_cast)|apply And.intro|(intro hg;push_cast at hg))
   all_goals first|exact gA|(exact zQ (by omega))|skip
   refine hK9 _ _ ?_;clear hK9 K9
   all_goals push_cast
   all_goals repeat'(first|(apply zP<;>(intro hg;push_cast at hg))|(refine⟨_,hC1,?_⟩;push_cast)|(refine⟨_,hC2,?_⟩;push_cast)|apply And.intro|(intro hg;push_cast at hg))
   all_goals first|exact gA|(refine hE _ _ ?_ ?_;kernel_rfl)|(exact zQ (by omega))|skip
   all_goals clear hE E
   refine hK _ ?_;clear hK K
   refine qE [.sl 2, .sl 22, .sl 2] 6 ?_
   push_cast
   refine zL fun K2 hK2=> ?_
   refine θA ?_
   refine zV ?_
   refine zg [6,7,8,12,28,29,30,31,32,33,34,35,36,37,38,39,40,41,42,43,44,45,46,47,48,49,50,51,52,53,54,55,56,57,58] [96,97,98] (fun(v:Nat)=> [(7, .int .i64 v),(6, .bp 6 0)]) (fun v=> [(6,[.sl 96 [] 0 g.a.owner.length 2, .sl 97 [] 0 v 22, .sl 98 [] 0 g.prio.length 2])]) (fun v=> [(96,⟨.ex,2,dI g.a.owner,none⟩),(97,⟨.ex,22,dII (g.a.next.take v),none⟩),(98,⟨.ex,2,dI g.prio,none⟩)]) (fun v=>v≤g.a.next.length) (fun v=>g.a.next.length - v) 0 ?_ (by omega) ?_
   ·
    rw [show dII (g.a.next.take 0)= []from rfl]
    exact θX
   ·rintro v hv KL0 hL0
    have htl:(g.a.next.take v).length=v:=by rw [List.length_take];omega
    push_cast
    refine zL fun K3 hK3=> ?_
    refine θA ?_
    refine θU (fun hc=> ?_) fun hc=> ?_
    ·
     refine zU (hK3 _ ?_)
     refine zL fun K4 hK4=> ?_
     refine zV ?_
     refine θL fun K hK=> ?_
     all_goals refine zm 7 fun K9 hK9=> ?_
     all_goals push_cast
     all_goals repeat'(first|(apply zP<;>(intro hg;push_cast at hg))|(refine⟨_,hC3 v (by omega),?_⟩;push_cast)|apply And.intro|(intro hg;push_cast at hg))
     all_goals first|exact gA|(exact zQ (by omega))|skip
     refine hK9 _ ?_;clear hK9 K9
     all_goals push_cast
     all_goals repeat'(first|(apply zP<;>(intro hg;push_cast at hg))|(refine⟨_,hC3 v (by omega),?_⟩;push_cast)|apply And.intro|(intro hg;push_cast at hg))
     all_goals first|exact gA|(exact zQ (by omega))|skip
     refine hK _ ?_;clear hK K
     refine zL fun K5 hK5=> ?_
     have hpk:=hng v (by omega)
     refine θA ?_
     refine zT rfl (fun hc=> ?_) (fun hc=> ?_)
     skip
     ·exfalso;first|(cases hc;done)|(simp only [push_cast]at hc;done)|(simp only [push_cast]at hc;omega)|omega
     refine zU (hK5 _ ?_)
     refine zf false zO zN ?_ rfl ?_
     ·kernel_rfl
     push_cast
     all_goals repeat'(first|(apply zP<;>(intro hg;push_cast at hg))|apply And.intro|(intro hg;push_cast at hg))
     all_goals first|exact gA|(exact zQ (by omega))|skip
     refine hK4 _ ?_
     refine qE [.sl 2, .sl 22, .sl 2] 6 ?_
     push_cast
     refine θB ?_
     refine hL0 _ ⟨v+1,by omega,by omega,?_⟩
     (try rw [List.take_of_length_le (l:=g.a.next.take v) (by omega)])
     rw [Um (xs:=g.a.next) (k:=v) (by omega)]
     exact θX
    ·
     refine zh ?_
     have hvv:v=g.a.next.length:=by omega
     subst hvv
     rw [List.take_length]
     refine hK2 _ ?_
     refine θA ?_
     refine zZ ⟨Or.inl rfl,?_⟩
     push_cast [zd,zo,yA]
     all_goals first|rfl|decide|skip)
set_option maxRecDepth 20000 in
set_option maxHeartbeats 4000000 in
theorem zEC (g:Pa)(hg:g.Ln 1048576)(hok:yL g=true):Fn Tryz.prog tyT 72 [.agg (dPa g), .c (DI (noP g.prio.length))] [.c (.bool true)]:=by
 obtain⟨hao,hpl,hpr⟩:=yJ hok
 have hal:=yQ hao
 have hO:=zGp g hg hok
 have hW:=zDE g hok
 have hwl:=qL g
 have hS:=zHk (zj g) (zj g) (by omega) (by omega)
 rw [decide_eq_true rfl]at hS
 unfold dPa at hO hW⊢
 refine θH (ts:= [4]) Tryz.func72 Tryz.ntmps72 ?_
 push_cast
 refine θA ?_
 refine θL fun K hK=> ?_
 refine θD 3 ?_
 refine θE hK ?_
 refine zL fun K hK=> ?_
 refine zx false zO zN ya ?_ rfl ?_
 ·kernel_rfl
 intro E hE
 all_goals refine yb 4 (by decide) fun K9 hK9=> ?_
 all_goals push_cast
 all_goals repeat'(first|(apply zP<;>(intro hg;push_cast at hg))|(refine⟨_,hW,?_⟩;push_cast)|apply And.intro|(intro hg;push_cast at hg))
 all_goals try exact gA
 refine hK9 _ _ ?_;clear hK9 K9
 all_goals refine yb 2 (by decide) fun K9 hK9=> ?_
 all_goals push_cast
 all_goals repeat'(first|(apply zP<;>(intro hg;push_cast at hg))|(refine⟨_,hW,?_⟩;push_cast)|apply And.intro|(intro hg;push_cast at hg))
 all_goals try exact gA
 refine hK9 _ _ ?_;clear hK9 K9
 all_goals refine yb 1 (by decide) fun K9 hK9=> ?_
 all_goals push_cast
 all_goals repeat'(first|(apply zP<;>(intro hg;push_cast at hg))|(refine⟨_,hS,?_⟩;push_cast)|apply And.intro|(intro hg;push_cast at hg))
 all_goals try exact gA
 refine hK9 _ _ ?_;clear hK9 K9
 all_goals push_cast
 all_goals repeat'(first|(apply zP<;>(intro hg;push_cast at hg))|(refine⟨_,hW,?_⟩;push_cast)|(refine⟨_,hS,?_⟩;push_cast)|apply And.intro|(intro hg;push_cast at hg))
 all_goals first|exact gA|(refine hE _ _ ?_ ?_;kernel_rfl)|skip
 all_goals clear hE E
 refine hK _ ?_;clear hK K
 all_goals(
   refine zZ ⟨Or.inl rfl,?_⟩
   push_cast [zd])
set_option maxRecDepth 20000 in
set_option maxHeartbeats 4000000 in
theorem zHj (x:L7)(inn:List Bool)(hx:x.Ok inn.length)(v:Nat)(hv:v<inn.length)(r:Int×List Int)(hr:qB x inn v (gl x.next v).length 0=r):FnG Tryz.prog tyT 76 [.agg (dL7 x), .c (.lst 4 (dB inn)), .c (.int .i64 v)] [4] [(4,2,dI r.2)] [.c (.int .i64 r.1)]:=by
 have hn1:=hx.hn
 have hn2:=hx.ho
 have hn4:=hx.hx
 have hn6:=hx.hk
 have hdeg:=hx.deg v hv
 have hto:=hx.to v hv
 have hH:=fun u=>zGO (zAb x (x.pick.set v u)) inn (zMB hx (by rw [List.length_set];exact hx.hk)) (inn.length+1) (Nat.lt_succ_of_le (Yt _ _)) (gi x.owner v)
 obtain⟨hb,hbe⟩: ∃hb:Int→Bool,∀u,hb u=Xu inn (yV (zAb x (x.pick.set v u)) inn.length (inn.length+1) inn) (gi x.owner v):=⟨_,fun _=>rfl⟩
 simp only [←hbe]at hH
 unfold dL7 zAb at hH
 dsimp only at hH
 unfold dL7
 refine QV (fn:=Tryz.f76) (rs:= [.tmp 6]) (own:= [4]) (outs:= [(4,2,dI r.2)]) zO zN Tryz.func76 (by kernel_rfl) rfl rfl (by rw [Tryz.ntmps76];exact Nat.le_of_ble_eq_true rfl) rfl (by simp only [szA,List.mem_cons,List.not_mem_nil,or_false,forall_eq_or_imp,forall_eq,VT.cells,szL];try decide) ?_
 rw [Tryz.ntmps76]
 push_cast
 refine θA ?_
 refine zL fun K1 hK1=> ?_
 refine θA ?_
 refine zV ?_
 refine zg [6,7,8,9,10,11,12,13,14,15,16,17,18,19,20,21,22,23,24,25,26,27,28,29,30,31,32,33,34,35,36,37,38,39,40,41,42,43,44,45] [4] (fun(i:Nat)=> [(7, .int .i64 i),(3, .bp 3 0)]) (fun i=> []) (fun i=> [(4,⟨.ex,2,dI (wh x inn v i),some 4⟩)]) (fun i=>i≤(gl x.next v).length∧qB x inn v ((gl x.next v).length - i) i=r) (fun i=>(gl x.next v).length - i) 0 ?_ ⟨Nat.zero_le _,hr⟩ ?_
 ·
  rw [show wh x inn v 0=x.pick from rfl]
  skip
  exact θX
 ·rintro i ⟨hi,hrr⟩ KL0 hL0
  have hsl:=Kn x inn v i
  push_cast
  refine zL fun K2 hK2=> ?_
  refine θA ?_
  refine θU (fun hc=> ?_) fun hc=> ?_
  ·
   refine zU (hK2 _ ?_)
   refine zL fun K3 hK3=> ?_
   refine zV ?_
   refine θA ?_
   refine zL fun K4 hK4=> ?_
   have hti:=hto i (by omega)
   refine θA ?_
   refine θU (fun hc=> ?_) fun hc=> ?_
   ·
    refine zh (hK3 _ ?_)
    refine θB ?_
    refine hL0 _ ⟨i+1,⟨by omega,JY (by omega) hrr (zIT (by with_reducible assumption))⟩,by omega,?_⟩
    rw [zJm (by with_reducible assumption)]
    exact θX
   ·
    refine zU (hK4 _ ?_)
    refine θA ?_
    rw [Ko]
    have hH7:=hH (gi (gl x.next v) i)
    rw [←List.take_of_length_le (l:=x.pick.set v (gi (gl x.next v) i)) (i:=x.pick.length) (by rw [List.length_set];exact Nat.le_refl _)]at hH7
    refine zL fun K hK=> ?_
    refine zx false zO zN ya ?_ rfl ?_
    ·kernel_rfl
    intro E hE
    all_goals refine yb 8 (by decide) fun K9 hK9=> ?_
    all_goals push_cast
    all_goals repeat'(first|(apply zP<;>(intro hg;push_cast at hg))|(refine⟨_,hH7,?_⟩;push_cast)|apply And.intro|(intro hg;push_cast at hg))
    all_goals first|exact gA|(exact zQ (by omega))|skip
    refine hK9 _ _ ?_;clear hK9 K9
    all_goals push_cast
    all_goals repeat'(first|(apply zP<;>(intro hg;push_cast at hg))|(refine⟨_,hH7,?_⟩;push_cast)|apply And.intro|(intro hg;push_cast at hg))
    all_goals first|exact gA|(refine hE _ _ ?_ ?_;kernel_rfl)|(exact zQ (by omega))|skip
    all_goals clear hE E
    refine hK _ ?_;clear hK K
    refine θU (fun hc=> ?_) fun hc=> ?_
    ·
     refine θA ?_
     refine zZ ⟨Or.inl rfl,?_⟩
     push_cast [Zg,wY,zo,yA]
     have hre:=zBQ (by omega) hrr (zKk (by with_reducible assumption) (by rw [←hbe];with_reducible assumption))
     subst hre
     all_goals first|rfl|exact⟨rfl,rfl⟩|skip
    ·
     refine zU (hK3 _ ?_)
     refine θB ?_
     refine hL0 _ ⟨i+1,⟨by omega,JY (by omega) hrr (zKk (by with_reducible assumption) (by rw [←hbe];with_reducible assumption))⟩,by omega,?_⟩
     rw [zH3 (by with_reducible assumption)]
     exact θX
  ·
   refine zh ?_
   have hii:i=(gl x.next v).length:=by omega
   subst hii
   have hre:=zBP hrr
   subst hre
   refine hK1 _ ?_
   refine θA ?_
   refine zZ ⟨Or.inl rfl,?_⟩
   push_cast [Zg,wY,zo,yA]
   all_goals first|rfl|exact⟨rfl,rfl⟩|skip
theorem zMW (g:Pa){v:Nat}(hv:v<g.a.owner.length):gi (zj g) v=0∨gi (zj g) v=1:=by rw [XC hv];exact zFA _
theorem zFU (g:Pa):zt g 0=noP g.a.owner.length:=rfl
set_option maxRecDepth 20000 in
set_option maxHeartbeats 8000000 in
theorem zEE (g:Pa)(hg:g.Ln 1048576)(hok:yL g=true):Fn Tryz.prog tyT 49 [.agg (dPa g), .c (DI (noP g.prio.length))] [.agg [DI (zj g),DI (vK g)], .c (.bool true)]:=by
 obtain⟨hao,hpl,hpr⟩:=yJ hok
 have hal:=yQ hao
 have hKW:=zEC g hg hok
 have hWn:=zDE g hok
 have hOf:=zFK g hok
 have hwl:=qL g
 have hwr:=fun v hv=>zMW g (v:=v) hv
 have hRg:=fun w=>zEV (zj g) (by omega) w
 obtain⟨F,hF⟩: ∃F:Nat→Int→Int×List Int,∀v w,F v w=qB (l7G g (zt g v)) (yS (zj g) w) v (gl g.a.next v).length 0:=⟨_,fun _ _=>rfl⟩
 have hPk:=fun(v:Nat) (hv:v<g.a.owner.length) (w:Int) (_hw:gi (zj g) v=w)=>zHj (l7G g (zt g v)) (yS (zj g) w) (by rw [Qx,qL];exact WS hok (vk g v)) v (by rw [Qx,qL];exact hv) (F v w) (hF v w).symm
 have hno:=fun v hv=>Qw (g:=g) (v:=v) hv
 have hys:=fun v h1 h2 w hw=>Xc (g:=g) (v:=v) h1 h2 (w:=w) hw (hF v w).symm
 have hkl:=vk g
 have hk0:=zFU g
 have hng:=Yf g.a.owner.length
 have hns:=zLp g.a.owner.length
 have hnl:=xy g.a.owner.length
 have hpv:=vT g.a g.a.owner.length g.a.owner.length 0
 have hrl:=fun w=>Qx (zj g) w
 unfold vK
 unfold dL7 l7G at hPk
 dsimp only at hPk
 rw [←List.take_of_length_le (l:=xq g.a g.a.owner.length g.a.owner.length 0) (i:=g.a.owner.length) (by omega)]at hPk
 have hFl: ∀v w,(F v w).2.length=g.a.owner.length:=fun v w=>by rw [hF,Xb];exact vk g v
 clear hF
 unfold dPa at hKW hWn hOf⊢
 rw [hpl]at hKW⊢
 generalize zj g=won at*
 refine qm (fn:=Tryz.f49) (rs:= [.cell 4 55, .tmp 5]) zO zN Tryz.func49 (by kernel_rfl) rfl rfl (by rw [Tryz.ntmps49];exact Nat.le_of_ble_eq_true rfl) rfl (by simp only [szA,List.mem_cons,List.not_mem_nil,or_false,forall_eq_or_imp,forall_eq,VT.cells,szL];try decide) ?_
 rw [Tryz.ntmps49]
 push_cast [↓zK,↓zJ]
 refine θA ?_
 refine zL fun K1 hK1=> ?_
 refine θL fun K hK=> ?_
 refine θD 3 ?_
 refine θE hK ?_
 refine zT rfl (fun hc=> ?_) (fun hc=> ?_)
 skip
 ·exfalso;first|(cases hc;done)|(simp only [push_cast]at hc;done)|(simp only [push_cast]at hc;omega)|omega
 refine zU (hK1 _ ?_)
 refine θL fun K hK=> ?_
 refine θD 2 ?_
 refine θE hK ?_
 refine zL fun K hK=> ?_
 refine zCc false (uf Tryz.prog tyT) [21] (fun _ _ _ h=>zAw h) zO zN ?_ rfl ?_
 ·kernel_rfl
 all_goals push_cast [↓zK,↓zJ]
 all_goals repeat'(first|(apply zP<;>(intro hg;(try push_cast at hg)))|(refine⟨_,_,hOf,?_⟩;(try push_cast [↓zK,↓zJ]))|apply And.intro|(intro hg;(try push_cast at hg)))
 all_goals try exact gA
 all_goals(refine hK _ ?_;clear hK K)
 refine zL fun K2 hK2=> ?_
 refine Qg [112,113,114] [.sl 2, .sl 2, .sl 22, .sl 22, .sl 2] 7 ?_
 push_cast [↓zK,↓zJ]
 refine θA ?_
 refine zV ?_
 refine zg [5,7,8,22,23,24,25,26,27,28,29,30,31,32,33,34,35,36,37,38,39,40,41,42,43,44,45,46,47,48,49,50,51,52,53,54] [115,116] (fun(v:Nat)=> [(8, .int .i64 v),(7, .bp 7 0)]) (fun v=> [(7,[.sl 0 [] 0 g.a.owner.length 2, .sl 2 [] 0 g.prio.length 2, .sl 1 [] 0 g.a.next.length 22, .sl 115 [] 0 g.a.owner.length 22, .sl 116 [] 0 g.a.owner.length 2])]) (fun v=> [(115,⟨.ex,22,dII (xq g.a g.a.owner.length g.a.owner.length 0),none⟩),(116,⟨.ex,2,dI (noP g.a.owner.length),none⟩)]) (fun v=>v≤g.a.owner.length) (fun v=>g.a.owner.length - v) 0 ?_ (by omega) ?_
 ·
  rw [hpv]
  rw [hnl]
  exact θX
 ·rintro v hv KL0 hL0
  push_cast [↓zK,↓zJ]
  refine zL fun K3 hK3=> ?_
  refine θA ?_
  refine θU (fun hc=> ?_) fun hc=> ?_
  ·
   refine zU (hK3 _ ?_)
   refine zL fun K4 hK4=> ?_
   refine zV ?_
   refine zL fun K5 hK5=> ?_
   have hngv:=hng v (by omega)
   refine zL fun K hK=> ?_
   refine zx false zO zN ya ?_ rfl ?_
   ·kernel_rfl
   intro E hE
   all_goals push_cast [↓zK,↓zJ]
   all_goals repeat'(first|(apply zP<;>(intro hg;(try push_cast at hg)))|apply And.intro|(intro hg;(try push_cast at hg)))
   all_goals first|exact gA|(refine hE _ _ ?_ ?_;kernel_rfl)|skip
   all_goals clear hE E
   all_goals(refine hK _ ?_;clear hK K)
   all_goals(
     refine zT rfl (fun hc=> ?_) (fun hc=> ?_)
     skip
     ·exfalso;first|(cases hc;done)|(simp only [push_cast]at hc;done)|(simp only [push_cast]at hc;omega)|omega
     refine zU (hK5 _ ?_)
     refine xY false zO zN ya ?_ rfl ?_
     ·kernel_rfl
     intro C hC
     push_cast [↓zK,↓zJ]
     repeat' apply And.intro
     all_goals first|omega|with_reducible assumption|(refine hC _ ?_;kernel_rfl)|(simp only [List.length_set,List.length_append,List.length_replicate,List.length_cons,List.length_nil];omega)|skip
     clear hC C
     refine hK4 _ ?_
     refine θB ?_
     refine hL0 _ ⟨v+1,by omega,by omega,?_⟩
     refine zY rfl ?_ ?_ ?_<;>push_cast [zb,za,↓zK,↓zJ]
     all_goals(rw [hngv,hns v (by omega)]))
  ·
   refine zh (hK2 _ ?_)
   refine θL fun K hK=> ?_
   all_goals refine zm 2 fun K9 hK9=> ?_
   all_goals push_cast [↓zK,↓zJ]
   all_goals repeat'(first|(apply zP<;>(intro hg;(try simp only [push_cast]at hg)))|(refine⟨_,hRg 0,?_⟩;push_cast [↓zK,↓zJ])|apply And.intro|(intro hg;(try simp only [push_cast]at hg)))
   all_goals try exact gA
   all_goals(refine hK9 _ ?_;clear hK9 K9)
   all_goals push_cast [↓zK,↓zJ]
   all_goals repeat'(first|(apply zP<;>(intro hg;(try simp only [push_cast]at hg)))|(refine⟨_,hRg 0,?_⟩;push_cast [↓zK,↓zJ])|apply And.intro|(intro hg;(try simp only [push_cast]at hg)))
   all_goals try exact gA
   all_goals(refine hK _ ?_;clear hK K)
   refine θL fun K hK=> ?_
   all_goals refine zm 2 fun K9 hK9=> ?_
   all_goals push_cast [↓zK,↓zJ]
   all_goals repeat'(first|(apply zP<;>(intro hg;(try simp only [push_cast]at hg)))|(refine⟨_,hRg 1,?_⟩;push_cast [↓zK,↓zJ])|apply And.intro|(intro hg;(try simp only [push_cast]at hg)))
   all_goals try exact gA
   all_goals(refine hK9 _ ?_;clear hK9 K9)
   all_goals push_cast [↓zK,↓zJ]
   all_goals repeat'(first|(apply zP<;>(intro hg;(try simp only [push_cast]at hg)))|(refine⟨_,hRg 1,?_⟩;push_cast [↓zK,↓zJ])|apply And.intro|(intro hg;(try simp only [push_cast]at hg)))
   all_goals try exact gA
   all_goals(refine hK _ ?_;clear hK K)
   refine zL fun K6 hK6=> ?_
   refine θA ?_
   refine zV ?_
   refine zg [7,11,12,33,59,60,61,62,63,64,65,66,67,68,69,70,71,72,73,74,75,76,77,78,79,80,81,82,83,84,85,86,87,88,89,90,91,92,93,94,95,96,97,98] [115,116] (fun(v:Nat)=> [(11, .int .i64 v),(7, .bp 7 0)]) (fun v=> [(7,[.sl 0 [] 0 g.a.owner.length 2, .sl 2 [] 0 g.prio.length 2, .sl 1 [] 0 g.a.next.length 22, .sl 115 [] 0 g.a.owner.length 22, .sl 116 [] 0 g.a.owner.length 2])]) (fun v=> [(115,⟨.ex,22,dII (xq g.a g.a.owner.length g.a.owner.length 0),none⟩),(116,⟨.ex,2,dI (zt g v),none⟩)]) (fun v=>v≤g.a.owner.length) (fun v=>g.a.owner.length - v) 0 ?_ (by omega) ?_
   ·
    rw [hk0]
    exact θX
   ·rintro v hv KL1 hL1
    have hkv:=hkl v
    push_cast [↓zK,↓zJ]
    refine zL fun K7 hK7=> ?_
    refine θA ?_
    refine θU (fun hc=> ?_) fun hc=> ?_
    ·
     refine zU (hK7 _ ?_)
     refine zL fun K8 hK8=> ?_
     refine zV ?_
     refine zL fun K9 hK9=> ?_
     refine zL fun K hK=> ?_
     refine zx false zO zN ya ?_ rfl ?_
     ·kernel_rfl
     intro E hE
     all_goals push_cast [↓zK,↓zJ]
     all_goals repeat'(first|(apply zP<;>(intro hg;(try push_cast at hg)))|apply And.intro|(intro hg;(try push_cast at hg)))
     all_goals first|exact gA|(refine hE _ _ ?_ ?_;kernel_rfl)|skip
     all_goals clear hE E
     all_goals(refine hK _ ?_;clear hK K)
     all_goals refine zT rfl (fun hc=> ?_) (fun hc=> ?_)
     all_goals(first|(cases hc;done)|skip)
     all_goals(try simp only [push_cast]at hc)
     all_goals first
      |(
        refine zU (hK9 _ ?_)
        refine zL fun K hK=> ?_
        refine zM zO zN [192] rfl ?_
        push_cast [↓zK,↓zJ]
        repeat' apply And.intro
        all_goals try exact gB
        all_goals(refine hK _ ?_;clear hK K)
        refine zL fun K10 hK10=> ?_
        refine θA ?_
        refine θU (fun hc=> ?_) fun hc=> ?_
        ·
         refine zM zO zN [192] rfl ?_
         push_cast [↓zK,↓zJ]
         repeat' apply And.intro
         all_goals try exact gB
         refine hK10 _ ?_
         have hF1:=hFl v 1
         have hF0:=hFl v 0
         have hPv:=hPk v (by omega)
         rw [←List.take_of_length_le (l:=zt g v) (i:=g.a.owner.length) (by omega)]at hPv
         refine YX true (ud Tryz.prog tyT 4) [97] (fun _ _ _ h=>zAv h) zO zN ya ?_ rfl ?_
         ·kernel_rfl
         intro E hE
         all_goals refine Zx 7 (by decide) fun K9 hK9=> ?_
         all_goals push_cast [↓zK,↓zJ]
         all_goals repeat'(first|(apply zP<;>(intro hg;(try push_cast at hg)))|(refine⟨_,_,_,hPv 1 (by omega),?_⟩;(try push_cast [↓zK,↓zJ]))|(refine⟨_,_,_,hPv 0 (by have :=hwr v (by omega);omega),?_⟩;(try push_cast [↓zK,↓zJ]))|apply And.intro|(intro hg;(try push_cast at hg)))
         all_goals try exact gA
         all_goals(refine hK9 _ _ ?_;clear hK9 K9)
         all_goals push_cast [↓zK,↓zJ]
         all_goals repeat'(first|(apply zP<;>(intro hg;(try push_cast at hg)))|(refine⟨_,_,_,hPv 1 (by omega),?_⟩;(try push_cast [↓zK,↓zJ]))|(refine⟨_,_,_,hPv 0 (by have :=hwr v (by omega);omega),?_⟩;(try push_cast [↓zK,↓zJ]))|apply And.intro|(intro hg;(try push_cast at hg)))
         all_goals first|exact gA|(refine hE _ _ ?_ ?_;kernel_rfl)|skip
         all_goals clear hE E
         refine hK8 _ ?_
         refine θB ?_
         refine hL1 _ ⟨v+1,by omega,by omega,?_⟩
         rw [hys v (by omega) (by omega) 1 (by omega)]
         exact θX
        ·
         refine zU (hK10 _ ?_)
         have hF1:=hFl v 1
         have hF0:=hFl v 0
         have hPv:=hPk v (by omega)
         rw [←List.take_of_length_le (l:=zt g v) (i:=g.a.owner.length) (by omega)]at hPv
         refine YX true (ud Tryz.prog tyT 4) [97] (fun _ _ _ h=>zAv h) zO zN ya ?_ rfl ?_
         ·kernel_rfl
         intro E hE
         all_goals refine Zx 7 (by decide) fun K9 hK9=> ?_
         all_goals push_cast [↓zK,↓zJ]
         all_goals repeat'(first|(apply zP<;>(intro hg;(try push_cast at hg)))|(refine⟨_,_,_,hPv 1 (by omega),?_⟩;(try push_cast [↓zK,↓zJ]))|(refine⟨_,_,_,hPv 0 (by have :=hwr v (by omega);omega),?_⟩;(try push_cast [↓zK,↓zJ]))|apply And.intro|(intro hg;(try push_cast at hg)))
         all_goals try exact gA
         all_goals(refine hK9 _ _ ?_;clear hK9 K9)
         all_goals push_cast [↓zK,↓zJ]
         all_goals repeat'(first|(apply zP<;>(intro hg;(try push_cast at hg)))|(refine⟨_,_,_,hPv 1 (by omega),?_⟩;(try push_cast [↓zK,↓zJ]))|(refine⟨_,_,_,hPv 0 (by have :=hwr v (by omega);omega),?_⟩;(try push_cast [↓zK,↓zJ]))|apply And.intro|(intro hg;(try push_cast at hg)))
         all_goals first|exact gA|(refine hE _ _ ?_ ?_;kernel_rfl)|skip
         all_goals clear hE E
         refine hK8 _ ?_
         refine θB ?_
         refine hL1 _ ⟨v+1,by omega,by omega,?_⟩
         rw [hys v (by omega) (by omega) 0 (by have :=hwr v (by omega);omega)]
         exact θX
        done)
      |(
        refine zh (hK8 _ ?_)
        refine θB ?_
        refine hL1 _ ⟨v+1,by omega,by omega,?_⟩
        rw [hno v (by first|exact Or.inl (by omega)|exact Or.inr (by omega))]
        exact θX
        done)
    ·
     refine zh ?_
     have hvv:v=g.a.owner.length:=by omega
     subst hvv
     refine hK6 _ ?_
     refine θA ?_
     refine zZ ⟨Or.inl rfl,?_⟩
     push_cast [zd,zo,yA,↓zK,↓zJ]
     all_goals first|rfl|omega|skip
set_option maxRecDepth 20000 in
set_option maxHeartbeats 4000000 in
theorem zGw (g:Pa)(hg:g.Ln 1048576)(hok:yL g=true):Fn Tryz.prog tyT 21 [.agg (dPa g)] [.agg [DI (zj g),DI (vK g)]]:=by
 have hp:=hg.prio
 unfold LnI at hp
 have hP:=Jx g hg
 rw [hok]at hP
 have hN:=zHi g.prio.length hp
 have hF:=zEE g hg hok
 generalize zj g=won at*
 generalize vK g=pl at*
 unfold dPa at hP hF⊢
 refine qm (fn:=Tryz.f21) (rs:= [.cell 2 55]) zO zN Tryz.func21 (by kernel_rfl) rfl rfl (by rw [Tryz.ntmps21];exact Nat.le_of_ble_eq_true rfl) rfl (by simp only [szA,List.mem_cons,List.not_mem_nil,or_false,forall_eq_or_imp,forall_eq,VT.cells,szL];try decide) ?_
 rw [Tryz.ntmps21]
 push_cast
 refine θA ?_
 refine zL fun K1 hK1=> ?_
 refine θL fun K hK=> ?_
 refine θD 2 ?_
 refine θE hK ?_
 refine zT rfl (fun hc=> ?_) (fun hc=> ?_)
 skip
 ·exfalso;first|(cases hc;done)|(simp only [push_cast]at hc;done)|(simp only [push_cast]at hc;omega)|omega
 refine zU (hK1 _ ?_)
 refine zL fun K hK=> ?_
 refine zx false zO zN ya ?_ rfl ?_
 ·kernel_rfl
 intro E hE
 all_goals refine yb 5 (by decide) fun K9 hK9=> ?_
 all_goals push_cast
 all_goals repeat'(first|(apply zP<;>(intro hg;push_cast at hg))|(refine⟨_,hN,?_⟩;push_cast)|apply And.intro|(intro hg;push_cast at hg))
 all_goals try exact gA
 refine hK9 _ _ ?_;clear hK9 K9
 all_goals refine yb 1 (by decide) fun K9 hK9=> ?_
 all_goals push_cast
 all_goals repeat'(first|(apply zP<;>(intro hg;push_cast at hg))|(refine⟨_,hF,?_⟩;push_cast)|apply And.intro|(intro hg;push_cast at hg))
 all_goals try exact gA
 refine hK9 _ _ ?_;clear hK9 K9
 all_goals push_cast
 all_goals repeat'(first|(apply zP<;>(intro hg;push_cast at hg))|(refine⟨_,hN,?_⟩;push_cast)|(refine⟨_,hF,?_⟩;push_cast)|apply And.intro|(intro hg;push_cast at hg))
 all_goals first|exact gA|(refine hE _ _ ?_ ?_;kernel_rfl)|skip
 all_goals clear hE E
 refine hK _ ?_;clear hK K
 refine θA ?_
 refine zZ ⟨Or.inl rfl,?_⟩
 push_cast [zd,zo,yA]
 all_goals first|rfl|decide|skip
def dU (xs:List Int):List D:=xs.map (.int .u8)
theorem zNW (xs:List Int):(dU xs).length=xs.length:=by simp [dU]
theorem zLR (xs:List Int)(i:Nat):Qk (dU xs) i=gi xs i:=by
 unfold Qk dU gi
 rw [List.getElem?_map,List.getD_eq_getElem?_getD]
 cases xs[i]? <;>rfl
theorem zKo (xs:List Int)(i:Nat):qF (.int .u8) (dU xs) i=(i<xs.length):=by
 unfold qF dU
 rw [List.getElem?_map]
 apply propext
 constructor
 ·rintro⟨n,h⟩
  cases hx:xs[i]? with
  |none=>rw [hx]at h;cases h
  |some y=>exact(List.getElem?_eq_some_iff.1 hx).1
 ·intro h
  rw [List.getElem?_eq_getElem h]
  exact⟨_,rfl⟩
theorem zMM (xs:List Int)(n:Nat):(dU xs).take n=dU (xs.take n):=by simp [dU]
theorem zLD (xs:List Int)(n:Nat):(dU xs).drop n=dU (xs.drop n):=by simp [dU]
theorem zMO :Int.toNat 33=33:=rfl
theorem zLk :min 33 64=33:=rfl
theorem zK2 (n:Int):arC .i64 n=(.int .i64 n,UE n):=rfl
attribute [push_cast] zMO zLk zK2 zNW zLR zKo zMM zLD
section
variable {P:Program} {τ:Ty} {lo:Nat} {w0:Fz} {ow:Nat→Option Pl} {hd:Nat→Value} {bk:Nat→Nat} {st:St} {a:Act} {w:World}
end
theorem rm_kv {α:Type}(f:Nat→Bool)(k:Nat)(v:α)(l:List (Nat×α)):rm f ((k,v)::l)=if f k=true then rm f l else(k,v)::rm f l:=by
 unfold rm
 rw [List.filter_cons]
 cases f k<;>rfl
theorem rm_nl {α:Type}(f:Nat→Bool):rm f ([]:List (Nat×α))= []:=rfl
attribute [push_cast] rm_kv rm_nl
attribute [-push_cast] rm
theorem zDX (n:Nat):(1:Int)+(n:Int)=(n:Int)+1:=Int.add_comm _ _
attribute [push_cast] zDX Int.sub_zero
attribute [-push_cast] rm
def Yk (g:Pa)(xs:List Int):Nat→Int
 |0=> -1
 |k+1=>if gi g.prio (gi xs k).toNat>Yk g xs k then gi g.prio (gi xs k).toNat else Yk g xs k
theorem zD5 (g:Pa)(xs:List Int)(k:Nat):Yk g xs (k+1)=if gi g.prio (gi xs k).toNat>Yk g xs k then gi g.prio (gi xs k).toNat else Yk g xs k:=rfl
theorem zD4 (g:Pa)(xs:List Int): ∀k j,j<k→gi g.prio (gi xs j).toNat≤Yk g xs k
 |0,j,h=>by omega
 |k+1,j,h=>by
  rw [zD5]
  by_cases e:j=k
  ·subst e;split<;>omega
  ·have :=zD4 g xs k j (by omega)
   split<;>omega
theorem zFj (g:Pa)(xs:List Int): ∀k,Yk g xs k= -1∨∃j,j<k∧gi g.prio (gi xs j).toNat=Yk g xs k
 |0=> .inl rfl
 |k+1=>by
  rw [zD5]
  split
  ·exact .inr ⟨k,by omega,rfl⟩
  ·rcases zFj g xs k with e|⟨j,hj,e⟩
   ·exact .inl e
   ·exact .inr ⟨j,by omega,e⟩
set_option maxRecDepth 20000 in
set_option maxHeartbeats 4000000 in
theorem zKI (g:Pa)(hg:g.Ln 1048576)(xs:List Int)(hx:xs.length≤1048576)(hr: ∀j,j<xs.length→0≤gi xs j∧gi xs j<g.prio.length):Fn Tryz.prog tyT 101 [.agg (dPa g), .c (DI xs)] [.c (.int .i64 (Yk g xs xs.length))]:=by
 unfold dPa
 refine θH (ts:= [4]) Tryz.func101 Tryz.ntmps101 ?_
 push_cast
 refine θA ?_
 refine θA ?_
 refine zL fun K1 hK1=> ?_
 refine θA ?_
 refine zV ?_
 refine zg [5,7,10,11,12,13,14,15,16,17,18,19,20,21] [] (fun(k:Nat)=> [(10, .int .i64 k),(5, .int .i64 (Yk g xs k))]) (fun k=> []) (fun k=> []) (fun k=>k≤xs.length) (fun k=>xs.length - k) 0 ?_ (by omega) ?_
 ·
  rw [show Yk g xs 0= -1 from rfl]
  exact θX
 ·rintro k hk KL0 hL0
  push_cast
  refine θA ?_
  refine zL fun K2 hK2=> ?_
  refine θU (fun hc=> ?_) fun hc=> ?_
  ·
   refine zU (hK2 _ ?_)
   refine zL fun K3 hK3=> ?_
   refine zV ?_
   have hrk:=hr k (by omega)
   refine θA ?_
   refine θB ?_
   refine hK3 _ ?_
   refine θB ?_
   refine hL0 _ ⟨k+1,by omega,by omega,?_⟩
   rw [zD5]
   exact θX
   all_goals first|rfl|(refine congrArg (AV.int .i64) ?_;omega)|skip
  ·
   refine zh ?_
   have hkk:k=xs.length:=by omega
   subst hkk
   refine hK1 _ ?_
   refine θA ?_
   refine zZ ⟨Or.inl rfl,?_⟩
   push_cast [zd]
end Go.Proofs.YtcleaokoimhedaaGreat
