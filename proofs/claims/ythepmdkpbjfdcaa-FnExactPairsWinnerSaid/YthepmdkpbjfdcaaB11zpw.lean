/- Plain regions with operations of a kind of their own; clear of a row's end. -/
import Derived.Test.YthepmdkpbjfdcaaB10zpw
import Derived.Lib.SliceRun
import Derived.ArgAppend
import Derived.Test.YthepmdkpbjfdcaaB9zpw
import Derived.Test.YthepmdkpbjfdcaaGDzpw
import Derived.Test.YthepmdkpbjfdcaaGEzpw
import Derived.Test.YthepmdkpbjfdcaaB6zpw
namespace Go.Proofs.Ythepmdkpbjfdcaa
open Go.RowKit
set_option linter.unusedVariables false
set_option linter.unusedSimpArgs false
section
variable {P:Program} {τ:Ty} {lo:Nat} {w0:Fz} {ow:Nat→Option Pl} {hd:Nat→Value} {bk:Nat→Nat} {st:St} {a:Act} {w:World}
def Wq (P:Program)(τ:Ty)(al:List Nat)(X:Oper→(St→Prop)→St→Prop)(t:Option Nat)(K:St→Prop):List Oper→St→Prop
 | [],st=>K st
 |o::os,st=>
  match o.guard with
  |none=>if o.dst=t then X o (Wq P τ al X t K os) st else aop P τ al o (Wq P τ al X t K os) st
  |some (j,want)=>False
def Kh (P:Program)(τ:Ty)(X:Oper→(St→Prop)→St→Prop):Prop:=
 ∀{lo:Nat} {w0:Fz} {st:St} {a:Act} {w:World} {o:Oper} {K:St→Prop} {Q:Exit→Act→World→Prop} {K':Act→World→Prop},(∀k,o.dst=some k→k<a.tmps.size)→Rel τ lo w0 st a w→X o K st→
  (∀st' x w',K st'→Rel τ lo w0 st' (a.put o.dst x) w'→K' (a.put o.dst x) w')→o.wp P a w K' Q
theorem Xk (hτ:zv P τ)(hpos:yO τ){al:List Nat}{X:Oper→(St→Prop)→St→Prop}(hX:Kh P τ X){t:Option Nat}{all:List Oper}{K:St→Prop}{Q:Exit→Act→World→Prop}(hQ: ∀st a w,K st→Rel τ lo w0 st a w→Q .normal a w):
  ∀(os:List Oper) (st:St) (a:Act) (w:World),yo a.tmps.size os=true→Rel τ lo w0 st a w→Wq P τ al X t K os st→wpList P all.toArray Q os a w
 | [],st,a,w,_,h,ha=>wpList_nil (hQ st a w ha h)
 |o::os,st,a,w,hd,h,ha=>by
  have hd1: ∀k,o.dst=some k→k<a.tmps.size:=fun k hk=>by
   have :=List.all_eq_true.1 hd o (by simp)
   rw [hk]at this
   simpa using this
  have hd2:yo a.tmps.size os=true:=List.all_eq_true.2 fun x hx=>List.all_eq_true.1 hd x (by simp [hx])
  refine wpList_step fun K' hK'=> ?_
  simp only [Wq]at ha
  split at ha
  ·rename_i hg
   rw [if_pos (by simp [Region.wanted,hg])]
   split at ha
   ·exact hX hd1 h ha fun st' x w' h2 h3=>hK' _ _ (Xk hτ hpos @hX hQ os st' _ w' (by rw [xF];exact hd2) h3 h2)
   ·exact ZC hτ hpos hd1 h ha fun st' x w' h2 h3=>hK' _ _ (Xk hτ hpos @hX hQ os st' _ w' (by rw [xF];exact hd2) h3 h2)
  ·exact ha.elim
end
theorem XB {P:Program}{τ:Ty}{Q:Exit→St→Prop}{st:St}(X:Oper→(St→Prop)→St→Prop)(hX:Kh P τ X)(t:Option Nat)(hτ:zv P τ)(hpos:yO τ)(al:List Nat){id:Nat}{ops:List Oper}(hd:yo st.n ops=true)(h:Wq P τ al X t (Q .normal) ops st):awp P τ (.region id ops.toArray false) Q st:=fun lo w0 a w hr=>by
 have hn:a.tmps.size=st.n:=by obtain⟨ow,hd,bk,h⟩:=hr;exact h.size
 refine wp_region_lit (Xk hτ hpos @hX (fun st a w h1 h2=>⟨st,h2,h1⟩) ops st a w (by rw [hn];exact hd) hr h)
attribute [push_cast] Wq
section
variable {P:Program} {τ:Ty} {lo:Nat} {w0:Fz} {ow:Nat→Option Pl} {hd:Nat→Value} {bk:Nat→Nat} {st:St} {a:Act} {w:World}
theorem zHG {w:World}{g i:Nat}{cur:Array Value}{e:TypeId}(h:w.heap[g]? =some (.cells cur e (0,0)))(hi:i<cur.size):(w.cell? ⟨g,i,none⟩).isSome=true∧w.frozen? ⟨g,i,none⟩=false:=by
 constructor
 ·simp [World.cell?,h,hi]
 ·simp [World.frozen?,h]
theorem zGR (hτ:zv P τ)(h:zh τ lo w0 ow hd bk st a w){d k:Nat}{e:TypeId}{xs:List D}{pin:Option Nat}(hR:lk st.r d=some ⟨.ex,e,xs,pin⟩){off len m:Nat}{v:Value}(hsub:Sub (sz τ e) (hd d) off len v)(hfull:off+len=xs.length){t ty:TypeId}{bt by_:Nat}{ck:CK}(ht:tk τ t=some (.sc (.sl e),bt))(he:tk τ e=some (.sc ck,by_))(hall:xs.all xI=true)
  (newD:List D) (news:List Value) (src:Value) (hsrc: ∃ad c2,src= .slice (some ad) m c2∧∀(j:Nat) (u:Value),news[j]? =some u→w.cell? (ad.add j)=some u) (hm:0<m) (hnl:news.length=m) (hdl:newD.length=m) (h1: ∀u∈news,u.oneCell'=true)
  (hN: ∀(i:Nat) (x:D) (u:Value),newD[i]? =some x→news[i]? =some u→xI x=true∧∃mo,Rp (sz τ) lo w ow mo x u) (h63:len+m≤1073741824) (hoff:xs.length≤1073741824) (hby:by_≤64):
  ∃v' w' ow' hd' pre,(pre= []∨pre=xs.take off)∧(Builtin.append_ #[t,t] ty #[v,src]).run P w= .ok v' w'∧zh τ lo w0 ow' hd' bk (st.appG St.delR d k ⟨.ex,e,pre++(xs.drop off++newD),none⟩) a w'∧
   AvR τ w' (st.appG St.delR d k ⟨.ex,e,pre++(xs.drop off++newD),none⟩).r (st.appG St.delR d k ⟨.ex,e,pre++(xs.drop off++newD),none⟩).b hd' bk (.sl k [] pre.length (len+m) e) v':=by
 have hsz:sz τ e=1:=Yi he
 have hu:P.underlying t=some (.slice e):=(yQ hτ ht).1
 obtain⟨i0,hi0,hs0,hz0,hb0⟩:=Yp hτ he
 obtain⟨A,n,c,A',c',hnw,hhd,hval,hle,hlc,hmx,hf0,hA⟩:=hsub
 obtain⟨vs,⟨k1,N,k2,k3⟩,k5⟩:=(zt _ _).1 (h.root d _ hR)
 have hH0:Hd (sz τ) lo w ow (md .ex d) e (hd d) xs.length vs:=⟨k1,N,k2,k3⟩
 have k1:vs.length=xs.length:=k1
 have k2:xs.length=N*sz τ e:=k2
 simp only [md]at k3
 obtain⟨hown,hlab⟩:=k3
 rw [hsz,Nat.mul_one]at k2
 rw [hhd]at hown hlab
 rw [hsz]at hown hnw hA
 have hNn:N=n:=by
  rcases hown.2 with⟨hv,h0⟩|⟨g,cap,cur,hv,_⟩
  ·cases hv;exact h0
  ·cases hv;rfl
 subst hNn
 by_cases hroom:len+m≤c'
 ·-- there is room
  obtain⟨g,cap,cur,hv,hg,hb,hnc,hcm,hcs,htk⟩: ∃g cap cur,Value.slice A N c= .slice (some ⟨g,0,none⟩) N cap∧lo≤g∧w.heap[g]? =some (.cells cur e (0,0))∧N≤cap∧cap≤maxLen∧cur.size=cap*1∧cur.toList.take (N*1)=vs:=by
   rcases hown.2 with⟨hv,h0⟩|h9
   ·cases hv;exfalso;omega
   ·exact h9
  cases hv
  have hA':=hnw.2 g 0 rfl (by omega)
  rw [Nat.zero_add,Nat.mul_one]at hA'
  subst hA'
  have hw9:=hnw.1
  have hNm:N+m≤c:=by omega
  obtain⟨ad,c2,rfl,hcells⟩:=hsrc
  have hcells2: ∀j,j<news.length→(w.cell? ⟨g,N+j,none⟩).isSome=true∧w.frozen? ⟨g,N+j,none⟩=false:=fun j hj=>zHG hb (by omega)
  obtain⟨v1,w1,ow1,hrun1,hrel⟩:=Xm (P:=P) hτ h (ZA h d) (by simp [St.delR,xB,is1]) (k:=k) (len:=N) (d:=d) hR (by simp) hhd (Nat.le_refl _) (ty:=ty) ht he (by show 0<sz τ e;omega) newD news (.slice (some ad) m c2) (m:=m) (.inl ⟨ad,c2,rfl,hcells⟩) (by rw [hsz,Nat.mul_one];exact hnl) (by omega) h1 (fun i x u hx hu=>by
   obtain⟨s1,mo,s2⟩:=hN i x u hx hu
   exact YX s1 s2) (by omega) (by
   have :(N+m)*by_≤2147483648*64:=Nat.mul_le_mul (by omega) hby
   omega)
  have hr1:=run_append_room_cells (P:=P) (w:=w) t ty e i0 hu hi0 g 0 N c ad m c2 news (by rw [hs0,Nat.mul_one];exact hnl) hcells h1 (by omega) (fun j hj=>by rw [hs0,Nat.mul_one,Nat.zero_add];exact(hcells2 j hj).1) (fun j hj=>by rw [hs0,Nat.mul_one,Nat.zero_add];exact(hcells2 j hj).2)
  have hr2:=run_append_room_cells (P:=P) (w:=w) t ty e i0 hu hi0 g off len c' ad m c2 news (by rw [hs0,Nat.mul_one];exact hnl) hcells h1 hroom (fun j hj=>by rw [hs0,Nat.mul_one,show off+len=N by omega];exact(hcells2 j hj).1) (fun j hj=>by rw [hs0,Nat.mul_one,show off+len=N by omega];exact(hcells2 j hj).2)
  rw [hs0,Nat.mul_one,Nat.zero_add]at hr1
  rw [hs0,Nat.mul_one,show off+len=N by omega]at hr2
  rw [hr1]at hrun1
  cases hrun1
  have exs:xs.take off++(xs.drop off++newD)=xs.take (N*sz τ e)++newD:=by
   rw [←List.append_assoc,List.take_append_drop,hsz,Nat.mul_one,List.take_of_length_le (by omega)]
  refine⟨_,_,_,_,xs.take off, .inr rfl,by rw [hval];exact hr2,by rw [exs];exact hrel,?_⟩
  have hlo:(xs.take off).length=off:=by rw [List.length_take];omega
  rw [hlo]
  simp only [AvR]
  refine⟨⟨_,_,_,rfl⟩,fun R' hR' hp=>⟨.slice (some ⟨g,0,none⟩) (N+m) c,by simp only [yA,zu],some ⟨g,0,none⟩,N+m,c,some ⟨g,off,none⟩,c',⟨hnw.1,fun b o e9 _=> ?_⟩,rfl,rfl,by omega,hroom,hmx,hf0,fun _=>⟨g,0,rfl,by rw [hsz,Nat.mul_one,Nat.zero_add]⟩⟩⟩
  cases e9
  rw [hsz,Nat.mul_one,Nat.zero_add]
 ·-- a new row
  have hdr:(vs.drop off).length=len:=by rw [List.length_drop];omega
  obtain⟨v',w',hrun,hown',hg⟩: ∃v' w',(Builtin.append_ #[t,t] ty #[v,src]).run P w= .ok v' w'∧w'.ownsRow w.heap.size e 1 v' (len+m) (vs.drop off++news)∧w.grownBy w' none:=by
   obtain⟨ad,c2,rfl,hcells⟩:=hsrc
   have hbytes:(len+m)*by_≤140737488355328:=by
    have :(len+m)*by_≤1073741824*64:=Nat.mul_le_mul h63 hby
    omega
   have hmax:len+m≤maxLen:=by unfold maxLen;omega
   rw [hval]
   cases A' with
   |some ad'=>
    refine run_append_arg_grows (P:=P) (w:=w) t ty e i0 ck.zero 1 by_ hu hi0 hz0 hs0 hb0 (by cases ck<;>rfl) (by decide) ad' len c' (vs.drop off) (by rw [Nat.mul_one];exact hdr) (fun j u hj=> ?_) ad m c2 news (by rw [Nat.mul_one];exact hnl) hcells (by omega) hmax hbytes
    have hjl:=(List.getElem?_eq_some_iff.1 hj).1
    rw [List.getElem?_drop]at hj
    obtain⟨b1,o1,n1,c1,hv1,-,-,-,hc1⟩:=xu hH0 hj
    rw [hhd]at hv1
    cases hv1
    obtain⟨b2,o2,e1,e2⟩:=hA (by omega)
    cases e1
    rw [Nat.mul_one]at e2
    cases e2
    rw [Addr.add_lit,Nat.add_assoc]
    exact hc1
   |none=>
    have hl0:len=0:=by
     rcases Nat.eq_zero_or_pos len with h9|h9
     ·exact h9
     ·obtain⟨b2,o2,e1,e2⟩:=hA (by omega)
      cases e2
    have hc0:c'=0:=by
     rcases Nat.eq_zero_or_pos c' with h9|h9
     ·exact h9
     ·rcases hown.2 with⟨hv,h0⟩|⟨g,cap,cur,hv,_⟩
      ·cases hv;omega
      ·cases hv
       have :=hnw.2 g 0 rfl (by omega)
       cases this
    subst hl0
    subst hc0
    have hnil:vs.drop off= []:=List.eq_nil_of_length_eq_zero hdr
    rw [hnil]
    obtain⟨v',w',r1,r2,r3,-,r5⟩:=run_append_own_at (P:=P) w w.heap.size t ty e i0 ck.zero 1 by_ hu hi0 hz0 hs0 hb0 (by cases ck<;>rfl) (by decide) (.slice none 0 0) 0 [] ⟨rfl, .inl ⟨rfl,rfl⟩⟩ ad m c2 news (by rw [Nat.mul_one];exact hnl) hcells h1 hmax hbytes (Nat.le_refl _)
    exact⟨v',w',r1,r2,r3⟩
  have hvlt: ∀b,v'.ownBlock=some b→w.heap.size≤b∧b<w'.heap.size:=fun b hb=>⟨(hown'.lt b hb).1,(hown'.lt b hb).2⟩
  have s1:=ZA (ZA h d) k
  have hnew: ∀b,b<w.heap.size→¬v'.ownBlock=some b:=fun b hb e9=>by have :=(hvlt b e9).1;omega
  have s2:=XM s1 (w':=w') (ow':=fun b=>if v'.ownBlock=some b then some (.root k [])else ow b) hg.size (fun b hb=>⟨hg.block b hb (by simp),if_neg (hnew b hb)⟩) (h.below.grown hg (fun b hb=>by cases hb)) (fun b p hle hp hne=>by
   refine⟨Nat.le_trans h.low hle,fun hlt=>by have :=h.below.size;omega⟩) (fun b hle=>by
   have h9: ¬v'.ownBlock=some b:=fun e9=>by have :=(hvlt b e9).2;omega
   simp only [h9,if_false]
   exact h.new b (by have :=hg.size;omega))
  have hxl:(xs.drop off).length=len:=by rw [List.length_drop];omega
  have hownlo:w'.ownsRow lo e 1 v' (len+m) (vs.drop off++news):=⟨hown'.1,hown'.2.imp id fun⟨g,cap,cur,q1,q2,q3⟩=>⟨g,cap,cur,q1,Nat.le_trans h.low q2,q3⟩⟩
  have hroot:Rp (sz τ) lo w' (fun b=>if v'.ownBlock=some b then some (.root k [])else ow b) (md .ex k) (.lst e (xs.drop off++newD)) v':=by
   refine(zt _ _).2 ⟨vs.drop off++news,⟨by rw [List.length_append,List.length_append,hdr,hxl,hnl,hdl],len+m,by rw [hsz,Nat.mul_one,List.length_append,hxl,hdl],?_⟩,fun i x u hx hu=> ?_⟩
   ·simp only [md]
    rw [hsz]
    exact⟨hownlo,fun b hb=>by simp only [hb,if_true]⟩
   ·rcases Nat.lt_or_ge i len with hi|hi
    ·rw [List.getElem?_append_left (by omega),List.getElem?_drop]at hx hu
     exact YX (List.all_eq_true.1 hall x (List.mem_of_getElem? hx)) (k5 _ x u hx hu)
    ·rw [List.getElem?_append_right (by omega)]at hx hu
     rw [hxl]at hx
     rw [hdr]at hu
     obtain⟨s3,mo,s4⟩:=hN _ x u hx hu
     exact YX s3 s4
  have s3:=xq s2 k ⟨.ex,e,xs.drop off++newD,none⟩ v' hroot
  refine⟨v',w',_,_,[], .inl rfl,hrun,s3,?_⟩
  obtain⟨A2,n2,c2,hv',hlen',hnc2,hm2⟩:=yz hroot
  have hn2:n2=len+m:=by
   rw [List.length_append,hxl,hdl,hsz,Nat.mul_one]at hlen'
   omega
  subst hn2
  subst hv'
  simp only [AvR,List.length_nil,List.nil_append]
  refine⟨⟨_,_,_,rfl⟩,fun R' hR' hp=>⟨.slice A2 (len+m) c2,by simp only [yA,zu],A2,len+m,c2,A2,c2,nw0,rfl,rfl,by omega,hnc2,hm2,fun _=>⟨rfl,rfl⟩,fun hne0=> ?_⟩⟩
  rcases hown'.2 with⟨hv9,h0⟩|⟨g,cap,cur,hv9,_⟩
  ·omega
  ·cases hv9
   exact⟨g,0,rfl,by rw [Nat.zero_mul]⟩
def UY (τ:Ty)(o:Oper)(K:St→Prop)(st:St):Prop:=
 match o.op,o.dst with
 | .call c,some t=>
  match c.callee with
  | .builtin .append=>
   match c.args.toList,c.argTypes.toList with
   | [X,Y],[t1,t2]=>
    match ev st X,ev st Y,tk τ t1 with
    | .sl d [] off len e, .sl d2 p2 off2 len2 e2,some (.sc (.sl e'),_)=>
     match lk st.r d,lk st.r d2,tk τ e with
     |some R,some R2,some (.sc ck,by_)=>t1=t2∧e'=e∧e2=e∧R.o= .ex∧R.e=e∧(by_≤64)∧off+len=R.xs.length∧R.xs.all xI=true∧zl R2.xs p2∧vF R2.e R2.xs p2=e∧(((yL R2.xs p2).drop off2).take len2).all xI=true∧0<len2∧len+len2≤1073741824∧R.xs.length≤1073741824∧
      ∀pre:List D,(pre= []∨pre=R.xs.take off)→K ((st.appG St.delR d (zZ t 0) ⟨.ex,e,pre++(R.xs.drop off++((yL R2.xs p2).drop off2).take len2),none⟩).put (some t) (.sl (zZ t 0) [] pre.length (len+len2) e))
     |_,_,_=>False
    |_,_,_=>False
   |_,_=>False
  |_=>False
 |_,_=>False
theorem Ki (hτ:zv P τ):Kh P τ (UY τ):=by
 intro lo w0 st a w o K Q K' hd9 h ha hK
 obtain⟨ow,hd,bk,hr⟩:=h
 obtain⟨dst,op,oty,pos,after,guard⟩:=o
 unfold UY at ha
 cases op<;>simp only at ha
 rename_i c
 obtain⟨callee,args,argTypes⟩:=c
 cases dst with
 |none=>simp only at ha
 |some t=>
 simp only at ha
 split at ha
 rotate_left
 ·exact ha.elim
 split at ha
 rotate_left
 ·exact ha.elim
 rename_i X Y t1 t2 h1 h2
 split at ha
 rotate_left
 ·exact ha.elim
 rename_i d off len e d2 p2 off2 len2 e2 e' bt hX hY ht1
 split at ha
 rotate_left
 ·exact ha.elim
 rename_i R R2 ck by_ hR hR2 hte
 obtain⟨rfl,rfl,rfl,hex,hRe,hb64,hfull,hall,hp2,hnode,hall2,hlen2,hbd,hbd2,hK1⟩:=ha
 obtain⟨ro,re,rx,rp⟩:=R
 simp only at hex hRe hfull hall hbd2 hK1
 subst hex;subst hRe
 have e1:args= #[X,Y]:=by cases args;simp at h1;subst h1;rfl
 have e2:argTypes= #[t1,t1]:=by cases argTypes;simp at h2;subst h2;rfl
 subst e1;subst e2
 have hx:=zg hr X
 have hy:=zg hr Y
 rw [hX]at hx
 rw [hY]at hy
 simp only [AvR]at hx hy
 obtain⟨hv,hin,hsub⟩:=hx.2 _ hR (by simp only [zl])
 simp only [yA,Option.some.injEq]at hin
 subst hin
 have hsz1:=Yi hte
 obtain⟨hv2,hin2,hsub2⟩:=hy.2 R2 hR2 hp2
 have hview:=Yj hr hR2 hp2 hin2 hsub2 hnode lo
 rw [hsz1,Nat.mul_one,Nat.mul_one]at hview
 obtain⟨vs,⟨k1,N,k2,A3,c3,k3,k4,k5,k6⟩,k7⟩:=(zt _ _).1 hview
 obtain⟨A4,n4,c4,A5,c5,hnw5,e4,e5,hle4,-⟩:=hsub2
 rw [k3]at e5
 cases e5
 rw [hsz1,Nat.mul_one]at k2
 obtain⟨b,oo,hA,hb,-,hcell⟩:=k6 (by omega)
 subst hA
 have hsc: ∀(i:Nat) (x:D) (u:Value),(((yL R2.xs p2).drop off2).take len2)[i]? =some x→vs[i]? =some u→xI x=true∧∃mo,Rp (sz τ) lo w ow mo x u:=fun i x u hx hu=>
  ⟨List.all_eq_true.1 hall2 x (List.mem_of_getElem? hx), .sh,YX (m':= .sh) (List.all_eq_true.1 hall2 x (List.mem_of_getElem? hx)) (k7 i x u hx hu)⟩
 have hone: ∀u∈vs,u.oneCell'=true:=fun u hu=>by
  obtain⟨j,hj⟩:=List.getElem?_of_mem hu
  have hjl:=(List.getElem?_eq_some_iff.1 hj).1
  obtain⟨s1,mo,s2⟩:=hsc j _ u (List.getElem?_eq_getElem (by omega)) hj
  cases hd':(((yL R2.xs p2).drop off2).take len2)[j]'(by omega)with
  |int k n=>rw [hd']at s2;simp only [Rp]at s2;subst s2;rfl
  |bool b=>rw [hd']at s2;simp only [Rp]at s2;subst s2;rfl
  |hole=>rw [hd']at s1;cases s1
  |lst e xs=>rw [hd']at s1;cases s1
 obtain⟨v',w',ow',hd',pre,r1,r2,r3,r4⟩:=zGR (P:=P) hτ hr (k:=zZ t 0) hR hsub hfull (ty:=oty) ht1 hte hall _ vs (a.eval Y) ⟨_,c3,k3,fun j u hu=>by rw [Addr.add_lit];exact hcell j u hu⟩ hlen2 (by rw [k1,k2]) k2 hone hsc hbd hbd2 hb64
 unfold Oper.wp
 have hexec:(execOp a.eval ⟨some t, .call ⟨.builtin .append,#[X,Y],#[t1,t1]⟩,oty,pos,after,guard⟩).run P w= .ok (.value v') w':=by
  simp [execOp,resolve,invoke,builtin,r2]
 rw [hexec]
 exact hK _ v' _ (hK1 pre r1) (xM r3 hd9 r4)
end
attribute [push_cast] UY
open Nat renaming reduceMod → zA, reduceMul → zB, reduceDiv → zC, reduceAdd → zD, reduceSub → zE, reduceEqDiff → zF, reduceBEq → zG, reduceLT → zH, reduceLeDiff → zI
def dSv (x:L7):List D:= [DI x.owner,DII x.next,DI x.prio,DII x.prev]
theorem zCX {c:List Int}{v:Nat}(h:v<c.length):c.set v (gi c v)=c:=by
 refine List.ext_getElem (by simp) fun j h1 h2=> ?_
 rw [List.getElem_set]
 split
 ·rename_i e
  subst e
  unfold gi
  rw [List.getD_eq_getElem?_getD,List.getElem?_eq_getElem h]
  rfl
 ·rfl
theorem zHQ {x:L7}{inn:List Bool}{lc:List Int}{v:Nat}(h:gi lc v=0):lc.set v (vU x inn v)=lc.set v (vA x inn lc v):=by unfold vA;rw [if_pos h]
theorem zI8 {x:L7}{inn:List Bool}{lc:List Int}{v:Nat}(hv:v<lc.length)(h: ¬gi lc v=0):lc.set v (vA x inn lc v)=lc:=by unfold vA;rw [if_neg h];exact zCX hv
theorem zAy {c:List Int}{v:Nat}{y:Int}(h:v<c.length):gi (c.set v y) v=y:=by rw [xw h,if_pos rfl]
theorem Wr (a b:List Int)(v:Int):dI a++(dI b++ [D.int .i64 v])=dI (a++(b++ [v])):=by simp [dI]
theorem zEb {qd:List Int}{o:Nat}{pre:List D}(h:pre= []∨pre=dI (qd.take o)): ∃ps:List Int,(ps= []∨ps=qd.take o)∧pre=dI ps:=by
 rcases h with h|h
 ·exact⟨[], .inl rfl,h⟩
 ·exact⟨_, .inr rfl,h⟩
set_option maxRecDepth 20000 in
set_option maxHeartbeats 8000000 in
theorem zH8 (x:L7)(inn:List Bool)(hx:x.Ok inn.length)(hed: ∀(v:Nat) (u:Int),v<inn.length→edB x v u=true)(who:Int)(goal:List Bool)(hg9:goal.length=inn.length)(hsub: ∀_:Unit,∀v,v<inn.length→gb goal v=true→gb inn v=true):FnB Try.prog tyT 175 (dSv x) [.c (.int .i64 who), .c (.lst 4 (dB inn)), .c (.lst 4 (dB goal))] (dSv x) [.c (.lst 4 (dB (yW x inn.length inn who goal)))]:=by
 have hn1:=hx.hn
 have hn2:=hx.ho
 have hn4:=hx.hx
 have hn5:=hx.hv
 have hL:=YJ goal (by omega)
 have hatl:=vt x inn.length inn who goal
 generalize hR:yW x inn.length inn who goal=R at hatl⊢
 rw [hg9]at hL
 have hil0:=vx goal inn.length
 unfold dSv
 refine zDY (fn:=Try.f175) (rs:= [.tmp 8]) zO zN Try.func175 (by kernel_rfl) rfl rfl (by rw [Try.ntmps175];exact Nat.le_of_ble_eq_true rfl) rfl (by simp only [szA,List.mem_cons,List.not_mem_nil,or_false,forall_eq_or_imp,forall_eq,false_implies,implies_true,VT.cells,szL];try decide) (Nat.le_of_ble_eq_true rfl) (by simp only [szL];decide) (Nat.le_of_ble_eq_true rfl) rfl ?_
 rw [Try.ntmps175]
 simp only [push_cast,↓zK,↓zJ,↓reduceIte,zA,zB,zC,zD,zE,zF,zG,zH,zI,reduceCtorEq]
 refine zL fun K hK=> ?_
 refine zM zO zN [] rfl ?_
 all_goals simp only [push_cast,↓zK,↓zJ,↓reduceIte,zA,zB,zC,zD,zE,zF,zG,zH,zI,reduceCtorEq]
 all_goals repeat'(first|(apply zP<;>(intro hg;(try simp only [push_cast]at hg)))|apply And.intro|(intro hg;(try simp only [push_cast]at hg)))
 all_goals first|exact gA|(exact zQ (by omega))|(rw [List.length_set];omega)|(simp only [List.length_set];omega)|skip
 all_goals first|(refine hK _ ?_;clear hK K)|(simp only [push_cast];done)
 refine zL fun K hK=> ?_
 refine zM zO zN [] rfl ?_
 all_goals simp only [push_cast,↓zK,↓zJ,↓reduceIte,zA,zB,zC,zD,zE,zF,zG,zH,zI,reduceCtorEq]
 all_goals repeat'(first|(apply zP<;>(intro hg;(try simp only [push_cast]at hg)))|apply And.intro|(intro hg;(try simp only [push_cast]at hg)))
 all_goals first|exact gA|(exact zQ (by omega))|(rw [List.length_set];omega)|(simp only [List.length_set];omega)|skip
 all_goals first|(refine hK _ ?_;clear hK K)|(simp only [push_cast];done)
 refine zL fun K hK=> ?_
 refine zM zO zN [] rfl ?_
 all_goals simp only [push_cast,↓zK,↓zJ,↓reduceIte,zA,zB,zC,zD,zE,zF,zG,zH,zI,reduceCtorEq]
 all_goals repeat'(first|(apply zP<;>(intro hg;(try simp only [push_cast]at hg)))|apply And.intro|(intro hg;(try simp only [push_cast]at hg)))
 all_goals first|exact gA|(exact zQ (by omega))|(rw [List.length_set];omega)|(simp only [List.length_set];omega)|skip
 all_goals first|(refine hK _ ?_;clear hK K)|(simp only [push_cast];done)
 refine zL fun K hK=> ?_
 refine zM zO zN [] rfl ?_
 all_goals refine zo 2 fun K9 hK9=> ?_
 all_goals simp only [push_cast,↓zK,↓zJ,↓reduceIte,zA,zB,zC,zD,zE,zF,zG,zH,zI,reduceCtorEq]
 all_goals repeat'(first|(apply zP<;>(intro hg;(try simp only [push_cast]at hg)))|(refine⟨_,hL,?_⟩;simp only [push_cast,↓zK,↓zJ,↓reduceIte,zA,zB,zC,zD,zE,zF,zG,zH,zI,reduceCtorEq])|apply And.intro|(intro hg;(try simp only [push_cast]at hg)))
 all_goals first|exact gA|(exact zQ (by omega))|(rw [List.length_set];omega)|(simp only [List.length_set];omega)|skip
 all_goals first|(refine hK9 _ ?_;clear hK9 K9)|(simp only [push_cast];done)
 all_goals simp only [push_cast,↓zK,↓zJ,↓reduceIte,zA,zB,zC,zD,zE,zF,zG,zH,zI,reduceCtorEq]
 all_goals repeat'(first|(apply zP<;>(intro hg;(try simp only [push_cast]at hg)))|(refine⟨_,hL,?_⟩;simp only [push_cast,↓zK,↓zJ,↓reduceIte,zA,zB,zC,zD,zE,zF,zG,zH,zI,reduceCtorEq])|apply And.intro|(intro hg;(try simp only [push_cast]at hg)))
 all_goals first|exact gA|(exact zQ (by omega))|(rw [List.length_set];omega)|(simp only [List.length_set];omega)|skip
 all_goals first|(refine hK _ ?_;clear hK K)|(simp only [push_cast];done)
 refine zL fun K1 hK1=> ?_
 refine zW ?_
 refine zi [11,12,14,16,25,26,27,28,29,30,31,32,33,34,35,36,37,38,39,40,41,42,43,44,45,46,47,48,49,50,51,52,53,54,55,56,57,58,59,60,61,62,63,64,65,66,67,68,69,70,71,72,73,74,75,76,77,78,79,80,81,82,83,84,85,86,87,88,89,90,91,92,93,94,95,96,97,98,99,100,101,102,103,104,105,106,107,108,109,110,111,112,113,114,115] [144,160,176] (fun(p:Nat×List Int×List Bool×List Int×List Int×List Int×Nat)=> [(9, .sl 144 [] 0 goal.length 4),(10, .sl 160 [] 0 inn.length 3),(11, .sl 176 [] p.2.2.2.2.2.2 (p.2.1.length - p.1) 2)]) (fun p=> []) (fun p=> [(144,⟨.ex,4,dB p.2.2.1,none⟩),(160,⟨.ex,3,dI p.2.2.2.1,none⟩),(176,⟨.ex,2,dI p.2.2.2.2.2.1,none⟩)]) (fun p=>p.1≤p.2.1.length∧PuI x inn.length inn who goal p.2.2.1 p.2.2.2.1 p.2.2.2.2.1 p.2.1 (fun _ u=>yD (p.2.1.take p.1) u)∧QdI p.2.1 p.1 p.2.2.2.2.2.1 p.2.2.2.2.2.2) (fun p=>inn.length - p.1) (0,yb goal inn.length,goal,List.replicate inn.length 0,(List.range inn.length).map (fun v=>vU x inn v),yb goal inn.length,0) ?_ ⟨by dsimp only;omega,PuI.start hx hg9 (hsub ()),QdI.start _⟩ ?_
 ·
  refine zY rfl ?_ ?_ ?_<;>simp only [zf,ze,push_cast,↓zK,↓zJ,↓reduceIte,zA,zB,zC,zD,zE,zF,zG,zH,zI,reduceCtorEq]
 ·rintro⟨i,Q,out,lc,Lf,qd,o⟩ ⟨hv,hA,hq⟩ KL0 hL0
  dsimp only at hv hA hq
  have hl0:=hA.at_.lo
  have hl1:=hA.len
  have hql:=hA.at_.qle
  have hqn:=hq.len
  have hqo:=hq.lo
  simp only [push_cast,↓zK,↓zJ,↓reduceIte,zA,zB,zC,zD,zE,zF,zG,zH,zI,reduceCtorEq]
  refine zL fun K2 hK2=> ?_
  refine zL fun K hK=> ?_
  refine zM zO zN [] rfl ?_
  all_goals simp only [push_cast,↓zK,↓zJ,↓reduceIte,zA,zB,zC,zD,zE,zF,zG,zH,zI,reduceCtorEq]
  all_goals repeat'(first|(apply zP<;>(intro hg;(try simp only [push_cast]at hg)))|apply And.intro|(intro hg;(try simp only [push_cast]at hg)))
  all_goals first|exact gA|(exact zQ (by omega))|(rw [List.length_set];omega)|(simp only [List.length_set];omega)|skip
  all_goals first|(refine hK _ ?_;clear hK K)|(simp only [push_cast];done)
  refine zU rfl (fun hc=> ?_) (fun hc=> ?_)<;>(try simp only [push_cast]at hc)
  ·
   refine zV ?_
   (try simp only [zR,zS,reduceIte,zF]);refine hK2 _ ?_
   refine zW ?_
   have hqi:=hA.at_.qin (i:=i) (by omega)
   have hhd:=hq.head (i:=i) (by omega)
   have hpop:=hq.pop (by omega)
   obtain⟨qi,hqi0⟩: ∃qi,Q.take i=qi:=⟨_,rfl⟩
   obtain⟨u0,hu0⟩: ∃u0,gi Q i=u0:=⟨_,rfl⟩
   rw [hu0]at hqi hhd
   have hAb:=hA.cong (UM hA.at_)
   rw [hu0,hqi0]at hAb
   refine zL fun K hK=> ?_
   refine zM zO zN [] rfl ?_
   all_goals simp only [push_cast,↓zK,↓zJ,↓reduceIte,zA,zB,zC,zD,zE,zF,zG,zH,zI,reduceCtorEq]
   all_goals repeat'(first|(apply zP<;>(intro hg;(try simp only [push_cast]at hg)))|apply And.intro|(intro hg;(try simp only [push_cast]at hg)))
   all_goals first|exact gA|(exact zQ (by omega))|(rw [List.length_set];omega)|(simp only [List.length_set];omega)|skip
   all_goals first|(refine hK _ ?_;clear hK K)|(simp only [push_cast];done)
   (try rw [hhd])
   refine zL fun K hK=> ?_
   refine zM zO zN [] rfl ?_
   all_goals simp only [push_cast,↓zK,↓zJ,↓reduceIte,zA,zB,zC,zD,zE,zF,zG,zH,zI,reduceCtorEq]
   all_goals repeat'(first|(apply zP<;>(intro hg;(try simp only [push_cast]at hg)))|apply And.intro|(intro hg;(try simp only [push_cast]at hg)))
   all_goals first|exact gA|(exact zQ (by omega))|(rw [List.length_set];omega)|(simp only [List.length_set];omega)|skip
   all_goals first|(refine hK _ ?_;clear hK K)|(simp only [push_cast];done)
   refine zL fun K hK=> ?_
   refine zM zO zN [] rfl ?_
   all_goals simp only [push_cast,↓zK,↓zJ,↓reduceIte,zA,zB,zC,zD,zE,zF,zG,zH,zI,reduceCtorEq]
   all_goals repeat'(first|(apply zP<;>(intro hg;(try simp only [push_cast]at hg)))|apply And.intro|(intro hg;(try simp only [push_cast]at hg)))
   all_goals first|exact gA|(exact zQ (by omega))|(rw [List.length_set];omega)|(simp only [List.length_set];omega)|skip
   all_goals first|(refine hK _ ?_;clear hK K)|(simp only [push_cast];done)
   refine zW ?_
   refine zi [11,14,16,25,28,29,31,32,41,42,43,44,45,46,47,48,49,50,51,52,53,54,55,56,57,58,59,60,61,62,63,64,65,66,67,68,69,70,71,72,73,74,75,76,77,78,79,80,81,82,83,84,85,86,87,88,89,90,91,92,93,94,95,96,97,98,99,100,101,102,103,104,105,106,107,108,109,110,111,112,113,114,115] [144,160,176] (fun(p:Nat×List Int×List Bool×List Int×List Int×List Int×Nat)=> [(41, .int .i64 p.1),(9, .sl 144 [] 0 goal.length 4),(10, .sl 160 [] 0 inn.length 3),(11, .sl 176 [] p.2.2.2.2.2.2 (p.2.1.length - (i+1)) 2)]) (fun p=> []) (fun p=> [(144,⟨.ex,4,dB p.2.2.1,none⟩),(160,⟨.ex,3,dI p.2.2.2.1,none⟩),(176,⟨.ex,2,dI p.2.2.2.2.2.1,none⟩)]) (fun p=>p.1≤(gl x.prev u0.toNat).length∧PuI x inn.length inn who goal p.2.2.1 p.2.2.2.1 p.2.2.2.2.1 p.2.1 (PK x qi u0 p.1)∧QdI p.2.1 (i+1) p.2.2.2.2.2.1 p.2.2.2.2.2.2∧p.2.1.take i=qi∧gi p.2.1 i=u0∧i<p.2.1.length) (fun p=>(gl x.prev u0.toNat).length - p.1) (0,Q,out,lc,Lf,qd,o+1) ?_ ⟨by dsimp only;omega,hAb,hpop,hqi0,hu0,by dsimp only;omega⟩ ?_
   ·
    (try rw [show Q.length - i - 1=Q.length - (i+1) by omega])
    refine zY rfl ?_ ?_ ?_<;>simp only [zf,ze,push_cast,↓zK,↓zJ,↓reduceIte,zA,zB,zC,zD,zE,zF,zG,zH,zI,reduceCtorEq]
   ·rintro⟨k,Q,out,lc,Lf,qd,o⟩ ⟨hk,hA2,hq3,hq2,hu2,hil⟩ KL1 hL1
    dsimp only at hk hA2 hq3 hq2 hu2 hil
    have hpl:=hx.dpv u0.toNat (by omega)
    simp only [push_cast,↓zK,↓zJ,↓reduceIte,zA,zB,zC,zD,zE,zF,zG,zH,zI,reduceCtorEq]
    refine zL fun K hK=> ?_
    refine zM zO zN [] rfl ?_
    all_goals simp only [push_cast,↓zK,↓zJ,↓reduceIte,zA,zB,zC,zD,zE,zF,zG,zH,zI,reduceCtorEq]
    all_goals repeat'(first|(apply zP<;>(intro hg;(try simp only [push_cast]at hg)))|apply And.intro|(intro hg;(try simp only [push_cast]at hg)))
    all_goals first|exact gA|(exact zQ (by omega))|(rw [List.length_set];omega)|(simp only [List.length_set];omega)|skip
    all_goals first|(refine hK _ ?_;clear hK K)|(simp only [push_cast];done)
    refine zL fun K3 hK3=> ?_
    refine zU rfl (fun hc=> ?_) (fun hc=> ?_)<;>(try simp only [push_cast]at hc)
    ·
     refine zV ?_
     (try simp only [zR,zS,reduceIte,zF]);refine hK3 _ ?_
     refine zL fun K4 hK4=> ?_
     refine zW ?_
     have hl0:=hA2.at_.lo
     have hl1:=hA2.len
     have hql2:=hA2.at_.qle
     have hqn:=hq3.len
     have hqo:=hq3.lo
     refine zL fun K hK=> ?_
     refine zM zO zN [] rfl ?_
     all_goals simp only [push_cast,↓zK,↓zJ,↓reduceIte,zA,zB,zC,zD,zE,zF,zG,zH,zI,reduceCtorEq]
     all_goals repeat'(first|(apply zP<;>(intro hg;(try simp only [push_cast]at hg)))|apply And.intro|(intro hg;(try simp only [push_cast]at hg)))
     all_goals first|exact gA|(exact zQ (by omega))|(rw [List.length_set];omega)|(simp only [List.length_set];omega)|skip
     all_goals first|(refine hK _ ?_;clear hK K)|(simp only [push_cast];done)
     refine zL fun K5 hK5=> ?_
     have hp1:=hx.pin u0.toNat (by omega) k (by omega)
     have hqi2:=hA2.at_.qin (i:=i) hil
     rw [hu2]at hqi2
     have hps0:=fun v u=>PK_s (x:=x) (qi:=qi) (u0:=u0) (k:=k) (by omega) (by omega) v u
     have hnew:=zDc hx hA2.at_ hil (k:=k) (by rw [hu2];omega)
     rw [hu2,hq2]at hnew
     obtain⟨w0,hw0⟩: ∃w:Int,gi (gl x.prev u0.toNat) k=w:=⟨_,rfl⟩
     rw [hw0]at hp1 hps0 hnew⊢
     obtain⟨v0,rfl⟩: ∃v0:Nat,w0=(v0:Int):=⟨w0.toNat,by omega⟩
     simp only [Int.toNat_natCast]at hp1 hps0 hnew
     have hv0:v0<inn.length:=by omega
     have hcg:=hA2.rg v0 hv0
     refine zL fun K hK=> ?_
     refine zj false zO zN ?_ rfl ?_
     ·kernel_rfl
     all_goals simp only [push_cast,↓zK,↓zJ,↓reduceIte,zA,zB,zC,zD,zE,zF,zG,zH,zI,reduceCtorEq]
     all_goals repeat'(first|(apply zP<;>(intro hg;(try simp only [push_cast]at hg)))|apply And.intro|(intro hg;(try simp only [push_cast]at hg)))
     all_goals first|exact gA|(exact zQ (by omega))|(rw [List.length_set];omega)|(simp only [List.length_set];omega)|skip
     all_goals first|(refine hK _ ?_;clear hK K)|(simp only [push_cast];done)
     all_goals refine zU rfl (fun hc=> ?_) (fun hc=> ?_)
     all_goals(first|(cases hc;done)|skip)
     all_goals(try simp only [push_cast]at hc)
     all_goals first
      |(
        refine zV ?_
        (try simp only [zR,zS,reduceIte,zF]);refine hK5 _ ?_
        refine zL fun K6 hK6=> ?_
        have hst:=PuI.step hx hA2 (v0:=v0) hv0 hqi2.1 hqi2.2.1 hqi2.2.2 (by with_reducible assumption) (by with_reducible assumption) (hed v0 u0 hv0) (by obtain⟨j9,a9,b9⟩:=hp1.2;exact⟨j9,a9,by rw [b9];omega⟩) hnew hps0
        refine zL fun K hK=> ?_
        refine zM zO zN [] rfl ?_
        all_goals simp only [push_cast,↓zK,↓zJ,↓reduceIte,zA,zB,zC,zD,zE,zF,zG,zH,zI,reduceCtorEq]
        all_goals repeat'(first|(apply zP<;>(intro hg;(try simp only [push_cast]at hg)))|apply And.intro|(intro hg;(try simp only [push_cast]at hg)))
        all_goals first|exact gA|(exact zQ (by omega))|(rw [List.length_set];omega)|(simp only [List.length_set];omega)|skip
        all_goals first|(refine hK _ ?_;clear hK K)|(simp only [push_cast];done)
        refine zU rfl (fun hc=> ?_) (fun hc=> ?_)<;>(try simp only [push_cast]at hc)
        ·
         refine zDr [16,49,67,68,69,70,71,72,73,74,75,76,77,78,79,80,81,82,83,84,85,86,87,88,89,90,91,92,93,94,95,96] [160] (fun(u9:Unit)=> [(10, .sl 160 [] 0 inn.length 3)]) (fun u9=> []) (fun u9=> [(160,⟨.ex,3,dI (lc.set v0 (vA x inn lc v0)),none⟩)]) (fun u9=>True) ?_ ?_
         ·
          intro K7 hK7
          have hst2:=hst.2 (by first|assumption|(simpa using hc))
          have hm1:=hst2.1
          have hdl:=jp hx (inn:=inn) hv0
          refine zL fun K hK=> ?_
          refine zM zO zN [] rfl ?_
          all_goals simp only [push_cast,↓zK,↓zJ,↓reduceIte,zA,zB,zC,zD,zE,zF,zG,zH,zI,reduceCtorEq]
          all_goals repeat'(first|(apply zP<;>(intro hg;(try simp only [push_cast]at hg)))|apply And.intro|(intro hg;(try simp only [push_cast]at hg)))
          all_goals first|exact gA|(exact zQ (by omega))|(rw [List.length_set];omega)|(simp only [List.length_set];omega)|skip
          all_goals first|(refine hK _ ?_;clear hK K)|(simp only [push_cast];done)
          refine zU rfl (fun hc=> ?_) (fun hc=> ?_)<;>(try simp only [push_cast]at hc)
          ·
           have hrl:=hx.deg v0 hv0
           refine zL fun K hK=> ?_
           refine zM zO zN [] rfl ?_
           all_goals simp only [push_cast,↓zK,↓zJ,↓reduceIte,zA,zB,zC,zD,zE,zF,zG,zH,zI,reduceCtorEq]
           all_goals repeat'(first|(apply zP<;>(intro hg;(try simp only [push_cast]at hg)))|apply And.intro|(intro hg;(try simp only [push_cast]at hg)))
           all_goals first|exact gA|(exact zQ (by omega))|(rw [List.length_set];omega)|(simp only [List.length_set];omega)|skip
           all_goals first|(refine hK _ ?_;clear hK K)|(simp only [push_cast];done)
           refine zW ?_
           refine zi [16,49,82,83,84,85,86,87,88,89,90,91,92,93,94,95,96] [160] (fun(j:Nat)=> [(82, .int .i64 j),(10, .sl 160 [] 0 inn.length 3)]) (fun j=> []) (fun j=> [(160,⟨.ex,3,dI (lc.set v0 (vB x inn v0 j)),none⟩)]) (fun j=>j≤(gl x.next v0).length) (fun j=>(gl x.next v0).length - j) 0 ?_ (by omega) ?_
           ·
            rw [show lc.set v0 (vB x inn v0 0)=lc from by rw [show vB x inn v0 0=gi lc v0 from by rw [show gi lc v0=0 by with_reducible assumption];rfl];exact zCX (by omega)]
            refine zY rfl ?_ ?_ ?_<;>simp only [zf,ze,push_cast,↓zK,↓zJ,↓reduceIte,zA,zB,zC,zD,zE,zF,zG,zH,zI,reduceCtorEq]
           ·rintro j hj KL2 hL2
            simp only [push_cast,↓zK,↓zJ,↓reduceIte,zA,zB,zC,zD,zE,zF,zG,zH,zI,reduceCtorEq]
            refine zL fun K hK=> ?_
            refine zM zO zN [] rfl ?_
            all_goals simp only [push_cast,↓zK,↓zJ,↓reduceIte,zA,zB,zC,zD,zE,zF,zG,zH,zI,reduceCtorEq]
            all_goals repeat'(first|(apply zP<;>(intro hg;(try simp only [push_cast]at hg)))|apply And.intro|(intro hg;(try simp only [push_cast]at hg)))
            all_goals first|exact gA|(exact zQ (by omega))|(rw [List.length_set];omega)|(simp only [List.length_set];omega)|skip
            all_goals first|(refine hK _ ?_;clear hK K)|(simp only [push_cast];done)
            refine zL fun K8 hK8=> ?_
            refine zU rfl (fun hc=> ?_) (fun hc=> ?_)<;>(try simp only [push_cast]at hc)
            ·
             refine zV ?_
             (try simp only [zR,zS,reduceIte,zF]);refine hK8 _ ?_
             refine zL fun K9 hK9=> ?_
             refine zW ?_
             have hto:=hx.to v0 hv0 j (by omega)
             have hdk:=Wv x inn v0 j
             have hsi:=zAy (c:=lc) (v:=v0) (y:=vB x inn v0 j) (by omega)
             refine zL fun K hK=> ?_
             refine zM zO zN [] rfl ?_
             all_goals simp only [push_cast,↓zK,↓zJ,↓reduceIte,zA,zB,zC,zD,zE,zF,zG,zH,zI,reduceCtorEq]
             all_goals repeat'(first|(apply zP<;>(intro hg;(try simp only [push_cast]at hg)))|apply And.intro|(intro hg;(try simp only [push_cast]at hg)))
             all_goals first|exact gA|(exact zQ (by omega))|(rw [List.length_set];omega)|(simp only [List.length_set];omega)|skip
             all_goals first|(refine hK _ ?_;clear hK K)|(simp only [push_cast];done)
             refine zL fun K hK=> ?_
             refine zM zO zN [] rfl ?_
             all_goals simp only [push_cast,↓zK,↓zJ,↓reduceIte,zA,zB,zC,zD,zE,zF,zG,zH,zI,reduceCtorEq]
             all_goals repeat'(first|(apply zP<;>(intro hg;(try simp only [push_cast]at hg)))|apply And.intro|(intro hg;(try simp only [push_cast]at hg)))
             all_goals first|exact gA|(exact zQ (by omega))|(rw [List.length_set];omega)|(simp only [List.length_set];omega)|skip
             all_goals first|(refine hK _ ?_;clear hK K)|(simp only [push_cast];done)
             refine zU rfl (fun hc=> ?_) (fun hc=> ?_)<;>(try simp only [push_cast]at hc)
             ·
              refine zM zO zN [] rfl ?_
              all_goals simp only [push_cast,↓zK,↓zJ,↓reduceIte,zA,zB,zC,zD,zE,zF,zG,zH,zI,reduceCtorEq]
              all_goals repeat'(first|(apply zP<;>(intro hg;(try simp only [push_cast]at hg)))|apply And.intro|(intro hg;(try simp only [push_cast]at hg)))
              all_goals first|exact gA|(exact zQ (by omega))|(rw [List.length_set];omega)|(simp only [List.length_set];omega)|skip
              (try simp only [zR,zS,reduceIte,zF]);refine hK9 _ ?_
              refine zM zO zN [] rfl ?_
              all_goals simp only [push_cast,↓zK,↓zJ,↓reduceIte,zA,zB,zC,zD,zE,zF,zG,zH,zI,reduceCtorEq]
              all_goals repeat'(first|(apply zP<;>(intro hg;(try simp only [push_cast]at hg)))|apply And.intro|(intro hg;(try simp only [push_cast]at hg)))
              all_goals first|exact gA|(exact zQ (by omega))|(rw [List.length_set];omega)|(simp only [List.length_set];omega)|skip
              refine hL2 _ ⟨j+1,by omega,by omega,?_⟩
              (try rw [hsi])
              (try rw [List.set_set])
              rw [KA (by with_reducible assumption) (hed v0 _ hv0)]
              refine zY rfl ?_ ?_ ?_<;>simp only [zf,ze,push_cast,↓zK,↓zJ,↓reduceIte,zA,zB,zC,zD,zE,zF,zG,zH,zI,reduceCtorEq]
             ·
              refine zV ?_
              (try simp only [zR,zS,reduceIte,zF]);refine hK9 _ ?_
              refine zM zO zN [] rfl ?_
              all_goals simp only [push_cast,↓zK,↓zJ,↓reduceIte,zA,zB,zC,zD,zE,zF,zG,zH,zI,reduceCtorEq]
              all_goals repeat'(first|(apply zP<;>(intro hg;(try simp only [push_cast]at hg)))|apply And.intro|(intro hg;(try simp only [push_cast]at hg)))
              all_goals first|exact gA|(exact zQ (by omega))|(rw [List.length_set];omega)|(simp only [List.length_set];omega)|skip
              refine hL2 _ ⟨j+1,by omega,by omega,?_⟩
              rw [Jz (by with_reducible assumption)]
              refine zY rfl ?_ ?_ ?_<;>simp only [zf,ze,push_cast,↓zK,↓zJ,↓reduceIte,zA,zB,zC,zD,zE,zF,zG,zH,zI,reduceCtorEq]
            ·
             refine zk ?_
             have hjj:j=(gl x.next v0).length:=by omega
             subst hjj
             (try rw [show vB x inn v0 (gl x.next v0).length=vU x inn v0 from rfl])
             (try simp only [zR,zS,reduceIte,zF])
             refine hK7 _ ⟨(),trivial,?_⟩
             rw [←zHQ (by with_reducible assumption)]
             refine zY rfl ?_ ?_ ?_<;>simp only [zf,ze,push_cast,↓zK,↓zJ,↓reduceIte,zA,zB,zC,zD,zE,zF,zG,zH,zI,reduceCtorEq]
          ·
           refine zV ?_
           (try simp only [zR,zS,reduceIte,zF])
           refine hK7 _ ⟨(),trivial,?_⟩
           rw [zI8 (by omega) (by with_reducible assumption)]
           refine zY rfl ?_ ?_ ?_<;>simp only [zf,ze,push_cast,↓zK,↓zJ,↓reduceIte,zA,zB,zC,zD,zE,zF,zG,zH,zI,reduceCtorEq]
         ·
          rintro u9 hj7
          have hst2:=hst.2 (by first|assumption|(simpa using hc))
          have hm1:=hst2.1
          have hdl:=jp hx (inn:=inn) hv0
          simp only [push_cast,↓zK,↓zJ,↓reduceIte,zA,zB,zC,zD,zE,zF,zG,zH,zI,reduceCtorEq]
          have hsm:=zAy (c:=lc) (v:=v0) (y:=vA x inn lc v0) (by omega)
          refine zL fun K hK=> ?_
          refine zM zO zN [] rfl ?_
          all_goals simp only [push_cast,↓zK,↓zJ,↓reduceIte,zA,zB,zC,zD,zE,zF,zG,zH,zI,reduceCtorEq]
          all_goals repeat'(first|(apply zP<;>(intro hg;(try simp only [push_cast]at hg)))|apply And.intro|(intro hg;(try simp only [push_cast]at hg)))
          all_goals first|exact gA|(exact zQ (by omega))|(rw [List.length_set];omega)|(simp only [List.length_set];omega)|skip
          all_goals first|(refine hK _ ?_;clear hK K)|(simp only [push_cast];done)
          (try rw [hsm])
          (try rw [List.set_set])
          have hsm2:=zAy (c:=lc) (v:=v0) (y:=vA x inn lc v0 - 1) (by omega)
          refine zL fun K hK=> ?_
          refine zM zO zN [] rfl ?_
          all_goals simp only [push_cast,↓zK,↓zJ,↓reduceIte,zA,zB,zC,zD,zE,zF,zG,zH,zI,reduceCtorEq]
          all_goals repeat'(first|(apply zP<;>(intro hg;(try simp only [push_cast]at hg)))|apply And.intro|(intro hg;(try simp only [push_cast]at hg)))
          all_goals first|exact gA|(exact zQ (by omega))|(rw [List.length_set];omega)|(simp only [List.length_set];omega)|skip
          all_goals first|(refine hK _ ?_;clear hK K)|(simp only [push_cast];done)
          refine zU rfl (fun hc=> ?_) (fun hc=> ?_)<;>(try simp only [push_cast]at hc)
          ·
           refine zk ?_
           (try simp only [zR,zS,reduceIte,zF]);refine hK4 _ ?_
           refine zM zO zN [] rfl ?_
           all_goals simp only [push_cast,↓zK,↓zJ,↓reduceIte,zA,zB,zC,zD,zE,zF,zG,zH,zI,reduceCtorEq]
           all_goals repeat'(first|(apply zP<;>(intro hg;(try simp only [push_cast]at hg)))|apply And.intro|(intro hg;(try simp only [push_cast]at hg)))
           all_goals first|exact gA|(exact zQ (by omega))|(rw [List.length_set];omega)|(simp only [List.length_set];omega)|skip
           refine hL1 _ ⟨(k+1,Q,out,lc.set v0 (vA x inn lc v0 - 1),Lf.set v0 (gi Lf v0 - 1),qd,o),⟨by dsimp only;omega,hst2.2.1 (by omega),hq3,by dsimp only;first|exact hq2|(rw [List.take_append_of_le_length (by omega)];exact hq2),by dsimp only;first|exact hu2|(rw [WL hil];exact hu2),by dsimp only;first|exact hil|(rw [List.length_append];omega)⟩,by dsimp only;omega,?_⟩
           skip
           refine zY rfl ?_ ?_ ?_<;>simp only [zf,ze,push_cast,↓zK,↓zJ,↓reduceIte,zA,zB,zC,zD,zE,zF,zG,zH,zI,reduceCtorEq]
           all_goals first|rfl|(rw [Wr];done)|(simp [dI];done)|skip
          ·
           refine zV ?_
           (try simp only [zR,zS,reduceIte,zF]);refine hK6 _ ?_
           refine zL fun K hK=> ?_
           refine zM zO zN [] rfl ?_
           all_goals simp only [push_cast,↓zK,↓zJ,↓reduceIte,zA,zB,zC,zD,zE,zF,zG,zH,zI,reduceCtorEq]
           all_goals repeat'(first|(apply zP<;>(intro hg;(try simp only [push_cast]at hg)))|apply And.intro|(intro hg;(try simp only [push_cast]at hg)))
           all_goals first|exact gA|(exact zQ (by omega))|(rw [List.length_set];omega)|(simp only [List.length_set];omega)|skip
           all_goals first|(refine hK _ ?_;clear hK K)|(simp only [push_cast];done)
           refine XB (UY tyT) (Ki zO) (some 114) zO zN [] rfl ?_
           simp only [push_cast,↓zK,↓zJ,↓reduceIte,zA,zB,zC,zD,zE,zF,zG,zH,zI,reduceCtorEq]
           repeat'(first|apply And.intro|(intro pre hpre))
           all_goals first|exact True.intro|exact rfl|omega|with_reducible assumption|(simp only [QX];omega)|(decide)|skip
           obtain⟨ps,hps,rfl⟩:=zEb hpre
           clear hpre
           simp only [push_cast,↓zK,↓zJ,↓reduceIte,zA,zB,zC,zD,zE,zF,zG,zH,zI,reduceCtorEq]
           all_goals repeat'(first|apply And.intro)
           all_goals first|exact True.intro|exact rfl|omega|skip
           (try simp only [zR,zS,reduceIte,zF]);refine hK4 _ ?_
           refine zM zO zN [] rfl ?_
           all_goals simp only [push_cast,↓zK,↓zJ,↓reduceIte,zA,zB,zC,zD,zE,zF,zG,zH,zI,reduceCtorEq]
           all_goals repeat'(first|(apply zP<;>(intro hg;(try simp only [push_cast]at hg)))|apply And.intro|(intro hg;(try simp only [push_cast]at hg)))
           all_goals first|exact gA|(exact zQ (by omega))|(rw [List.length_set];omega)|(simp only [List.length_set];omega)|skip
           refine hL1 _ ⟨(k+1,Q++ [(v0:Int)],out.set v0 true,lc.set v0 (vA x inn lc v0 - 1),Lf.set v0 (gi Lf v0 - 1),ps++(qd.drop o++ [(v0:Int)]),ps.length),⟨by dsimp only;omega,hst2.2.2 (by omega),hq3.push _ hps,by dsimp only;first|exact hq2|(rw [List.take_append_of_le_length (by omega)];exact hq2),by dsimp only;first|exact hu2|(rw [WL hil];exact hu2),by dsimp only;first|exact hil|(rw [List.length_append];omega)⟩,by dsimp only;omega,?_⟩
           rw [show(Q++ [(v0:Int)]).length - (i+1)=Q.length - (i+1)+1 from by rw [List.length_append,List.length_singleton];omega]
           refine zY rfl ?_ ?_ ?_<;>simp only [zf,ze,push_cast,↓zK,↓zJ,↓reduceIte,zA,zB,zC,zD,zE,zF,zG,zH,zI,reduceCtorEq]
           all_goals first|rfl|(rw [Wr];done)|(simp [dI];done)|skip
        ·
         refine zV ?_
         (try simp only [zR,zS,reduceIte,zF]);refine hK6 _ ?_
         refine zL fun K hK=> ?_
         refine zM zO zN [] rfl ?_
         all_goals simp only [push_cast,↓zK,↓zJ,↓reduceIte,zA,zB,zC,zD,zE,zF,zG,zH,zI,reduceCtorEq]
         all_goals repeat'(first|(apply zP<;>(intro hg;(try simp only [push_cast]at hg)))|apply And.intro|(intro hg;(try simp only [push_cast]at hg)))
         all_goals first|exact gA|(exact zQ (by omega))|(rw [List.length_set];omega)|(simp only [List.length_set];omega)|skip
         all_goals first|(refine hK _ ?_;clear hK K)|(simp only [push_cast];done)
         refine XB (UY tyT) (Ki zO) (some 114) zO zN [] rfl ?_
         simp only [push_cast,↓zK,↓zJ,↓reduceIte,zA,zB,zC,zD,zE,zF,zG,zH,zI,reduceCtorEq]
         repeat'(first|apply And.intro|(intro pre hpre))
         all_goals first|exact True.intro|exact rfl|omega|with_reducible assumption|(simp only [QX];omega)|(decide)|skip
         obtain⟨ps,hps,rfl⟩:=zEb hpre
         clear hpre
         simp only [push_cast,↓zK,↓zJ,↓reduceIte,zA,zB,zC,zD,zE,zF,zG,zH,zI,reduceCtorEq]
         all_goals repeat'(first|apply And.intro)
         all_goals first|exact True.intro|exact rfl|omega|skip
         (try simp only [zR,zS,reduceIte,zF]);refine hK4 _ ?_
         refine zM zO zN [] rfl ?_
         all_goals simp only [push_cast,↓zK,↓zJ,↓reduceIte,zA,zB,zC,zD,zE,zF,zG,zH,zI,reduceCtorEq]
         all_goals repeat'(first|(apply zP<;>(intro hg;(try simp only [push_cast]at hg)))|apply And.intro|(intro hg;(try simp only [push_cast]at hg)))
         all_goals first|exact gA|(exact zQ (by omega))|(rw [List.length_set];omega)|(simp only [List.length_set];omega)|skip
         refine hL1 _ ⟨(k+1,Q++ [(v0:Int)],out.set v0 true,lc,Lf.set v0 (gi Lf v0 - 1),ps++(qd.drop o++ [(v0:Int)]),ps.length),⟨by dsimp only;omega,hst.1 (by first|assumption|omega|(simpa using hc)),hq3.push _ hps,by dsimp only;first|exact hq2|(rw [List.take_append_of_le_length (by omega)];exact hq2),by dsimp only;first|exact hu2|(rw [WL hil];exact hu2),by dsimp only;first|exact hil|(rw [List.length_append];omega)⟩,by dsimp only;omega,?_⟩
         rw [show(Q++ [(v0:Int)]).length - (i+1)=Q.length - (i+1)+1 from by rw [List.length_append,List.length_singleton];omega]
         refine zY rfl ?_ ?_ ?_<;>simp only [zf,ze,push_cast,↓zK,↓zJ,↓reduceIte,zA,zB,zC,zD,zE,zF,zG,zH,zI,reduceCtorEq]
         all_goals first|rfl|(rw [Wr];done)|(simp [dI];done)|skip
        done)
      |(
        refine zk ?_
        (try simp only [zR,zS,reduceIte,zF]);refine hK4 _ ?_
        refine zM zO zN [] rfl ?_
        all_goals simp only [push_cast,↓zK,↓zJ,↓reduceIte,zA,zB,zC,zD,zE,zF,zG,zH,zI,reduceCtorEq]
        all_goals repeat'(first|(apply zP<;>(intro hg;(try simp only [push_cast]at hg)))|apply And.intro|(intro hg;(try simp only [push_cast]at hg)))
        all_goals first|exact gA|(exact zQ (by omega))|(rw [List.length_set];omega)|(simp only [List.length_set];omega)|skip
        refine hL1 _ ⟨(k+1,Q,out,lc,Lf,qd,o),⟨by dsimp only;omega,hA2.skip (v0:=v0) hv0 hqi2.2.1 (by first|exact .inl (by with_reducible assumption)|exact .inr (.inl (by with_reducible assumption))) hps0,hq3,by dsimp only;first|exact hq2|(rw [List.take_append_of_le_length (by omega)];exact hq2),by dsimp only;first|exact hu2|(rw [WL hil];exact hu2),by dsimp only;first|exact hil|(rw [List.length_append];omega)⟩,by dsimp only;omega,?_⟩
        skip
        refine zY rfl ?_ ?_ ?_<;>simp only [zf,ze,push_cast,↓zK,↓zJ,↓reduceIte,zA,zB,zC,zD,zE,zF,zG,zH,zI,reduceCtorEq]
        all_goals first|rfl|(rw [Wr];done)|(simp [dI];done)|skip
        done)
    ·
     refine zk ?_
     refine hL0 _ ⟨(i+1,Q,out,lc,Lf,qd,o),⟨by dsimp only;omega,hA2.cong (zDb hx hil hq2 hu2 (by omega) hA2.at_),hq3⟩,by dsimp only;omega,?_⟩
     refine zY rfl ?_ ?_ ?_<;>simp only [zf,ze,push_cast,↓zK,↓zJ,↓reduceIte,zA,zB,zC,zD,zE,zF,zG,zH,zI,reduceCtorEq]
  ·
   refine zk ?_
   have hie:i=Q.length:=by omega
   subst hie
   have hfin:=AtI.end' hx hA.at_
   rw [hR]at hfin
   (try simp only [zR,zS,reduceIte,zF]);refine hK1 _ ?_
   refine zL fun K hK=> ?_
   refine zM zO zN [] rfl ?_
   all_goals simp only [push_cast,↓zK,↓zJ,↓reduceIte,zA,zB,zC,zD,zE,zF,zG,zH,zI,reduceCtorEq]
   all_goals repeat'(first|(apply zP<;>(intro hg;(try simp only [push_cast]at hg)))|apply And.intro|(intro hg;(try simp only [push_cast]at hg)))
   all_goals first|exact gA|(exact zQ (by omega))|(rw [List.length_set];omega)|(simp only [List.length_set];omega)|skip
   all_goals first|(refine hK _ ?_;clear hK K)|(simp only [push_cast];done)
   refine zX ?_
   (try simp only [zR,zS])
   refine⟨Or.inl rfl,?_⟩
   simp only [Qq,zd,vL,yE,yj,push_cast,↓zK,↓zJ,↓reduceIte,zA,zB,zC,zD,zE,zF,zG,zH,zI,reduceCtorEq]
   (try rw [hfin])
   all_goals first|rfl|exact⟨rfl,hatl⟩|exact⟨rfl,hatl.symm⟩|(simp_all;done)|skip
section
variable {P:Program} {τ:Ty} {lo:Nat} {w0:Fz} {ow:Nat→Option Pl} {hd:Nat→Value} {bk:Nat→Nat} {st:St} {a:Act} {w:World}
def FnA (P:Program)(τ:Ty)(f:FuncId)(d:D):Prop:=
 qy P f∧∀(w:World) (g v:Value),Rp (sz τ) 0 w (fun _=>none) .sh d v→Calls P f #[g,v] w fun e w'=>e= .returned (.tuple #[v, .int .i64 0])∧Below w.heap.size w w'
def Kj (P:Program)(τ:Ty)(o:Oper)(K:St→Prop)(st:St):Prop:=
 match zz o with
 |some (f,args,ts)=>
  match args.toList with
  | [X,Y]=>
   match cellsOf τ st (ev st Y)with
   |some (d,ob)=>ob∧FnA P τ f d∧K (st.put o.dst (.tup [ev st Y, .int .i64 0]))
   |none=>False
  |_=>False
 |none=>False
theorem UZ :Kh P τ (Kj P τ):=by
 intro lo w0 st a w o K Q K' hd9 h ha hK
 obtain⟨ow,hd,bk,hr⟩:=h
 unfold Kj at ha
 split at ha
 rotate_left
 ·exact ha.elim
 rename_i f args ts hc
 split at ha
 rotate_left
 ·exact ha.elim
 rename_i X Y hXY
 split at ha
 rotate_left
 ·exact ha.elim
 rename_i d ob hcell
 obtain⟨hob,⟨hcl,hcall⟩,hK1⟩:=ha
 have hv:=zg hr Y
 have hrp:=wP hr (ow':=fun _=>none) (fun _ _ _ _ _ _ _=>rfl) hv hcell hob 0
 have hC:=hcall w (a.eval X) _ hrp
 unfold Oper.wp
 rw [Qz hr hc hcl,hXY]
 simp only [Oper.upon]
 refine hC.mono fun e' w' hpost=> ?_
 obtain⟨he,hbl⟩:=hpost
 subst he
 have hgrow:=XM hr (w':=w') (ow':=ow) hbl.size (fun b hb=>⟨hbl.block b hb,rfl⟩) (hr.below.below hbl) (fun b p hle hp hne=>by rw [hr.new b hle]at hp;cases hp) (fun b hle=>hr.new b (by have :=hbl.size;omega))
 refine hK _ _ w' hK1 (xM hgrow hd9 ?_)
 simp only [AvR]
 refine⟨[a.eval Y, .int .i64 0],rfl,?_⟩
 simp only [za]
 exact⟨_,_,rfl,zg hgrow Y,_,_,rfl,by simp only [AvR],rfl⟩
def YE (τ:Ty)(n:Nat)(e:TypeId)(xs:List D):St:={n:=n,s:= [(1, .sl 16 [] 0 (xs.length / sz τ e) e),(0, .dead)],b:= [],r:= [(16,⟨.sh,e,xs,some 16⟩)]}
def RetA (e:TypeId)(xs:List D)(τ:Ty)(rs:List ResultVar)(ex:Exit)(st:St):Prop:=(ex= .ret∨ex= .normal)∧
 match yE τ st rs with
 |some ([.sl d [] 0 m e', .int .i64 0],ob)=>ob∧(match lk st.r d with|some R=>R.pin=some 16∧R.e=e'∧R.xs.length=m*sz τ e'∧sz τ e'≠0|none=>False)
 |_=>False
theorem Uf {n:Nat}{e:TypeId}{xs:List D}{g v:Value}(hn:2≤n)(hz:sz τ e≠0)(hv:Rp (sz τ) 0 w (fun _=>none) .sh (.lst e xs) v):
  zh τ w.heap.size ⟨w,fun _=>True,fun id=>if id=16 then some v else none⟩ (fun _=>none) (fun _=>v) (fun _=>0) (YE τ n e xs) {tmps:= #[g,v]++Array.replicate (n - #[g,v].size) undef,defers:= []} w:=by
 obtain⟨vs,⟨k1,N,k2,A,c,k3,k4,k5,k6⟩,k7⟩:=(zt _ _).1 hv
 have hN:xs.length / sz τ e=N:=by rw [k2];exact Nat.mul_div_cancel _ (Nat.pos_of_ne_zero hz)
 refine⟨fun ad h=> ?_,rfl,?_,Nat.le_refl _,⟨rfl,rfl,rfl,Nat.le_refl _,fun b hb _=>rfl⟩,fun b p hb h=>(by cases h),fun b hb=>rfl,fun k u hk=> ?_,fun d R hd=> ?_,fun t us ht=> ?_,fun d R i hd hp=> ?_⟩
 ·simp at h
 ·simp [YE];omega
 ·simp only [YE,zc,yi]at hk
  split at hk
  ·rename_i e1
   cases hk
   subst e1
   have h1:(#[g,v]++Array.replicate (n - #[g,v].size) undef).getD 1 undef=v:=by
    rw [Array.getD_eq_getD_getElem?,Array.getElem?_append_left (by simp)]
    rfl
   show AvR _ _ _ _ _ _ _ ((#[g,v]++Array.replicate (n - #[g,v].size) undef).getD 1 undef)
   rw [h1]
   simp only [AvR]
   refine⟨⟨A,N,c,k3⟩,fun R hR hp=>⟨v,by simp only [yA],A,N,c,A,c,nw0,k3,by rw [hN];exact k3,by omega,by omega,k5,fun _=>⟨rfl,rfl⟩,fun hne=> ?_⟩⟩
   obtain⟨b,o,e1,-⟩:=k6 (by omega)
   exact⟨b,o,e1,by rw [Nat.zero_mul];exact e1⟩
  ·split at hk
   ·cases hk;simp only [AvR]
   ·cases hk
 ·simp only [YE,zc,yi]at hd
  split at hd
  ·rename_i e1
   cases hd
   exact ul hv
  ·cases hd
 ·simp only [YE,yi]at ht;cases ht
 ·simp only [YE,zc,yi]at hd
  split at hd
  ·cases hd;cases hp;simp
  ·cases hd
theorem zIZ (hτ:zv P τ)(hpos:yO τ){f:FuncId}{fn:Func}{c:Code}{rs:List ResultVar}{e:TypeId}{xs:List D}(hfn:P.funcs[f]? =some fn)(hname:(fn.name== "runtime.NumGoroutine")=false)(hb:fn.body=some c)(hres:fn.results=rs.toArray)(hn:2≤fn.ntmps)(hz:sz τ e≠0)
  (h:awp P τ c (RetA e xs τ rs) (YE τ fn.ntmps e xs)):FnA P τ f (.lst e xs):=by
 refine⟨⟨fn,hfn,hname,by rw [hb];rfl⟩,fun w g v hv=> ?_⟩
 have hst0:=Uf (g:=g) hn hz hv
 refine calls_of_wp hfn hb (Go.wp_mono (h _ _ _ w ⟨_,_,_,hst0⟩) fun ex a' w' ⟨st',⟨ow,hd,bk,hr⟩,he,hret0⟩=> ?_)
 have hpost:a'.defers= []∧∃z,(results fn a'.tmps).run P w'= .ok z w'∧((Ending.returned z)= .returned (.tuple #[v, .int .i64 0])∧Below w.heap.size w w'):=by
  split at hret0
  rotate_left
  ·exact hret0.elim
  rename_i d m e' ob hrv
  obtain⟨hob,hR0⟩:=hret0
  cases hR:lk st'.r d with
  |none=>rw [hR]at hR0;exact hR0.elim
  |some R=>
   rw [hR]at hR0
   obtain⟨hp,hRe,hlen,hz'⟩:=hR0
   obtain⟨zs,hrun,hvs⟩:=qX hτ hpos hr hres hrv hob
   simp only [za,AvR]at hvs
   obtain⟨x0,l0,rfl,⟨-,hx0⟩,x1,l1,rfl,rfl,rfl⟩:=hvs
   obtain⟨hv9,hin,hsub⟩:=hx0 R hR (by simp only [zl])
   simp only [yA,Option.some.injEq]at hin
   subst hin
   have hpin:=hr.pin d R 16 hR hp
   simp only [if_true,Option.some.injEq]at hpin
   obtain⟨A,n,c1,A',c',hnw,hhd,hval,hle2,hlc,hmx,hf0,hA⟩:=hsub
   obtain⟨rfl,rfl⟩:=hf0 rfl
   obtain⟨A3,n3,c3,e3,l3,-⟩:=yz (hr.root _ R hR)
   rw [hhd]at e3
   cases e3
   rw [hRe]at l3
   have hnm:n=m:=Nat.eq_of_mul_eq_mul_right (Nat.pos_of_ne_zero hz') (by rw [←l3,hlen])
   subst hnm
   refine⟨hr.defers,_,hrun,?_,⟨hr.below.os,hr.below.tape,hr.below.output,hr.below.size,fun b hb=>hr.below.block b hb trivial⟩⟩
   rw [hval,←hhd,←hpin]
   rfl
 rcases he with rfl|rfl<;>exact hpost
end
attribute [push_cast] Kj YE RetA
def dU (xs:List Int):List D:=xs.map (.int .u8)
theorem zJS (xs:List Int):(dU xs).length=xs.length:=by simp [dU]
theorem zHd (xs:List Int)(i:Nat):XD (dU xs) i=gi xs i:=by
 unfold XD dU gi
 rw [List.getElem?_map,List.getD_eq_getElem?_getD]
 cases xs[i]? <;>rfl
theorem zG1 (xs:List Int)(i:Nat):xW (.int .u8) (dU xs) i=(i<xs.length):=by
 unfold xW dU
 rw [List.getElem?_map]
 apply propext
 constructor
 ·rintro⟨n,h⟩
  cases hx:xs[i]? with
  |none=>rw [hx]at h;cases h
  |some y=>exact(List.getElem?_eq_some_iff.1 hx).1
 ·intro h
  rw [List.getElem?_eq_getElem h]
  exact⟨_,rfl⟩
theorem zIO (xs:List Int)(n:Nat):(dU xs).take n=dU (xs.take n):=by simp [dU]
theorem zHS (xs:List Int)(n:Nat):(dU xs).drop n=dU (xs.drop n):=by simp [dU]
theorem zIQ :Int.toNat 33=33:=rfl
theorem zHt :min 33 64=33:=rfl
theorem zHC (n:Int):arC .i64 n=(.int .i64 n,jD n):=rfl
attribute [push_cast] zIQ zHt zHC zJS zHd zG1 zIO zHS
section
variable {P:Program} {τ:Ty} {lo:Nat} {w0:Fz} {ow:Nat→Option Pl} {hd:Nat→Value} {bk:Nat→Nat} {st:St} {a:Act} {w:World}
end
theorem rm_kv {α:Type}(f:Nat→Bool)(k:Nat)(v:α)(l:List (Nat×α)):rm f ((k,v)::l)=if f k=true then rm f l else(k,v)::rm f l:=by
 unfold rm
 rw [List.filter_cons]
 cases f k<;>rfl
theorem rm_nl {α:Type}(f:Nat→Bool):rm f ([]:List (Nat×α))= []:=rfl
attribute [push_cast] rm_kv rm_nl
attribute [-push_cast] rm
theorem zF2 (n:Nat):(1:Int)+(n:Int)=(n:Int)+1:=Int.add_comm _ _
attribute [push_cast] zF2 Int.sub_zero
end Go.Proofs.Ythepmdkpbjfdcaa
