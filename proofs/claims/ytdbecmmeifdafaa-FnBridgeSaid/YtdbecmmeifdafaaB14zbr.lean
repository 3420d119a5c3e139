/- The edges that there are by a plan: rows that are the arena's own, rows that are new. -/
import Derived.Test.YtdbecmmeifdafaaB13zbr
import Derived.Test.YtdbecmmeifdafaaGWzbr
import Derived.Maps.AppendAt
import Derived.Test.YtdbecmmeifdafaaB11zbr
import Derived.Test.YtdbecmmeifdafaaB7zbr
namespace Go.Proofs.Ytdbecmmeifdafaa
open Go.RowKit
set_option linter.unusedVariables false
set_option linter.unusedSimpArgs false
def WR (a:Ar)(plan:List Int)(v:Nat):List Int:=if 0≤gi plan v then [gi plan v]else gl a.next v
def vI (a:Ar)(plan:List Int):List (List Int):=(List.range a.next.length).map (WR a plan)
theorem XO (a:Ar)(plan:List Int):(vI a plan).length=a.next.length:=by simp [vI]
theorem JL {a:Ar}{plan:List Int}{v:Nat}(h:v<a.next.length):gl (vI a plan) v=WR a plan v:=by
 unfold gl vI
 rw [List.getD_eq_getElem?_getD,List.getElem?_map,List.getElem?_range h]
 rfl
def Ye (N:Nat)(w:World)(plan:List Int)(nx:Nat→Value)(k:Nat)(u:Value):Prop:=
 if 0≤gi plan k then∃g,N≤g∧u= .slice (some ⟨g,0,none⟩) 1 1∧w.heap[g]? =some (.cells #[.int .i64 (gi plan k)] 2 (0,0))else u=nx k
structure Zo (N:Nat)(w:World)(plan:List Int)(nx:Nat→Value)(k:Nat)(v:Value):Prop where
 own: ∃vals,w.ownsRow N 27 1 v k vals∧∀j u,vals[j]? =some u→Ye N w plan nx j u
theorem Zo.form {N k:Nat}{w:World}{plan:List Int}{nx:Nat→Value}{v:Value}(h:Zo N w plan nx k v): ∃A c,v= .slice A k c:=by
 obtain⟨vals,h,-⟩:=h.own
 rcases h.2 with⟨rfl,rfl⟩|⟨g,cap,cur,rfl,_⟩
 ·exact⟨none,0,rfl⟩
 ·exact⟨_,_,rfl⟩
theorem kq {N k:Nat}{w w':World}{plan:List Int}{nx:Nat→Value}{u:Value}(h:Ye N w plan nx k u)(hk: ∀(g:Nat) (x:Int),w.heap[g]? =some (.cells #[.int .i64 x] 2 (0,0))→w'.heap[g]? =w.heap[g]?):Ye N w' plan nx k u:=by
 unfold Ye at h⊢
 split at h
 ·rename_i h1
  rw [if_pos h1]
  obtain⟨g,h2,h3,h4⟩:=h
  exact⟨g,h2,h3,by rw [hk g _ h4];exact h4⟩
 ·rename_i h1
  rw [if_neg h1]
  exact h
theorem zFN {w w':World}{N e size n:Nat}{v:Value}{xs:List Value}(h:w.ownsRow N e size v n xs)(hb: ∀b,v.ownBlock=some b→w'.heap[b]? =w.heap[b]?):w'.ownsRow N e size v n xs:=by
 refine⟨h.1,?_⟩
 rcases h.2 with⟨hv,h0⟩|⟨g,cap,cur,hv,h1,hg,rest⟩
 ·exact .inl ⟨hv,h0⟩
 ·exact .inr ⟨g,cap,cur,hv,h1,by rw [hb g (by rw [hv];rfl)];exact hg,rest⟩
theorem Zo.below {N k:Nat}{w w':World}{plan:List Int}{nx:Nat→Value}{v:Value}(h:Zo N w plan nx k v)(hb:Below w.heap.size w w'):Zo N w' plan nx k v:=by
 obtain⟨vals,h1,h2⟩:=h.own
 exact⟨vals,zFN h1 fun b e=>hb.block b (h1.lt b e).2,fun j u hu=>kq (h2 j u hu) fun g x hg=>hb.block g (Array.getElem?_eq_some_iff.1 hg).1⟩
theorem ke {N k c g:Nat}{w:World}{plan:List Int}{nx:Nat→Value}{A:Option Addr}{u:Value}(h:Zo N w plan nx k (.slice A k c))(hu:Ye N w plan nx k u)(hu1:u.oneCell'=true)(hcell:w.cell? ⟨g,0,none⟩=some u)(hmx:k≤1048576)(hlo:N≤w.heap.size)(ty:TypeId):
  ∃A' c' w',(Builtin.append_ #[28,28] ty #[.slice A k c, .slice (some ⟨g,0,none⟩) 1 1]).run Try.prog w= .ok (.slice A' (k+1) c') w'∧Zo N w' plan nx (k+1) (.slice A' (k+1) c')∧Below N w w'∧(∀b,b<w.heap.size→(Value.slice A k c).ownBlock≠some b→w'.heap[b]? =w.heap[b]?):=by
 obtain⟨vals,h1,h2⟩:=h.own
 have hu0:=(yN (P:=Try.prog) zP (show tk tyT 28=some (.sc (.sl 27),24)from rfl)).1
 obtain⟨_,i,a1,a2,a3,a4,a5⟩:=yN (P:=Try.prog) zP (show tk tyT 27=some (.sc (.sl 2),24)from rfl)
 obtain⟨v',w',r1,r2,r3,-,r5⟩:=run_append_own_at (P:=Try.prog) w N 28 ty 27 i _ 1 24 hu0 a1 a3 a2 a4 rfl (by decide) (.slice A k c) k vals h1 ⟨g,0,none⟩ 1 1 [u] rfl (fun j x hj=>by
   match j,hj with
   |0,hj=>simp at hj;subst hj;simpa [Addr.add]using hcell) (by intro x hx;simp at hx;subst hx;exact hu1) (by unfold maxLen;omega) (by omega) hlo
 have hrows: ∀j x,(vals++ [u])[j]? =some x→Ye N w' plan nx j x:=fun j x hx=>by
  have hold: ∀y,Ye N w plan nx j y→Ye N w' plan nx j y:=fun y hy=>kq hy fun b z hb=>by
   refine r3.block b (Array.getElem?_eq_some_iff.1 hb).1 fun e=> ?_
   rcases h1.2 with⟨hv,h0⟩|⟨g2,cap,cur,hv,_,hg2,_⟩
   ·rw [hv]at e;simp [Value.ownBlock]at e
   ·rw [hv]at e
    simp [Value.ownBlock]at e
    subst e
    rw [hb]at hg2
    simp at hg2
  have hl:vals.length=k:=by have :=h1.1;omega
  rcases Nat.lt_or_ge j k with hj|hj
  ·rw [List.getElem?_append_left (by omega)]at hx
   exact hold _ (h2 j x hx)
  ·rw [List.getElem?_append_right (by omega)]at hx
   have :j=k:=by
    rcases Nat.lt_or_ge k j with h'|h'
    ·rw [List.getElem?_eq_none (by simp;omega)]at hx;cases hx
    ·omega
   subst this
   rw [hl,Nat.sub_self]at hx
   cases hx
   exact hold _ hu
 have ho:Zo N w' plan nx (k+1) v':=⟨_,r2,hrows⟩
 obtain⟨A',c',rfl⟩:=ho.form
 exact⟨A',c',w',r1,ho,(Below.refl _ _).grown r3 hlo (fun b hb=>(h1.lt b hb).1),fun b hb hne=>r3.block b hb (fun e=>hne e.symm)⟩
theorem Yf {N k c g:Nat}{w:World}{plan:List Int}{nx:Nat→Value}{A:Option Addr}{u:Value}{ops:Array Oper}{o:Oper}{a:Act}{Q:Exit→Act→World→Prop}{s x:Operand}{rest:List Oper}(hgd:o.guard=none)(h:Zo N w plan nx k (.slice A k c))(hu:Ye N w plan nx k u)(hu1:u.oneCell'=true)(hcell:w.cell? ⟨g,0,none⟩=some u)(hmx:k≤1048576)(hlo:N≤w.heap.size)
  (hop:o.op= .call {callee:= .builtin .append,args:= #[s,x],argTypes:= #[28,28]}) (es:a.eval s= .slice A k c) (ex:a.eval x= .slice (some ⟨g,0,none⟩) 1 1)
  (hK: ∀A' c' w',Zo N w' plan nx (k+1) (.slice A' (k+1) c')→Below N w w'→(∀b,b<w.heap.size→(Value.slice A k c).ownBlock≠some b→w'.heap[b]? =w.heap[b]?)→wpList Try.prog ops Q rest (a.put o.dst (.slice A' (k+1) c')) w'):wpList Try.prog ops Q (o::rest) a w:=
 wpList_plain hgd fun _ hK2=>by
  obtain⟨A',c',w',hr,h2,h3,h4⟩:=ke h hu hu1 hcell hmx hlo o.type
  unfold Oper.wp execOp
  simp only [hop,resolve,invoke,builtin,Sem.run_bind,Sem.run_pure,Result.andThen_ok,List.map_toArray,List.map_cons,List.map_nil,es,ex,hr]
  exact hK2 _ _ (hK A' c' w' h2 h3 h4)
theorem zJo {N k c:Nat}{w:World}{plan:List Int}{nx:Nat→Value}{A:Option Addr}(h:Zo N w plan nx k (.slice A k c)){b:Nat}{cs:Array Value}{ty:TypeId}(hb:w.heap[b]? =some (.cells cs ty (0,0)))(hty:ty≠27):(Value.slice A k c).ownBlock≠some b:=by
 obtain⟨vals,h1,-⟩:=h.own
 intro e
 rcases h1.2 with⟨hv,h0⟩|⟨g2,cap,cur,hv,_,hg2,_⟩
 ·rw [hv]at e;simp [Value.ownBlock]at e
 ·rw [hv]at e
  simp [Value.ownBlock]at e
  subst e
  rw [hb]at hg2
  simp at hg2
  exact hty hg2.2
theorem UC {w:World}{g:Nat}(x:Value)(ty:TypeId)(hg:w.heap.size=g):(w.alloc (.cells #[x] ty)).cell? ⟨g,0,none⟩=some x:=by
 subst hg
 have :=cell_one_new w x ty 0 x rfl
 simp only [Addr.add,Nat.add_zero]at this
 exact this
theorem zCh (w:World)(o1 o2:Obj):((w.alloc o1).alloc o2).heap[w.heap.size]? =some o1:=by
 rw [Below.heap_alloc (w.alloc o1) o2 w.heap.size (by simp),heap_alloc_new]
set_option maxHeartbeats 1000000 in
theorem zBP {w:World}{n:Nat}(hn:1≤n∧n≤256){O:Value}{b2 o2 c2 b3 o3 c3:Nat}{plan:List Int}{nx:Nat→Value}(hb2:b2<w.heap.size)(hc2: ∀k,k<n→w.cell? ⟨b2,o2+k,none⟩=some (nx k))(hnx: ∀k,k<n→∃A' n' c',nx k= .slice A' n' c')
  (hb3:b3<w.heap.size) (hc3: ∀k,k<n→w.cell? ⟨b3,o3+k,none⟩=some (.int .i64 (gi plan k))):
  Calls Try.prog 152 #[.agg #[O, .slice (some ⟨b2,o2,none⟩) n c2], .slice (some ⟨b3,o3,none⟩) n c3] w fun e w'=> ∃A c,e= .returned (.slice A n c)∧Zo w.heap.size w' plan nx n (.slice A n c)∧Below w.heap.size w w':=by
 obtain⟨hn1,hn2⟩:=hn
 go_enter Try.func152,Try.ntmps152
 go_wp2_with fail
 go_loopw [5,6] (fun o i wr=> ∃(k:Nat) (A:Option Addr) (c:Nat),k≤n∧i= .int .i64 k∧o= .slice A k c∧Zo w.heap.size wr plan nx k (.slice A k c)∧Below w.heap.size w wr∧wr.heap[w.heap.size]? =some (.cells #[O, .slice (some ⟨b2,o2,none⟩) n c2] 30 (0,0))) (fun _ i _=>n - (intOf i).toNat)
 case atStart=>
  refine⟨0,some ⟨w.heap.size+1,0,none⟩,0,by omega,rfl,rfl,?_,by repeat(first|(with_reducible exact Below.refl _ _)|(with_reducible assumption)|(with_reducible refine Below.drew ?_)|(with_reducible refine wm ?_ _)|((with_reducible refine Below.setCell ?_ ?_ _);rotate_left;(focus first|omega|(simp;done)|(simp;omega)))|((with_reducible refine Below.alloc ?_ ?_ _);rotate_left;(focus first|omega|(simp;done)|(simp;omega)))|(refine Below.trans ?_ (Below.mono (by assumption) (by first|omega|(simp;done)|(simp;omega))))),?_⟩
  ·refine⟨[],?_,fun j u hu=>by simp at hu⟩
   have :=World.ownsRow_lit (base:=w.heap.size) (e:=27) (size:=1) (w.alloc (.cells #[O, .slice (some ⟨b2,o2,none⟩) n c2] 30)) #[] 0 (by simp) (by unfold maxLen;omega) rfl
   simpa using this
  ·exact zCh _ _ _
 case round=>
  obtain⟨k,A,c,hk,rfl,rfl,ho,hb,hbx⟩:=hrel
  have hsz:w.heap.size<wr.heap.size:=(Array.getElem?_eq_some_iff.1 hbx).1
  have hb1:wr.cell? ⟨w.heap.size,1,none⟩=some (.slice (some ⟨b2,o2,none⟩) n c2):=by unfold World.cell?;rw [hbx];rfl
  by_cases hlt:k<n
  ·have hp:wr.cell? ⟨b3,o3+k,none⟩=some (.int .i64 (gi plan k)):=by rw [hb.cell (p:=⟨b3,o3+k,none⟩) hb3];exact hc3 k hlt
   have hx:wr.cell? ⟨b2,o2+k,none⟩=some (nx k):=by rw [hb.cell (p:=⟨b2,o2+k,none⟩) hb2];exact hc2 k hlt
   have hb3':b3<wr.heap.size:=by omega
   have hb2':b2<wr.heap.size:=by omega
   have hne:=zJo ho hbx (by decide)
   by_cases hpos:0≤gi plan k
   ·go_wp2_with (at_builtin;refine Yf (N:=w.heap.size) (plan:=plan) (nx:=nx) (u:= .slice (some ⟨wr.heap.size,0,none⟩) 1 1) (g:=wr.heap.size+1) rfl (ho.below (by repeat(first|(with_reducible exact Below.refl _ _)|(with_reducible assumption)|(with_reducible refine Below.drew ?_)|(with_reducible refine wm ?_ _)|((with_reducible refine Below.setCell ?_ ?_ _);rotate_left;(focus first|omega|(simp;done)|(simp;omega)))|((with_reducible refine Below.alloc ?_ ?_ _);rotate_left;(focus first|omega|(simp;done)|(simp;omega)))|(refine Below.trans ?_ (Below.mono (by assumption) (by first|omega|(simp;done)|(simp;omega))))))) (by unfold Ye;rw [if_pos hpos];exact⟨wr.heap.size,by omega,rfl,zCh _ _ _⟩) rfl (UC _ _ (by simp)) (by omega) (by simp;omega) rfl rfl rfl ?_;intro A1 c1 w1 ho1 hb9 hkeep)
    go_roundw
    case rel=>
     refine⟨k+1,A1,c1,by omega,by go_num,rfl,ho1,by repeat(first|(with_reducible exact Below.refl _ _)|(with_reducible assumption)|(with_reducible refine Below.drew ?_)|(with_reducible refine wm ?_ _)|((with_reducible refine Below.setCell ?_ ?_ _);rotate_left;(focus first|omega|(simp;done)|(simp;omega)))|((with_reducible refine Below.alloc ?_ ?_ _);rotate_left;(focus first|omega|(simp;done)|(simp;omega)))|(refine Below.trans ?_ (Below.mono (by assumption) (by first|omega|(simp;done)|(simp;omega))))),?_⟩
     rw [hkeep w.heap.size (by simp;omega) hne,Below.heap_alloc _ _ _ (by simp;omega),Below.heap_alloc _ _ _ hsz]
     exact hbx
    case measure=>simp [intOf];omega
   ·obtain⟨A',n',c',enx⟩:=hnx k hlt
    rw [enx]at hx
    go_wp2_with (at_builtin;refine Yf (N:=w.heap.size) (plan:=plan) (nx:=nx) (u:= .slice A' n' c') (g:=wr.heap.size) rfl (ho.below (by repeat(first|(with_reducible exact Below.refl _ _)|(with_reducible assumption)|(with_reducible refine Below.drew ?_)|(with_reducible refine wm ?_ _)|((with_reducible refine Below.setCell ?_ ?_ _);rotate_left;(focus first|omega|(simp;done)|(simp;omega)))|((with_reducible refine Below.alloc ?_ ?_ _);rotate_left;(focus first|omega|(simp;done)|(simp;omega)))|(refine Below.trans ?_ (Below.mono (by assumption) (by first|omega|(simp;done)|(simp;omega))))))) (by unfold Ye;rw [if_neg hpos];exact enx.symm) rfl (UC _ _ rfl) (by omega) (by simp;omega) rfl rfl rfl ?_;intro A1 c1 w1 ho1 hb9 hkeep)
    go_roundw
    case rel=>
     refine⟨k+1,A1,c1,by omega,by go_num,rfl,ho1,by repeat(first|(with_reducible exact Below.refl _ _)|(with_reducible assumption)|(with_reducible refine Below.drew ?_)|(with_reducible refine wm ?_ _)|((with_reducible refine Below.setCell ?_ ?_ _);rotate_left;(focus first|omega|(simp;done)|(simp;omega)))|((with_reducible refine Below.alloc ?_ ?_ _);rotate_left;(focus first|omega|(simp;done)|(simp;omega)))|(refine Below.trans ?_ (Below.mono (by assumption) (by first|omega|(simp;done)|(simp;omega))))),?_⟩
     rw [hkeep w.heap.size (by simp;omega) hne,Below.heap_alloc _ _ _ hsz]
     exact hbx
    case measure=>simp [intOf];omega
  ·go_wp2_with fail
   go_ret
   have hkn:k=n:=by omega
   subst hkn
   exact⟨A,c,rfl,ho,hb⟩
theorem zEA {lo:Nat}{w:World}{ow:Nat→Option Pl}{e:TypeId}(he:sz tyT e=1){xs:List D}{v:Value}(h:Rp (sz tyT) lo w ow .sh (.lst e xs) v)(h0:xs.length≠0):
  ∃(b o c:Nat) (vs:List Value),v= .slice (some ⟨b,o,none⟩) xs.length c∧vs.length=xs.length∧b<w.heap.size∧(∀(i:Nat) (u:Value),vs[i]? =some u→w.cell? ⟨b,o+i,none⟩=some u)∧∀(i:Nat) (x:D) (u:Value),xs[i]? =some x→vs[i]? =some u→Rp (sz tyT) lo w ow .sh x u:=by
 obtain⟨vs,⟨h1,n,h2,A,c,hv,h3,h4,h5⟩,h6⟩:=(zx _ _).1 h
 rw [he,Nat.mul_one]at h2
 subst h2
 obtain⟨b,o,rfl,hb,ho,hc⟩:=h5 h0
 exact⟨b,o,c,vs,hv,h1,hb,hc,h6⟩
theorem zBa (a:Ar)(plan:List Int)(hn:1≤a.next.length∧a.next.length≤256)(hp:plan.length=a.next.length):FnE Try.prog tyT 152 [.agg (dAr a), .c (DI plan)] (DII (vI a plan)):=by
 refine⟨⟨Try.f152,Try.func152,by kernel_rfl,by kernel_rfl⟩,fun lo w ow cargs hlo hnew hargs=> ?_⟩
 unfold dAr at hargs
 simp only [qA,Ya,RpS]at hargs
 obtain⟨v0,vs0,rfl,⟨cs,rfl,c0,cs0,rfl,-,c1,cs1,rfl,hnx,rfl⟩,v1,vs1,rfl,hpl,rfl⟩:=hargs
 have l1:(dII a.next).length=a.next.length:=YH _
 have l2:(dI plan).length=plan.length:=zED _
 obtain⟨b2,o2,c2,us,rfl,hul,hb2,hc2,hk2⟩:=zEA (by decide) hnx (by omega)
 obtain⟨b3,o3,c3,ps,rfl,hpl2,hb3,hc3,hk3⟩:=zEA (by decide) hpl (by omega)
 rw [l1]at hul
 rw [l2]at hpl2
 have hu: ∀k,k<a.next.length→us[k]? =some (us.getD k undef):=fun k hk=>by rw [List.getD_eq_getElem?_getD,List.getElem?_eq_getElem (by omega)];rfl
 have hrow: ∀k,k<a.next.length→Rp (sz tyT) lo w ow .sh (DI (gl a.next k)) (us.getD k undef):=fun k hk=>hk2 k _ _ (by unfold dII;rw [List.getElem?_map,Wr hk];rfl) (hu k hk)
 have hrun:=zBP (w:=w) (n:=a.next.length) hn (O:=c0) (b2:=b2) (o2:=o2) (c2:=c2) (b3:=b3) (o3:=o3) (c3:=c3) (plan:=plan) (nx:=fun k=>us.getD k undef) hb2 (fun k hk=>hc2 k _ (hu k hk))
  (fun k hk=>by obtain⟨A,n,c,e,-⟩:=xD (hrow k hk);exact⟨A,n,c,e⟩) hb3 (fun k hk=>by
   have h1:ps[k]? =some ps[k]:=List.getElem?_eq_getElem (by omega)
   have h2:=hk3 k (.int .i64 (gi plan k)) _ (by unfold dI;rw [List.getElem?_map,vb (by omega)];rfl) h1
   simp only [Rp]at h2
   rw [hc3 k _ h1,h2])
 rw [l1,l2,hp]
 refine hrun.mono fun e w' hpost=> ?_
 obtain⟨A,c,rfl,⟨vals,ho,hv⟩,hbl⟩:=hpost
 refine⟨_,rfl,hbl,(zx _ _).2 ⟨vals,⟨?_,a.next.length,?_,?_⟩,fun i x u hx hu'=> ?_⟩⟩
 ·rw [YH,XO];have :=ho.1;omega
 ·rw [YH,XO,show sz tyT 27=1 from rfl,Nat.mul_one]
 ·rcases ho.2 with⟨hv0,h0⟩|⟨g,cap,cur,hv0,hg1,hg2,hg3,hg4,hg5,hg6⟩
  ·exfalso;omega
  ·cases hv0
   refine⟨_,_,rfl,hg3,hg4,fun _=>⟨g,0,rfl,(Array.getElem?_eq_some_iff.1 hg2).1,hnew g hg1,fun i u hi=> ?_⟩⟩
   rw [Nat.zero_add,ho.cellAt i (by have :=(List.getElem?_eq_some_iff.1 hi).1;have :=ho.1;omega)]
   exact hi
 ·have hil:i<a.next.length:=by have :=(List.getElem?_eq_some_iff.1 hx).1;rw [YH,XO]at this;exact this
  have ex:x=DI (WR a plan i):=by
   have h9:(dII (vI a plan))[i]? =some (DI (WR a plan i)):=by unfold dII;rw [List.getElem?_map,Wr (by rw [XO];exact hil),JL hil];rfl
   rw [h9]at hx;exact(Option.some.inj hx).symm
  subst ex
  have hc:=hv i u hu'
  unfold Ye at hc
  unfold WR
  split at hc
  ·rename_i h1
   rw [if_pos h1]
   obtain⟨g,hg1,rfl,hg2⟩:=hc
   refine(zx _ _).2 ⟨[.int .i64 (gi plan i)],⟨rfl,1,rfl,_,_,rfl,Nat.le_refl _,by unfold maxLen;omega,fun _=>⟨g,0,rfl,(Array.getElem?_eq_some_iff.1 hg2).1,hnew g hg1,fun j y hy=> ?_⟩⟩,fun j y z hy hz=> ?_⟩
   ·cases j with
    |zero=>simp at hy;subst hy;unfold World.cell?;rw [Nat.zero_add];simp [hg2]
    |succ j=>simp at hy
   ·cases j with
    |zero=>simp [dI]at hy hz;subst hy;subst hz;simp only [Rp]
    |succ j=>simp at hz
  ·rename_i h1
   rw [if_neg h1,hc]
   exact yJ _ _ hbl.size _ _ _ (fun b hb _=>⟨hbl.block b hb,rfl⟩) (hrow i hil)
open Nat renaming reduceMod → zA, reduceMul → zB, reduceDiv → zC, reduceAdd → zD, reduceSub → zE, reduceEqDiff → zF, reduceBEq → zG, reduceLT → zH, reduceLeDiff → zI
def mkS (s:List Int)(n:Nat):Nat→List Bool
 |0=>List.replicate n false
 |k+1=>(mkS s n k).set (gi s k).toNat true
theorem Yy (s:List Int)(n:Nat): ∀k,(mkS s n k).length=n
 |0=>by simp [mkS]
 |k+1=>by unfold mkS;rw [List.length_set];exact Yy s n k
theorem zE9 {s:List Int}{n:Nat}(hs: ∀j,j<s.length→0≤gi s j∧gi s j<n): ∀k,k≤s.length→∀v,v<n→(gb (mkS s n k) v=true↔∃j,j<k∧gi s j=v)
 |0,_,v,hv=>by
  have :gb (mkS s n 0) v=false:=jF
  rw [this]
  constructor
  ·intro h;cases h
  ·rintro⟨j,hj,-⟩;omega
 |k+1,hk,v,hv=>by
  have h:=hs k (by omega)
  unfold mkS
  rw [xQ (by rw [Yy];omega)]
  split
  ·rename_i e
   exact⟨fun _=>⟨k,by omega,by omega⟩,fun _=>rfl⟩
  ·rename_i e
   rw [zE9 hs k (by omega) v hv]
   constructor
   ·rintro⟨j,hj,e2⟩;exact⟨j,by omega,e2⟩
   ·rintro⟨j,hj,e2⟩
    have :j≠k:=fun e3=>e (by subst e3;omega)
    exact⟨j,by omega,e2⟩
inductive Rch (E:List (List Int))(ins:List Bool)(v:Nat):Nat→Prop
 |one {j:Nat}:j<(gl E v).length→gb ins (gi (gl E v) j).toNat=true→Rch E ins v (gi (gl E v) j).toNat
 |step {x j:Nat}:Rch E ins v x→j<(gl E x).length→gb ins (gi (gl E x) j).toNat=true→Rch E ins v (gi (gl E x) j).toNat
noncomputable def VM (E:List (List Int))(ins:List Bool)(v n:Nat):List Bool:=(List.range n).map fun u=> @decide (Rch E ins v u) (Classical.propDecidable _)
theorem zCi {E:List (List Int)}{ins:List Bool}{v n u:Nat}(h:u<n):gb (VM E ins v n) u=true↔Rch E ins v u:=by
 unfold VM
 rw [Wa h, @decide_eq_true_eq _ (Classical.propDecidable _)]
theorem KP (E:List (List Int))(ins:List Bool)(v n:Nat):(VM E ins v n).length=n:=by simp [VM]
structure ByI (E:List (List Int))(ins:List Bool)(n v:Nat)(W:Nat→Nat→Prop)(out:List Bool)(td:List Int):Prop where
 lo:out.length=n
 snd: ∀u,u<n→gb out u=true→Rch E ins v u
 rng: ∀t∈td,(0≤t∧t<n)∧(t.toNat=v∨gb out t.toNat=true)
 cls: ∀x,x<n→(x=v∨gb out x=true)→∀j,j<(gl E x).length→gb ins (gi (gl E x) j).toNat=true→gb out (gi (gl E x) j).toNat=true∨(x:Int)∈td∨W x j
section
variable {E:List (List Int)} {ins:List Bool} {n v:Nat} {out:List Bool} {td:List Int}
theorem ByI.start (hv:v<n):ByI E ins n v (fun _ _=>False) (List.replicate n false) [(v:Int)]:=by
 refine⟨List.length_replicate ..,fun u _ h=>(by rw [jF]at h;cases h),fun t ht=> ?_,fun x _ hx j _ _=> ?_⟩
 ·simp at ht;subst ht;exact⟨by omega, .inl (by simp)⟩
 ·rcases hx with rfl|hx
  ·exact .inr (.inl (by simp))
  ·rw [jF]at hx;cases hx
theorem zIf {td:List Int}(h:td≠ []):td=td.dropLast++ [gi td (td.length - 1)]:=by
 have :=List.dropLast_concat_getLast h
 rw [List.getLast_eq_getElem]at this
 unfold gi
 rw [List.getD_eq_getElem?_getD,List.getElem?_eq_getElem (by have :=List.length_pos_iff.2 h;omega)]
 exact this.symm
theorem ByI.last {W:Nat→Nat→Prop}(h:ByI E ins n v W out td)(ht:0<td.length):(0≤gi td (td.length - 1)∧gi td (td.length - 1)<n)∧((gi td (td.length - 1)).toNat=v∨gb out (gi td (td.length - 1)).toNat=true):=
 h.rng _ (List.mem_of_getElem? (vb (by omega)))
theorem ByI.pop (h:ByI E ins n v (fun _ _=>False) out td)(ht:0<td.length):ByI E ins n v (fun x j=>x=(gi td (td.length - 1)).toNat∧0≤j) out td.dropLast:=by
 refine⟨h.lo,h.snd,fun t hm=>h.rng t (List.dropLast_subset _ hm),fun x hx hv j hj hb=> ?_⟩
 rcases h.cls x hx hv j hj hb with h1|h1|h1
 ·exact .inl h1
 ·rw [zIf (td:=td) (fun e=>by rw [e]at ht;simp at ht)]at h1
  rcases List.mem_append.1 h1 with h2|h2
  ·exact .inr (.inl h2)
  ·simp at h2
   exact .inr (.inr ⟨by omega,Nat.zero_le _⟩)
 ·exact h1.elim
theorem ByI.skip {x0 i:Nat}(h:ByI E ins n v (fun x j=>x=x0∧i≤j) out td)(hu:gb ins (gi (gl E x0) i).toNat=false∨gb out (gi (gl E x0) i).toNat=true):ByI E ins n v (fun x j=>x=x0∧i+1≤j) out td:=by
 refine⟨h.lo,h.snd,h.rng,fun x hx hv j hj hb=> ?_⟩
 rcases h.cls x hx hv j hj hb with h1|h1|⟨rfl,h1⟩
 ·exact .inl h1
 ·exact .inr (.inl h1)
 ·by_cases e:j=i
  ·subst e
   rcases hu with hu|hu
   ·rw [hb]at hu;cases hu
   ·exact .inl hu
  ·exact .inr (.inr ⟨rfl,by omega⟩)
theorem ByI.push {x0 i:Nat}(h:ByI E ins n v (fun x j=>x=x0∧i≤j) out td)(hx0:x0=v∨(x0<n∧gb out x0=true))(hi:i<(gl E x0).length)(hr:0≤gi (gl E x0) i∧gi (gl E x0) i<n)(hu:gb ins (gi (gl E x0) i).toNat=true):
  ByI E ins n v (fun x j=>x=x0∧i+1≤j) (out.set (gi (gl E x0) i).toNat true) (td++ [gi (gl E x0) i]):=by
 have hl:(gi (gl E x0) i).toNat<out.length:=by rw [h.lo];omega
 have hR:Rch E ins v (gi (gl E x0) i).toNat:=by
  rcases hx0 with rfl|⟨hx,hb⟩
  ·exact .one hi hu
  ·exact .step (h.snd _ hx hb) hi hu
 have hmono: ∀y,gb out y=true→gb (out.set (gi (gl E x0) i).toNat true) y=true:=fun y hy=>by
  rw [xQ hl];split
  ·rfl
  ·exact hy
 refine⟨by rw [List.length_set];exact h.lo,fun u hun hb=> ?_,fun t ht=> ?_,fun x hx hv j hj hb=> ?_⟩
 ·rw [xQ hl]at hb
  split at hb
  ·rename_i e;rw [e];exact hR
  ·exact h.snd u hun hb
 ·rcases List.mem_append.1 ht with ht|ht
  ·exact⟨(h.rng t ht).1,(h.rng t ht).2.imp id (hmono _)⟩
  ·simp at ht;subst ht
   exact⟨hr, .inr (by rw [xQ hl,if_pos rfl])⟩
 ·by_cases e:x=(gi (gl E x0) i).toNat
  ·exact .inr (.inl (List.mem_append.2 (.inr (by simp;omega))))
  ·have hv2:x=v∨gb out x=true:=hv.imp id fun hv=>by rw [xQ hl,if_neg e]at hv;exact hv
   rcases h.cls x hx hv2 j hj hb with h1|h1|⟨rfl,h1⟩
   ·exact .inl (hmono _ h1)
   ·exact .inr (.inl (List.mem_append.2 (.inl h1)))
   ·by_cases e2:j=i
    ·subst e2
     exact .inl (by rw [xQ hl,if_pos rfl])
    ·exact .inr (.inr ⟨rfl,by omega⟩)
theorem ByI.done {x0 i:Nat}(h:ByI E ins n v (fun x j=>x=x0∧i≤j) out td)(hi:(gl E x0).length≤i):ByI E ins n v (fun _ _=>False) out td:=by
 refine⟨h.lo,h.snd,h.rng,fun x hx hv j hj hb=> ?_⟩
 rcases h.cls x hx hv j hj hb with h1|h1|⟨rfl,h1⟩
 ·exact .inl h1
 ·exact .inr (.inl h1)
 ·omega
theorem ByI.fin (h:ByI E ins n v (fun _ _=>False) out [])(hv:v<n)(hE: ∀x,x<n→∀j,j<(gl E x).length→0≤gi (gl E x) j∧gi (gl E x) j<n):out=VM E ins v n:=by
 refine zCd (by rw [h.lo,KP]) fun u hu=> ?_
 rw [h.lo]at hu
 have key: ∀u,Rch E ins v u→u<n∧gb out u=true:=fun u hr=>by
  induction hr with
  |one hj hb=>
   have :=hE v hv _ hj
   refine⟨by omega,?_⟩
   rcases h.cls v hv (.inl rfl) _ hj hb with h1|h1|h1
   ·exact h1
   ·simp at h1
   ·exact h1.elim
  |step _ hj hb ih=>
   have :=hE _ ih.1 _ hj
   refine⟨by omega,?_⟩
   rcases h.cls _ ih.1 (.inr ih.2) _ hj hb with h1|h1|h1
   ·exact h1
   ·simp at h1
   ·exact h1.elim
 rw [Bool.eq_iff_iff,zCi hu]
 exact⟨fun hb=>h.snd u hu hb,fun hr=>(key u hr).2⟩
end
theorem zAL {l:List Bool}{u:Nat}(hu:gb l u=false)(hl:u<l.length): ∀k,u<k→xC (l.set u true) k=xC l k+1
 |0,h=>by omega
 |k+1,h=>by
  rw [ZQ,ZQ]
  by_cases e:k=u
  ·have e1:gb (l.set u true) k=true:=by rw [xQ hl,if_pos e]
   have e2:gb l k=false:=by rw [e];exact hu
   have : ∀m,m≤k→xC (l.set u true) m=xC l m:=fun m=>by
    induction m with
    |zero=>intro _;rfl
    |succ m ih=>
     intro hm
     have e3:gb (l.set u true) m=gb l m:=by rw [xQ hl,if_neg (show¬m=u by omega)]
     rw [ZQ,ZQ,e3,ih (by omega)]
   rw [e1,e2,this k (Nat.le_refl _)]
   rfl
  ·have e1:gb (l.set u true) k=gb l k:=by rw [xQ hl,if_neg e]
   rw [e1,zAL hu hl k (by omega)]
   split<;>rfl
theorem zGQ {fl td:List Int}(h:fl.take td.length=td):fl.take (td.length - 1)=td.dropLast:=by
 have :=congrArg (List.take (td.length - 1)) h
 rw [List.take_take,Nat.min_eq_left (by omega)]at this
 rw [List.dropLast_eq_take]
 exact this
theorem zCf {fl td:List Int}(h:fl.take td.length=td):td.length≤fl.length:=by
 have :=congrArg List.length h
 rw [List.length_take]at this
 omega
theorem zJK {fl td:List Int}(h:fl.take td.length=td){i:Nat}(hi:i<td.length):gi fl i=gi td i:=by
 have this:gi (fl.take td.length) i=gi td i:=congrArg (fun l=>gi l i) h
 rw [wQ hi]at this
 exact this
set_option maxRecDepth 20000 in
set_option maxHeartbeats 4000000 in
theorem zDb (s:List Int)(n:Nat)(hn:n≤1048576)(hl:s.length≤1048576)(hs: ∀j,j<s.length→0≤gi s j∧gi s j<n):Fn Try.prog tyT 136 [.c (DI s), .c (.int .i64 n)] [.c (.lst 4 (dB (mkS s n s.length)))]:=by
 refine zt (fn:=Try.f136) (ts:= [4]) Try.func136 (by kernel_rfl) rfl rfl (by rw [Try.ntmps136];exact Nat.le_of_ble_eq_true rfl) rfl (by simp only [szA,List.mem_cons,List.not_mem_nil,or_false,forall_eq_or_imp,forall_eq,VT.cells,szL];try decide) ?_
 rw [Try.ntmps136]
 simp only [push_cast,↓zK,↓zJ,↓reduceIte,zA,zB,zC,zD,zE,zF,zG,zH,zI,reduceCtorEq]
 refine zL fun K hK=> ?_
 refine zM zP zN [] rfl ?_
 simp only [push_cast,↓zK,↓zJ,↓reduceIte,zA,zB,zC,zD,zE,zF,zG,zH,zI,reduceCtorEq]
 repeat' apply And.intro
 all_goals try exact gB
 all_goals first|(refine hK _ ?_;clear hK K)|(simp only [push_cast];done)
 refine zL fun K hK=> ?_
 refine zM zP zN [] rfl ?_
 simp only [push_cast,↓zK,↓zJ,↓reduceIte,zA,zB,zC,zD,zE,zF,zG,zH,zI,reduceCtorEq]
 repeat' apply And.intro
 all_goals try exact gB
 all_goals first|(refine hK _ ?_;clear hK K)|(simp only [push_cast];done)
 refine zL fun K1 hK1=> ?_
 refine zL fun K hK=> ?_
 refine zM zP zN [] rfl ?_
 simp only [push_cast,↓zK,↓zJ,↓reduceIte,zA,zB,zC,zD,zE,zF,zG,zH,zI,reduceCtorEq]
 repeat' apply And.intro
 all_goals try exact gB
 all_goals first|(refine hK _ ?_;clear hK K)|(simp only [push_cast];done)
 refine zT ?_
 refine zd [6,9,10,11,12,13,14,15,16,17,18,19,20] [80] (fun(k:Nat)=> [(6, .int .i64 k),(5, .sl 80 [] 0 n 4)]) (fun k=> []) (fun k=> [(80,⟨.ex,4,dB (mkS s n k),none⟩)]) (fun k=>k≤s.length) (fun k=>s.length - k) 0 ?_ (by omega) ?_
 ·
  rw [show mkS s n 0=List.replicate n false from rfl]
  refine zW rfl ?_ ?_ ?_<;>simp only [zc,zb,push_cast,↓zK,↓zJ,↓reduceIte,zA,zB,zC,zD,zE,zF,zG,zH,zI,reduceCtorEq]
 ·rintro k hk KL0 hL0
  have hml:=Yy s n k
  simp only [push_cast,↓zK,↓zJ,↓reduceIte,zA,zB,zC,zD,zE,zF,zG,zH,zI,reduceCtorEq]
  refine zL fun K2 hK2=> ?_
  refine zL fun K hK=> ?_
  refine zM zP zN [] rfl ?_
  simp only [push_cast,↓zK,↓zJ,↓reduceIte,zA,zB,zC,zD,zE,zF,zG,zH,zI,reduceCtorEq]
  repeat' apply And.intro
  all_goals try exact gB
  all_goals first|(refine hK _ ?_;clear hK K)|(simp only [push_cast];done)
  refine zU rfl (fun hc=> ?_) (fun hc=> ?_)<;>(try simp only [push_cast]at hc)
  ·
   refine zV ?_
   (try simp only [zR,zS,reduceIte,zF]);refine hK2 _ ?_
   refine zL fun K3 hK3=> ?_
   refine zT ?_
   have hsk:=hs k (by omega)
   refine zM zP zN [] rfl ?_
   simp only [push_cast,↓zK,↓zJ,↓reduceIte,zA,zB,zC,zD,zE,zF,zG,zH,zI,reduceCtorEq]
   repeat' apply And.intro
   all_goals try exact gB
   (try simp only [zR,zS,reduceIte,zF]);refine hK3 _ ?_
   refine zM zP zN [] rfl ?_
   simp only [push_cast,↓zK,↓zJ,↓reduceIte,zA,zB,zC,zD,zE,zF,zG,zH,zI,reduceCtorEq]
   repeat' apply And.intro
   all_goals try exact gB
   refine hL0 _ ⟨k+1,by omega,by omega,?_⟩
   rw [show(mkS s n k).set (gi s k).toNat true=mkS s n (k+1)from rfl]
   refine zW rfl ?_ ?_ ?_<;>simp only [zc,zb,push_cast,↓zK,↓zJ,↓reduceIte,zA,zB,zC,zD,zE,zF,zG,zH,zI,reduceCtorEq]
  ·
   refine ze ?_
   have hkk:k=s.length:=by omega
   subst hkk
   (try simp only [zR,zS,reduceIte,zF]);refine hK1 _ ?_
   refine zL fun K hK=> ?_
   refine zM zP zN [] rfl ?_
   simp only [push_cast,↓zK,↓zJ,↓reduceIte,zA,zB,zC,zD,zE,zF,zG,zH,zI,reduceCtorEq]
   repeat' apply And.intro
   all_goals try exact gB
   all_goals first|(refine hK _ ?_;clear hK K)|(simp only [push_cast];done)
   refine zX ?_
   (try simp only [zR,zS])
   refine⟨Or.inl rfl,?_⟩
   simp only [zg,push_cast,↓zK,↓zJ,↓reduceIte,zA,zB,zC,zD,zE,zF,zG,zH,zI,reduceCtorEq]
   all_goals first|rfl|exact⟨rfl,by rw [Yy]⟩|(simp [Yy];done)
set_option maxRecDepth 20000 in
set_option maxHeartbeats 8000000 in
theorem zB3 (E:List (List Int))(ins:List Bool)(v n:Nat)(hv:v<n)(hn:n≤256)(hEn:E.length=n)(hIn:ins.length=n)(hEd: ∀x,x<n→(gl E x).length≤256)(hE9: ∀x,x<n→∀j,j<(gl E x).length→0≤gi (gl E x) j∧gi (gl E x) j<n):Fn Try.prog tyT 153 [.c (DII E), .c (.lst 4 (dB ins)), .c (DI [(v:Int)])] [.c (.lst 4 (dB (VM E ins v n)))]:=by
 have hCp:=vW [(v:Int)] (by simp)
 have hfin:=fun out h=>ByI.fin (E:=E) (ins:=ins) (n:=n) (v:=v) (out:=out) h hv hE9
 have hbl:=KP E ins v n
 generalize VM E ins v n=R at hfin hbl⊢
 refine zt (fn:=Try.f153) (ts:= [6]) Try.func153 (by kernel_rfl) rfl rfl (by rw [Try.ntmps153];exact Nat.le_of_ble_eq_true rfl) rfl (by simp only [szA,List.mem_cons,List.not_mem_nil,or_false,forall_eq_or_imp,forall_eq,VT.cells,szL];try decide) ?_
 rw [Try.ntmps153]
 simp only [push_cast,↓zK,↓zJ,↓reduceIte,zA,zB,zC,zD,zE,zF,zG,zH,zI,reduceCtorEq]
 refine zL fun K hK=> ?_
 refine zM zP zN [] rfl ?_
 all_goals simp only [push_cast,↓zK,↓zJ,↓reduceIte,zA,zB,zC,zD,zE,zF,zG,zH,zI,reduceCtorEq]
 all_goals repeat'(first|(apply zO<;>(intro hg;(try simp only [push_cast]at hg)))|apply And.intro|(intro hg;(try simp only [push_cast]at hg)))
 all_goals first|exact gA|(exact zQ (by omega))|skip
 all_goals first|(refine hK _ ?_;clear hK K)|(simp only [push_cast];done)
 refine zL fun K hK=> ?_
 refine zM zP zN [] rfl ?_
 all_goals simp only [push_cast,↓zK,↓zJ,↓reduceIte,zA,zB,zC,zD,zE,zF,zG,zH,zI,reduceCtorEq]
 all_goals repeat'(first|(apply zO<;>(intro hg;(try simp only [push_cast]at hg)))|apply And.intro|(intro hg;(try simp only [push_cast]at hg)))
 all_goals first|exact gA|(exact zQ (by omega))|skip
 all_goals first|(refine hK _ ?_;clear hK K)|(simp only [push_cast];done)
 (try rw [hEn])
 refine zL fun K hK=> ?_
 refine zM zP zN [] rfl ?_
 all_goals refine zm 2 fun K9 hK9=> ?_
 all_goals simp only [push_cast,↓zK,↓zJ,↓reduceIte,zA,zB,zC,zD,zE,zF,zG,zH,zI,reduceCtorEq]
 all_goals repeat'(first|(apply zO<;>(intro hg;(try simp only [push_cast]at hg)))|(refine⟨_,hCp,?_⟩;simp only [push_cast,↓zK,↓zJ,↓reduceIte,zA,zB,zC,zD,zE,zF,zG,zH,zI,reduceCtorEq])|apply And.intro|(intro hg;(try simp only [push_cast]at hg)))
 all_goals first|exact gA|(exact zQ (by omega))|skip
 all_goals first|(refine hK9 _ ?_;clear hK9 K9)|(simp only [push_cast];done)
 all_goals simp only [push_cast,↓zK,↓zJ,↓reduceIte,zA,zB,zC,zD,zE,zF,zG,zH,zI,reduceCtorEq]
 all_goals repeat'(first|(apply zO<;>(intro hg;(try simp only [push_cast]at hg)))|(refine⟨_,hCp,?_⟩;simp only [push_cast,↓zK,↓zJ,↓reduceIte,zA,zB,zC,zD,zE,zF,zG,zH,zI,reduceCtorEq])|apply And.intro|(intro hg;(try simp only [push_cast]at hg)))
 all_goals first|exact gA|(exact zQ (by omega))|skip
 all_goals first|(refine hK _ ?_;clear hK K)|(simp only [push_cast];done)
 refine zL fun K1 hK1=> ?_
 refine zT ?_
 refine zd [8,9,10,11,17,18,19,20,21,22,23,24,25,26,27,28,29,30,31,32,33,34,35,36,37,38,39,40,41,42,43,44,45,46,47,48,49,50,51,52,53,54,55,56,57,58,59,60,61,62,63,64] [112,128] (fun(p:List Bool×List Int×List Int)=> [(7, .sl 112 [] 0 n 4),(8, .sl 128 [] 0 p.2.1.length 2)]) (fun p=> []) (fun p=> [(112,⟨.ex,4,dB p.1,none⟩),(128,⟨.ex,2,dI p.2.2,none⟩)]) (fun p=>ByI E ins n v (fun _ _=>False) p.1 p.2.1∧p.2.2.take p.2.1.length=p.2.1∧2*(n - xC p.1 n)+p.2.1.length≤2*n+1) (fun p=>2*(n - xC p.1 n)+p.2.1.length) (List.replicate n false,[(v:Int)],[(v:Int)]) ?_ ⟨ByI.start hv,rfl,by dsimp only;simp only [List.length_cons,List.length_nil];omega⟩ ?_
 ·
  refine zW rfl ?_ ?_ ?_<;>simp only [zc,zb,push_cast,↓zK,↓zJ,↓reduceIte,zA,zB,zC,zD,zE,zF,zG,zH,zI,reduceCtorEq]
 ·rintro⟨out,td,fl⟩ ⟨hI,hpre,hMb⟩ KL0 hL0
  dsimp only at hI hpre hMb
  have hpl:=zCf hpre
  have hlo0:=hI.lo
  simp only [push_cast,↓zK,↓zJ,↓reduceIte,zA,zB,zC,zD,zE,zF,zG,zH,zI,reduceCtorEq]
  refine zL fun K2 hK2=> ?_
  refine zL fun K hK=> ?_
  refine zM zP zN [] rfl ?_
  all_goals simp only [push_cast,↓zK,↓zJ,↓reduceIte,zA,zB,zC,zD,zE,zF,zG,zH,zI,reduceCtorEq]
  all_goals repeat'(first|(apply zO<;>(intro hg;(try simp only [push_cast]at hg)))|apply And.intro|(intro hg;(try simp only [push_cast]at hg)))
  all_goals first|exact gA|(exact zQ (by omega))|skip
  all_goals first|(refine hK _ ?_;clear hK K)|(simp only [push_cast];done)
  refine zU rfl (fun hc=> ?_) (fun hc=> ?_)<;>(try simp only [push_cast]at hc)
  ·
   refine zV ?_
   (try simp only [zR,zS,reduceIte,zF]);refine hK2 _ ?_
   refine zT ?_
   have hlo:=hI.lo
   have hla:=hI.last (by omega)
   have hpg:=zJK hpre (i:=td.length - 1) (by omega)
   refine zL fun K hK=> ?_
   refine zM zP zN [] rfl ?_
   all_goals simp only [push_cast,↓zK,↓zJ,↓reduceIte,zA,zB,zC,zD,zE,zF,zG,zH,zI,reduceCtorEq]
   all_goals repeat'(first|(apply zO<;>(intro hg;(try simp only [push_cast]at hg)))|apply And.intro|(intro hg;(try simp only [push_cast]at hg)))
   all_goals first|exact gA|(exact zQ (by omega))|skip
   all_goals first|(refine hK _ ?_;clear hK K)|(simp only [push_cast];done)
   refine zL fun K hK=> ?_
   refine zM zP zN [] rfl ?_
   all_goals simp only [push_cast,↓zK,↓zJ,↓reduceIte,zA,zB,zC,zD,zE,zF,zG,zH,zI,reduceCtorEq]
   all_goals repeat'(first|(apply zO<;>(intro hg;(try simp only [push_cast]at hg)))|apply And.intro|(intro hg;(try simp only [push_cast]at hg)))
   all_goals first|exact gA|(exact zQ (by omega))|skip
   all_goals first|(refine hK _ ?_;clear hK K)|(simp only [push_cast];done)
   have hpop:=hI.pop (by omega)
   have hdl:td.dropLast.length=td.length - 1:=List.length_dropLast
   refine zL fun K hK=> ?_
   refine zM zP zN [] rfl ?_
   all_goals simp only [push_cast,↓zK,↓zJ,↓reduceIte,zA,zB,zC,zD,zE,zF,zG,zH,zI,reduceCtorEq]
   all_goals repeat'(first|(apply zO<;>(intro hg;(try simp only [push_cast]at hg)))|apply And.intro|(intro hg;(try simp only [push_cast]at hg)))
   all_goals first|exact gA|(exact zQ (by omega))|skip
   all_goals first|(refine hK _ ?_;clear hK K)|(simp only [push_cast];done)
   refine zT ?_
   obtain⟨x0,hx00⟩: ∃x0:Nat,gi td (td.length - 1)=(x0:Int):=⟨_,(Int.toNat_of_nonneg hla.1.1).symm⟩
   rw [hpg,hx00]
   rw [hx00,Int.toNat_natCast]at hla hpop
   have hx0n:x0<n:=by omega
   have hx0v:x0=v∨(x0<n∧gb out x0=true):=hla.2.imp id fun h=>⟨hx0n,h⟩
   obtain⟨M0,hM0⟩: ∃M0,2*(n - xC out n)+td.length=M0:=⟨_,rfl⟩
   rw [hM0]at hMb
   refine zd [8,10,11,17,20,21,24,26,27,30,31,32,33,34,35,36,37,38,39,40,41,42,43,44,45,46,47,48,49,50,51,52,53,54,55,56,57,58,59,60,61,62,63,64] [112,128] (fun(p:Nat×List Bool×List Int×List Int)=> [(10, .int .i64 p.1),(7, .sl 112 [] 0 n 4),(8, .sl 128 [] 0 p.2.2.1.length 2)]) (fun p=> []) (fun p=> [(112,⟨.ex,4,dB p.2.1,none⟩),(128,⟨.ex,2,dI p.2.2.2,none⟩)]) (fun p=>p.1≤(gl E x0).length∧ByI E ins n v (fun x j=>x=x0∧p.1≤j) p.2.1 p.2.2.1∧p.2.2.2.take p.2.2.1.length=p.2.2.1∧2*(n - xC p.2.1 n)+p.2.2.1.length<M0∧(x0=v∨(x0<n∧gb p.2.1 x0=true))) (fun p=>(gl E x0).length - p.1) (0,out,td.dropLast,fl) ?_ ⟨Nat.zero_le _,hpop,by rw [hdl];exact zGQ hpre,by dsimp only;omega,hx0v⟩ ?_
   ·
    rw [hdl]
    skip
    refine zW rfl ?_ ?_ ?_<;>simp only [zc,zb,push_cast,↓zK,↓zJ,↓reduceIte,zA,zB,zC,zD,zE,zF,zG,zH,zI,reduceCtorEq]
   ·rintro⟨i,out,td,fl⟩ ⟨hi,hI2,hpre2,hM2,hx02⟩ KL1 hL1
    dsimp only at hi hI2 hpre2 hM2 hx02
    have hpl2:=zCf hpre2
    simp only [push_cast,↓zK,↓zJ,↓reduceIte,zA,zB,zC,zD,zE,zF,zG,zH,zI,reduceCtorEq]
    refine zL fun K3 hK3=> ?_
    refine zL fun K hK=> ?_
    refine zM zP zN [] rfl ?_
    all_goals simp only [push_cast,↓zK,↓zJ,↓reduceIte,zA,zB,zC,zD,zE,zF,zG,zH,zI,reduceCtorEq]
    all_goals repeat'(first|(apply zO<;>(intro hg;(try simp only [push_cast]at hg)))|apply And.intro|(intro hg;(try simp only [push_cast]at hg)))
    all_goals first|exact gA|(exact zQ (by omega))|skip
    all_goals first|(refine hK _ ?_;clear hK K)|(simp only [push_cast];done)
    refine zU rfl (fun hc=> ?_) (fun hc=> ?_)<;>(try simp only [push_cast]at hc)
    ·
     refine zV ?_
     (try simp only [zR,zS,reduceIte,zF]);refine hK3 _ ?_
     refine zL fun K4 hK4=> ?_
     refine zT ?_
     refine zL fun K hK=> ?_
     refine zM zP zN [] rfl ?_
     all_goals simp only [push_cast,↓zK,↓zJ,↓reduceIte,zA,zB,zC,zD,zE,zF,zG,zH,zI,reduceCtorEq]
     all_goals repeat'(first|(apply zO<;>(intro hg;(try simp only [push_cast]at hg)))|apply And.intro|(intro hg;(try simp only [push_cast]at hg)))
     all_goals first|exact gA|(exact zQ (by omega))|skip
     all_goals first|(refine hK _ ?_;clear hK K)|(simp only [push_cast];done)
     have hlo2:=hI2.lo
     have her:=hE9 x0 hx0n i (by omega)
     have hed:=hEd x0 hx0n
     refine zL fun K hK=> ?_
     refine zf false zP zN ?_ rfl ?_
     ·kernel_rfl
     all_goals simp only [push_cast,↓zK,↓zJ,↓reduceIte,zA,zB,zC,zD,zE,zF,zG,zH,zI,reduceCtorEq]
     all_goals repeat'(first|(apply zO<;>(intro hg;(try simp only [push_cast]at hg)))|apply And.intro|(intro hg;(try simp only [push_cast]at hg)))
     all_goals first|exact gA|(exact zQ (by omega))|skip
     all_goals first|(refine hK _ ?_;clear hK K)|(simp only [push_cast];done)
     all_goals refine zU rfl (fun hc=> ?_) (fun hc=> ?_)
     all_goals(first|(cases hc;done)|skip)
     all_goals(try simp only [push_cast]at hc)
     all_goals first
      |(
        refine zV ?_
        (try simp only [zR,zS,reduceIte,zF]);refine hK4 _ ?_
        refine zM zP zN [] rfl ?_
        all_goals simp only [push_cast,↓zK,↓zJ,↓reduceIte,zA,zB,zC,zD,zE,zF,zG,zH,zI,reduceCtorEq]
        all_goals repeat'(first|(apply zO<;>(intro hg;(try simp only [push_cast]at hg)))|apply And.intro|(intro hg;(try simp only [push_cast]at hg)))
        all_goals first|exact gA|(exact zQ (by omega))|skip
        refine hL1 _ ⟨(i+1,out,td,fl),⟨by dsimp only;omega,hI2.skip (by first|exact .inl (by with_reducible assumption)|exact .inr (by with_reducible assumption)),hpre2,hM2,hx02⟩,by dsimp only;omega,?_⟩
        skip
        refine zW rfl ?_ ?_ ?_<;>simp only [zc,zb,push_cast,↓zK,↓zJ,↓reduceIte,zA,zB,zC,zD,zE,zF,zG,zH,zI,reduceCtorEq]
        done)
      |(
        have hcs:=zAL (l:=out) (u:=(gi (gl E x0) i).toNat) (by with_reducible assumption) (by omega) n (by omega)
        have hct:=Zv (out.set (gi (gl E x0) i).toNat true) n
        refine zL fun K hK=> ?_
        refine zM zP zN [] rfl ?_
        all_goals simp only [push_cast,↓zK,↓zJ,↓reduceIte,zA,zB,zC,zD,zE,zF,zG,zH,zI,reduceCtorEq]
        all_goals repeat'(first|(apply zO<;>(intro hg;(try simp only [push_cast]at hg)))|apply And.intro|(intro hg;(try simp only [push_cast]at hg)))
        all_goals first|exact gA|(exact zQ (by omega))|skip
        all_goals first|(refine hK _ ?_;clear hK K)|(simp only [push_cast];done)
        refine zM zP zN [] rfl ?_
        all_goals simp only [push_cast,↓zK,↓zJ,↓reduceIte,zA,zB,zC,zD,zE,zF,zG,zH,zI,reduceCtorEq]
        all_goals repeat'(first|(apply zO<;>(intro hg;(try simp only [push_cast]at hg)))|apply And.intro|(intro hg;(try simp only [push_cast]at hg)))
        all_goals first|exact gA|(rw [List.length_set];omega)|(exact zQ (by omega))|skip
        (try simp only [zR,zS,reduceIte,zF]);refine hK4 _ ?_
        refine zM zP zN [] rfl ?_
        all_goals simp only [push_cast,↓zK,↓zJ,↓reduceIte,zA,zB,zC,zD,zE,zF,zG,zH,zI,reduceCtorEq]
        all_goals repeat'(first|(apply zO<;>(intro hg;(try simp only [push_cast]at hg)))|apply And.intro|(intro hg;(try simp only [push_cast]at hg)))
        all_goals first|exact gA|(exact zQ (by omega))|skip
        refine hL1 _ ⟨(i+1,out.set (gi (gl E x0) i).toNat true,td++ [gi (gl E x0) i],td++ [gi (gl E x0) i]),⟨by dsimp only;omega,hI2.push hx02 (by omega) her (by with_reducible assumption),List.take_length,by simp only [List.length_append,List.length_cons,List.length_nil];omega,hx02.imp id fun h=>⟨h.1,by rw [xQ (by omega)];split;rfl;exact h.2⟩⟩,by dsimp only;omega,?_⟩
        rw [hpre2]
        simp only [List.length_append,List.length_cons,List.length_nil,Nat.zero_add]
        refine zW rfl ?_ ?_ ?_<;>simp only [zc,zb,push_cast,↓zK,↓zJ,↓reduceIte,zA,zB,zC,zD,zE,zF,zG,zH,zI,reduceCtorEq]
        done)
    ·
     refine ze ?_
     refine hL0 _ ⟨(out,td,fl),⟨hI2.done (by omega),hpre2,by dsimp only;omega⟩,by dsimp only;omega,?_⟩
     refine zW rfl ?_ ?_ ?_<;>simp only [zc,zb,push_cast,↓zK,↓zJ,↓reduceIte,zA,zB,zC,zD,zE,zF,zG,zH,zI,reduceCtorEq]
  ·
   refine ze ?_
   have htd:td= []:=List.eq_nil_of_length_eq_zero (by omega)
   subst htd
   have hr9:=hfin out hI
   (try simp only [zR,zS,reduceIte,zF]);refine hK1 _ ?_
   refine zL fun K hK=> ?_
   refine zM zP zN [] rfl ?_
   all_goals simp only [push_cast,↓zK,↓zJ,↓reduceIte,zA,zB,zC,zD,zE,zF,zG,zH,zI,reduceCtorEq]
   all_goals repeat'(first|(apply zO<;>(intro hg;(try simp only [push_cast]at hg)))|apply And.intro|(intro hg;(try simp only [push_cast]at hg)))
   all_goals first|exact gA|(exact zQ (by omega))|skip
   all_goals first|(refine hK _ ?_;clear hK K)|(simp only [push_cast];done)
   refine zX ?_
   (try simp only [zR,zS])
   refine⟨Or.inl rfl,?_⟩
   simp only [zg,push_cast,↓zK,↓zJ,↓reduceIte,zA,zB,zC,zD,zE,zF,zG,zH,zI,reduceCtorEq]
   rw [hr9]
   all_goals first|rfl|exact⟨rfl,by omega⟩|(simp;done)
theorem xe {a:Ar}{who:Int}{plan:List Int}(h:qt a who plan=true):yA a=true∧(0≤who∧who≤1)∧vB a who plan=true:=by
 unfold qt at h
 rw [Bool.and_eq_true,Bool.and_eq_true,decide_eq_true_eq]at h
 exact⟨h.1,h.2.1,h.2.2⟩
def wc (g:Pa)(reg:List Int)(v n:Nat):Nat→List Bool
 |0=>List.replicate n false
 |k+1=>(wc g reg v n k).set (gi reg k).toNat (decide (gi g.prio (gi reg k).toNat≤gi g.prio v))
theorem Zx (g:Pa)(reg:List Int)(v n:Nat): ∀k,(wc g reg v n k).length=n
 |0=>by simp [wc]
 |k+1=>by unfold wc;rw [List.length_set];exact Zx g reg v n k
theorem zCa {g:Pa}{reg:List Int}{v n:Nat}(hs: ∀j,j<reg.length→0≤gi reg j∧gi reg j<n): ∀k,k≤reg.length→∀u,u<n→gb (wc g reg v n k) u=true→(∃j,j<k∧gi reg j=u)∧gi g.prio u≤gi g.prio v
 |0,_,u,hu,h=>by
  have :gb (wc g reg v n 0) u=false:=jF
  rw [this]at h;cases h
 |k+1,hk,u,hu,h=>by
  have hr:=hs k (by omega)
  unfold wc at h
  rw [xQ (by rw [Zx];omega)]at h
  split at h
  ·rename_i e
   exact⟨⟨k,by omega,by omega⟩,by rw [e];exact of_decide_eq_true h⟩
  ·obtain⟨⟨j,hj,e⟩,h2⟩:=zCa hs k (by omega) u hu h
   exact⟨⟨j,by omega,e⟩,h2⟩
structure wy (g:Pa)(reg plan:List Int):Prop where
 ok:yD g=true
 pl:qt g.a 0 plan=true
 set:qC reg g.a.owner.length=true
 own: ∀(i v:Nat),i<reg.length→gi reg i=(v:Int)→gi g.a.owner v=0→0≤gi plan v∧gb (mkS reg g.a.owner.length reg.length) (gi plan v).toNat=true
 opp: ∀(i v:Nat),i<reg.length→gi reg i=(v:Int)→¬gi g.a.owner v=0→∀j,j<(gl g.a.next v).length→gb (mkS reg g.a.owner.length reg.length) (gi (gl g.a.next v) j).toNat=true
 loop: ∀(i v:Nat),i<reg.length→gi reg i=(v:Int)→¬Int.tmod (gi g.prio v) 2=0→gb (VM (vI g.a plan) (wc g reg v g.a.owner.length reg.length) v g.a.owner.length) v=false
section
variable {g:Pa} {reg plan:List Int}
theorem wy.rg (h:wy g reg plan): ∀j,j<reg.length→0≤gi reg j∧gi reg j<g.a.owner.length:=fun j hj=>vK h.set hj
theorem wy.rl (h:wy g reg plan):reg.length≤256:=by
 have :=zCM h.set (by omega)
 have :=(zw (xe h.pl).1).2.1
 omega
theorem wy.plen (h:wy g reg plan):plan.length=g.a.owner.length:=(wJ (xe h.pl).2.2).1
theorem wy.prg (h:wy g reg plan){v:Nat}(hv:v<g.a.owner.length)(h0:0≤gi plan v):gi plan v<g.a.owner.length:=by
 have hp:=wJ (xe h.pl).2.2
 have ha:=(xe h.pl).1
 rcases hp.2 v (by omega)with e|⟨-,e⟩
 ·omega
 ·obtain⟨j,hj,e2⟩:=xv.1 e
  have :=vK (yG ha hv).2.2.2.2 hj
  omega
theorem zJR (h:wy g reg plan){x:Nat}(hx:x<g.a.owner.length):(gl (vI g.a plan) x).length≤256∧∀j,j<(gl (vI g.a plan) x).length→0≤gi (gl (vI g.a plan) x) j∧gi (gl (vI g.a plan) x) j<g.a.owner.length:=by
 have ha:=(xe h.pl).1
 have hal:=zw ha
 rw [JL (by omega)]
 unfold WR
 split
 ·rename_i h0
  refine⟨by simp,fun j hj=> ?_⟩
  have :j=0:=by simp at hj;omega
  subst this
  exact⟨h0,h.prg hx h0⟩
 ·refine⟨by have :=(yG ha hx).2.2.2.1;omega,fun j hj=>vK (yG ha hx).2.2.2.2 hj⟩
end
set_option maxRecDepth 20000 in
set_option maxHeartbeats 4000000 in
theorem zGx (g:Pa)(hg:g.Ln 1048576)(reg:List Int)(hr:reg.length≤1048576):Fn Try.prog tyT 151 [.agg (dPa g), .c (DI reg)] [.c (.bool (qC reg g.prio.length))]:=by
 have hp:=hg.prio
 unfold LnI at hp
 have hS:=xM reg g.prio.length hr (by omega) (by omega)
 unfold dPa
 refine zt (fn:=Try.f151) (ts:= [4]) Try.func151 (by kernel_rfl) rfl rfl (by rw [Try.ntmps151];exact Nat.le_of_ble_eq_true rfl) rfl (by simp only [szA,List.mem_cons,List.not_mem_nil,or_false,forall_eq_or_imp,forall_eq,VT.cells,szL];try decide) ?_
 rw [Try.ntmps151]
 simp only [push_cast,↓zK,↓zJ,↓reduceIte,zA,zB,zC,zD,zE,zF,zG,zH,zI,reduceCtorEq]
 refine zL fun K hK=> ?_
 refine zM zP zN [] rfl ?_
 simp only [push_cast,↓zK,↓zJ,↓reduceIte,zA,zB,zC,zD,zE,zF,zG,zH,zI,reduceCtorEq]
 repeat' apply And.intro
 all_goals try exact gB
 all_goals first|(refine hK _ ?_;clear hK K)|(simp only [push_cast];done)
 refine zL fun K hK=> ?_
 refine zM zP zN [] rfl ?_
 all_goals refine zm 5 fun K9 hK9=> ?_
 all_goals simp only [push_cast,↓zK,↓zJ,↓reduceIte,zA,zB,zC,zD,zE,zF,zG,zH,zI,reduceCtorEq]
 all_goals repeat'(first|(apply zO<;>(intro hg;(try simp only [push_cast]at hg)))|(refine⟨_,hS,?_⟩;simp only [push_cast,↓zK,↓zJ,↓reduceIte,zA,zB,zC,zD,zE,zF,zG,zH,zI,reduceCtorEq])|apply And.intro|(intro hg;(try simp only [push_cast]at hg)))
 all_goals try exact gA
 all_goals first|(refine hK9 _ ?_;clear hK9 K9)|(simp only [push_cast];done)
 all_goals simp only [push_cast,↓zK,↓zJ,↓reduceIte,zA,zB,zC,zD,zE,zF,zG,zH,zI,reduceCtorEq]
 all_goals repeat'(first|(apply zO<;>(intro hg;(try simp only [push_cast]at hg)))|(refine⟨_,hS,?_⟩;simp only [push_cast,↓zK,↓zJ,↓reduceIte,zA,zB,zC,zD,zE,zF,zG,zH,zI,reduceCtorEq])|apply And.intro|(intro hg;(try simp only [push_cast]at hg)))
 all_goals try exact gA
 all_goals first|(refine hK _ ?_;clear hK K)|(simp only [push_cast];done)
 refine zX ?_
 (try simp only [zR,zS])
 refine⟨Or.inl rfl,?_⟩
 simp only [zg,push_cast,↓zK,↓zJ,↓reduceIte,zA,zB,zC,zD,zE,zF,zG,zH,zI,reduceCtorEq]
set_option maxRecDepth 20000 in
set_option maxHeartbeats 4000000 in
theorem jD (g:Pa)(hg:g.Ln 1048576)(reg plan:List Int)(hw:wy g reg plan):Fn Try.prog tyT 134 [.agg (dPa g), .c (.int .i64 0), .c (DI reg), .c (DI plan)] [.c (.bool true)]:=by
 have hao:=(xe hw.pl).1
 have hal:=zw hao
 have hpf:=yS hw.ok
 have hpl:=hpf.2.1
 have hrl:=hw.rl
 have hrr:=hw.rg
 have hpe:=hw.plen
 have hPo:=Yj g.a hg.a 0 plan (by omega)
 rw [hw.pl]at hPo
 unfold dAr at hPo
 have hP:=XS g hg
 rw [hw.ok]at hP
 have hS:=zGx g hg reg (by omega)
 rw [hpl,hw.set]at hS
 unfold dPa at hP hS⊢
 refine zt (fn:=Try.f134) (ts:= [8]) Try.func134 (by kernel_rfl) rfl rfl (by rw [Try.ntmps134];exact Nat.le_of_ble_eq_true rfl) rfl (by simp only [szA,List.mem_cons,List.not_mem_nil,or_false,forall_eq_or_imp,forall_eq,VT.cells,szL];try decide) ?_
 rw [Try.ntmps134]
 simp only [push_cast,↓zK,↓zJ,↓reduceIte,zA,zB,zC,zD,zE,zF,zG,zH,zI,reduceCtorEq]
 refine zL fun K hK=> ?_
 refine zM zP zN [] rfl ?_
 simp only [push_cast,↓zK,↓zJ,↓reduceIte,zA,zB,zC,zD,zE,zF,zG,zH,zI,reduceCtorEq]
 repeat' apply And.intro
 all_goals try exact gB
 all_goals first|(refine hK _ ?_;clear hK K)|(simp only [push_cast];done)
 refine zL fun K hK=> ?_
 refine zf false zP zN ?_ rfl ?_
 ·kernel_rfl
 all_goals refine zp 2 fun K9 hK9=> ?_
 all_goals simp only [push_cast,↓zK,↓zJ,↓reduceIte,zA,zB,zC,zD,zE,zF,zG,zH,zI,reduceCtorEq]
 all_goals repeat'(first|(apply zO<;>(intro hg;(try simp only [push_cast]at hg)))|(refine⟨_,hP,?_⟩;simp only [push_cast,↓zK,↓zJ,↓reduceIte,zA,zB,zC,zD,zE,zF,zG,zH,zI,reduceCtorEq])|apply And.intro|(intro hg;(try simp only [push_cast]at hg)))
 all_goals try exact gA
 all_goals first|(refine hK9 _ ?_;clear hK9 K9)|(simp only [push_cast];done)
 all_goals refine zp 6 fun K9 hK9=> ?_
 all_goals simp only [push_cast,↓zK,↓zJ,↓reduceIte,zA,zB,zC,zD,zE,zF,zG,zH,zI,reduceCtorEq]
 all_goals repeat'(first|(apply zO<;>(intro hg;(try simp only [push_cast]at hg)))|(refine⟨_,hPo,?_⟩;simp only [push_cast,↓zK,↓zJ,↓reduceIte,zA,zB,zC,zD,zE,zF,zG,zH,zI,reduceCtorEq])|apply And.intro|(intro hg;(try simp only [push_cast]at hg)))
 all_goals try exact gA
 all_goals first|(refine hK9 _ ?_;clear hK9 K9)|(simp only [push_cast];done)
 all_goals refine zp 5 fun K9 hK9=> ?_
 all_goals simp only [push_cast,↓zK,↓zJ,↓reduceIte,zA,zB,zC,zD,zE,zF,zG,zH,zI,reduceCtorEq]
 all_goals repeat'(first|(apply zO<;>(intro hg;(try simp only [push_cast]at hg)))|(refine⟨_,hS,?_⟩;simp only [push_cast,↓zK,↓zJ,↓reduceIte,zA,zB,zC,zD,zE,zF,zG,zH,zI,reduceCtorEq])|apply And.intro|(intro hg;(try simp only [push_cast]at hg)))
 all_goals try exact gA
 all_goals first|(refine hK9 _ ?_;clear hK9 K9)|(simp only [push_cast];done)
 all_goals simp only [push_cast,↓zK,↓zJ,↓reduceIte,zA,zB,zC,zD,zE,zF,zG,zH,zI,reduceCtorEq]
 all_goals repeat'(first|(apply zO<;>(intro hg;(try simp only [push_cast]at hg)))|(refine⟨_,hP,?_⟩;simp only [push_cast,↓zK,↓zJ,↓reduceIte,zA,zB,zC,zD,zE,zF,zG,zH,zI,reduceCtorEq])|(refine⟨_,hPo,?_⟩;simp only [push_cast,↓zK,↓zJ,↓reduceIte,zA,zB,zC,zD,zE,zF,zG,zH,zI,reduceCtorEq])|(refine⟨_,hS,?_⟩;simp only [push_cast,↓zK,↓zJ,↓reduceIte,zA,zB,zC,zD,zE,zF,zG,zH,zI,reduceCtorEq])|apply And.intro|(intro hg;(try simp only [push_cast]at hg)))
 all_goals try exact gA
 all_goals first|(refine hK _ ?_;clear hK K)|(simp only [push_cast];done)
 all_goals(
   refine zX ?_
   (try simp only [zR,zS])
   refine⟨Or.inl rfl,?_⟩
   simp only [zg,push_cast,↓zK,↓zJ,↓reduceIte,zA,zB,zC,zD,zE,zF,zG,zH,zI,reduceCtorEq])
set_option maxRecDepth 20000 in
set_option maxHeartbeats 8000000 in
theorem zBW (g:Pa)(hg:g.Ln 1048576)(reg plan:List Int)(hw:wy g reg plan):Fn Try.prog tyT 102 [.agg (dAr g.a), .c (.int .i64 0), .c (DI reg), .c (DI plan)] [.c (.bool true)]:=by
 have hao:=(xe hw.pl).1
 have hal:=zw hao
 have hpf:=yS hw.ok
 have hpl:=hpf.2.1
 have hrl:=hw.rl
 have hrr:=hw.rg
 have hpe:=hw.plen
 have hPo:=Yj g.a hg.a 0 plan (by omega)
 rw [hw.pl]at hPo
 unfold dAr at hPo
 have hS:=xM reg g.a.owner.length (by omega) (by omega) (by omega)
 rw [hw.set]at hS
 have hM:=zDb reg g.a.owner.length (by omega) (by omega) hrr
 have hml:=Yy reg g.a.owner.length reg.length
 have hown:=hw.own
 have hopp:=hw.opp
 have hprg:=fun v hv h0=>hw.prg (v:=v) hv h0
 have hrow:=fun v hv=>(yG hao (v:=v) hv).2.2
 have hset:=fun v j hv hj=>vK (yG hao (v:=v) hv).2.2.2.2 (j:=j) hj
 generalize mkS reg g.a.owner.length reg.length=mk at*
 unfold dAr
 refine zt (fn:=Try.f102) (ts:= [8]) Try.func102 (by kernel_rfl) rfl rfl (by rw [Try.ntmps102];exact Nat.le_of_ble_eq_true rfl) rfl (by simp only [szA,List.mem_cons,List.not_mem_nil,or_false,forall_eq_or_imp,forall_eq,VT.cells,szL];try decide) ?_
 rw [Try.ntmps102]
 simp only [push_cast,↓zK,↓zJ,↓reduceIte,zA,zB,zC,zD,zE,zF,zG,zH,zI,reduceCtorEq]
 refine zL fun K hK=> ?_
 refine zM zP zN [] rfl ?_
 all_goals simp only [push_cast,↓zK,↓zJ,↓reduceIte,zA,zB,zC,zD,zE,zF,zG,zH,zI,reduceCtorEq]
 all_goals repeat'(first|(apply zO<;>(intro hg;(try simp only [push_cast]at hg)))|apply And.intro|(intro hg;(try simp only [push_cast]at hg)))
 all_goals first|exact gA|(exact zQ (by omega))|skip
 all_goals first|(refine hK _ ?_;clear hK K)|(simp only [push_cast];done)
 refine zL fun K1 hK1=> ?_
 refine zL fun K hK=> ?_
 refine zf false zP zN ?_ rfl ?_
 ·kernel_rfl
 all_goals refine zp 4 fun K9 hK9=> ?_
 all_goals simp only [push_cast,↓zK,↓zJ,↓reduceIte,zA,zB,zC,zD,zE,zF,zG,zH,zI,reduceCtorEq]
 all_goals repeat'(first|(apply zO<;>(intro hg;(try simp only [push_cast]at hg)))|(refine⟨_,hPo,?_⟩;simp only [push_cast,↓zK,↓zJ,↓reduceIte,zA,zB,zC,zD,zE,zF,zG,zH,zI,reduceCtorEq])|apply And.intro|(intro hg;(try simp only [push_cast]at hg)))
 all_goals first|exact gA|(exact zQ (by omega))|skip
 all_goals first|(refine hK9 _ ?_;clear hK9 K9)|(simp only [push_cast];done)
 all_goals refine zp 7 fun K9 hK9=> ?_
 all_goals simp only [push_cast,↓zK,↓zJ,↓reduceIte,zA,zB,zC,zD,zE,zF,zG,zH,zI,reduceCtorEq]
 all_goals repeat'(first|(apply zO<;>(intro hg;(try simp only [push_cast]at hg)))|(refine⟨_,hS,?_⟩;simp only [push_cast,↓zK,↓zJ,↓reduceIte,zA,zB,zC,zD,zE,zF,zG,zH,zI,reduceCtorEq])|apply And.intro|(intro hg;(try simp only [push_cast]at hg)))
 all_goals first|exact gA|(exact zQ (by omega))|skip
 all_goals first|(refine hK9 _ ?_;clear hK9 K9)|(simp only [push_cast];done)
 all_goals simp only [push_cast,↓zK,↓zJ,↓reduceIte,zA,zB,zC,zD,zE,zF,zG,zH,zI,reduceCtorEq]
 all_goals repeat'(first|(apply zO<;>(intro hg;(try simp only [push_cast]at hg)))|(refine⟨_,hPo,?_⟩;simp only [push_cast,↓zK,↓zJ,↓reduceIte,zA,zB,zC,zD,zE,zF,zG,zH,zI,reduceCtorEq])|(refine⟨_,hS,?_⟩;simp only [push_cast,↓zK,↓zJ,↓reduceIte,zA,zB,zC,zD,zE,zF,zG,zH,zI,reduceCtorEq])|apply And.intro|(intro hg;(try simp only [push_cast]at hg)))
 all_goals first|exact gA|(exact zQ (by omega))|skip
 all_goals first|(refine hK _ ?_;clear hK K)|(simp only [push_cast];done)
 all_goals(
   refine zU rfl (fun hc=> ?_) (fun hc=> ?_)
   skip
   ·exfalso;first|(cases hc;done)|(simp only [push_cast]at hc;done)|(simp only [push_cast]at hc;omega)|omega
   refine zV ?_
   (try simp only [zR,zS,reduceIte,zF]);refine hK1 _ ?_
   refine zL fun K hK=> ?_
   refine zM zP zN [] rfl ?_
   all_goals refine zm 5 fun K9 hK9=> ?_
   all_goals simp only [push_cast,↓zK,↓zJ,↓reduceIte,zA,zB,zC,zD,zE,zF,zG,zH,zI,reduceCtorEq]
   all_goals repeat'(first|(apply zO<;>(intro hg;(try simp only [push_cast]at hg)))|(refine⟨_,hM,?_⟩;simp only [push_cast,↓zK,↓zJ,↓reduceIte,zA,zB,zC,zD,zE,zF,zG,zH,zI,reduceCtorEq])|apply And.intro|(intro hg;(try simp only [push_cast]at hg)))
   all_goals first|exact gA|(exact zQ (by omega))|skip
   all_goals first|(refine hK9 _ ?_;clear hK9 K9)|(simp only [push_cast];done)
   all_goals simp only [push_cast,↓zK,↓zJ,↓reduceIte,zA,zB,zC,zD,zE,zF,zG,zH,zI,reduceCtorEq]
   all_goals repeat'(first|(apply zO<;>(intro hg;(try simp only [push_cast]at hg)))|(refine⟨_,hM,?_⟩;simp only [push_cast,↓zK,↓zJ,↓reduceIte,zA,zB,zC,zD,zE,zF,zG,zH,zI,reduceCtorEq])|apply And.intro|(intro hg;(try simp only [push_cast]at hg)))
   all_goals first|exact gA|(exact zQ (by omega))|skip
   all_goals first|(refine hK _ ?_;clear hK K)|(simp only [push_cast];done)
   refine zL fun K2 hK2=> ?_
   refine zL fun K hK=> ?_
   refine zM zP zN [] rfl ?_
   all_goals simp only [push_cast,↓zK,↓zJ,↓reduceIte,zA,zB,zC,zD,zE,zF,zG,zH,zI,reduceCtorEq]
   all_goals repeat'(first|(apply zO<;>(intro hg;(try simp only [push_cast]at hg)))|apply And.intro|(intro hg;(try simp only [push_cast]at hg)))
   all_goals first|exact gA|(exact zQ (by omega))|skip
   all_goals first|(refine hK _ ?_;clear hK K)|(simp only [push_cast];done)
   refine zT ?_
   refine zd [8,10,11,12,18,31,32,33,34,35,36,37,38,39,40,41,42,43,44,45,46,47,48,49,50,51,52,53,54,55,56,57,58,59,60,61,62,63,64,65,66,67,68,69,70,71,72,73,74,75,76,77,78,79,80,81,82,83,84] [] (fun(i:Nat)=> [(10, .int .i64 i)]) (fun i=> []) (fun i=> []) (fun i=>i≤reg.length) (fun i=>reg.length - i) 0 ?_ (by omega) ?_
   ·
    refine zW rfl ?_ ?_ ?_<;>simp only [zc,zb,push_cast,↓zK,↓zJ,↓reduceIte,zA,zB,zC,zD,zE,zF,zG,zH,zI,reduceCtorEq]
   ·rintro i hi KL0 hL0
    simp only [push_cast,↓zK,↓zJ,↓reduceIte,zA,zB,zC,zD,zE,zF,zG,zH,zI,reduceCtorEq]
    refine zL fun K3 hK3=> ?_
    refine zL fun K hK=> ?_
    refine zM zP zN [] rfl ?_
    all_goals simp only [push_cast,↓zK,↓zJ,↓reduceIte,zA,zB,zC,zD,zE,zF,zG,zH,zI,reduceCtorEq]
    all_goals repeat'(first|(apply zO<;>(intro hg;(try simp only [push_cast]at hg)))|apply And.intro|(intro hg;(try simp only [push_cast]at hg)))
    all_goals first|exact gA|(exact zQ (by omega))|skip
    all_goals first|(refine hK _ ?_;clear hK K)|(simp only [push_cast];done)
    refine zU rfl (fun hc=> ?_) (fun hc=> ?_)<;>(try simp only [push_cast]at hc)
    ·
     refine zV ?_
     (try simp only [zR,zS,reduceIte,zF]);refine hK3 _ ?_
     refine zL fun K4 hK4=> ?_
     refine zT ?_
     refine zL fun K hK=> ?_
     refine zM zP zN [] rfl ?_
     all_goals simp only [push_cast,↓zK,↓zJ,↓reduceIte,zA,zB,zC,zD,zE,zF,zG,zH,zI,reduceCtorEq]
     all_goals repeat'(first|(apply zO<;>(intro hg;(try simp only [push_cast]at hg)))|apply And.intro|(intro hg;(try simp only [push_cast]at hg)))
     all_goals first|exact gA|(exact zQ (by omega))|skip
     all_goals first|(refine hK _ ?_;clear hK K)|(simp only [push_cast];done)
     refine zL fun K5 hK5=> ?_
     have hri:=hrr i (by omega)
     obtain⟨v,hv9⟩: ∃v:Nat,gi reg i=(v:Int):=⟨_,(Int.toNat_of_nonneg hri.1).symm⟩
     rw [hv9]at hri⊢
     have hvn:v<g.a.owner.length:=by omega
     have hrv:=(hrow v hvn).2.1
     refine zL fun K hK=> ?_
     refine zM zP zN [] rfl ?_
     all_goals simp only [push_cast,↓zK,↓zJ,↓reduceIte,zA,zB,zC,zD,zE,zF,zG,zH,zI,reduceCtorEq]
     all_goals repeat'(first|(apply zO<;>(intro hg;(try simp only [push_cast]at hg)))|apply And.intro|(intro hg;(try simp only [push_cast]at hg)))
     all_goals first|exact gA|(exact zQ (by omega))|skip
     all_goals first|(refine hK _ ?_;clear hK K)|(simp only [push_cast];done)
     refine zU rfl (fun hc=> ?_) (fun hc=> ?_)<;>(try simp only [push_cast]at hc)
     ·
      refine zL fun K6 hK6=> ?_
      have hov:=hown i v (by omega) hv9 (by omega)
      have hpv:=hprg v hvn hov.1
      refine zL fun K hK=> ?_
      refine zf false zP zN ?_ rfl ?_
      ·kernel_rfl
      all_goals simp only [push_cast,↓zK,↓zJ,↓reduceIte,zA,zB,zC,zD,zE,zF,zG,zH,zI,reduceCtorEq]
      all_goals repeat'(first|(apply zO<;>(intro hg;(try simp only [push_cast]at hg)))|apply And.intro|(intro hg;(try simp only [push_cast]at hg)))
      all_goals first|exact gA|(exact zQ (by omega))|skip
      all_goals first|(refine hK _ ?_;clear hK K)|(simp only [push_cast];done)
      all_goals(
        refine zU rfl (fun hc=> ?_) (fun hc=> ?_)
        skip
        ·exfalso;first|(cases hc;done)|(simp only [push_cast]at hc;omega)|(rw [hov.2]at hc;cases hc)|(simp only [push_cast]at hc;rw [hov.2]at hc;cases hc)
        refine zV ?_
        (try simp only [zR,zS,reduceIte,zF]);refine hK6 _ ?_
        refine ze ?_
        (try simp only [zR,zS,reduceIte,zF]);refine hK4 _ ?_
        refine zM zP zN [] rfl ?_
        all_goals simp only [push_cast,↓zK,↓zJ,↓reduceIte,zA,zB,zC,zD,zE,zF,zG,zH,zI,reduceCtorEq]
        all_goals repeat'(first|(apply zO<;>(intro hg;(try simp only [push_cast]at hg)))|apply And.intro|(intro hg;(try simp only [push_cast]at hg)))
        all_goals first|exact gA|(exact zQ (by omega))|skip
        refine hL0 _ ⟨i+1,by omega,by omega,?_⟩
        refine zW rfl ?_ ?_ ?_<;>simp only [zc,zb,push_cast,↓zK,↓zJ,↓reduceIte,zA,zB,zC,zD,zE,zF,zG,zH,zI,reduceCtorEq])
     ·
      refine zV ?_
      (try simp only [zR,zS,reduceIte,zF]);refine hK5 _ ?_
      refine zL fun K hK=> ?_
      refine zM zP zN [] rfl ?_
      all_goals simp only [push_cast,↓zK,↓zJ,↓reduceIte,zA,zB,zC,zD,zE,zF,zG,zH,zI,reduceCtorEq]
      all_goals repeat'(first|(apply zO<;>(intro hg;(try simp only [push_cast]at hg)))|apply And.intro|(intro hg;(try simp only [push_cast]at hg)))
      all_goals first|exact gA|(exact zQ (by omega))|skip
      all_goals first|(refine hK _ ?_;clear hK K)|(simp only [push_cast];done)
      refine zT ?_
      refine zd [8,12,18,53,63,64,65,66,67,68,69,70,71,72,73,74,75,76,77,78,79,80,81,82,83,84] [] (fun(k:Nat)=> [(12, .int .i64 k)]) (fun k=> []) (fun k=> []) (fun k=>k≤(gl g.a.next v).length) (fun k=>(gl g.a.next v).length - k) 0 ?_ (by omega) ?_
      ·
       refine zW rfl ?_ ?_ ?_<;>simp only [zc,zb,push_cast,↓zK,↓zJ,↓reduceIte,zA,zB,zC,zD,zE,zF,zG,zH,zI,reduceCtorEq]
      ·rintro k hk KL1 hL1
       simp only [push_cast,↓zK,↓zJ,↓reduceIte,zA,zB,zC,zD,zE,zF,zG,zH,zI,reduceCtorEq]
       refine zL fun K7 hK7=> ?_
       refine zL fun K hK=> ?_
       refine zM zP zN [] rfl ?_
       all_goals simp only [push_cast,↓zK,↓zJ,↓reduceIte,zA,zB,zC,zD,zE,zF,zG,zH,zI,reduceCtorEq]
       all_goals repeat'(first|(apply zO<;>(intro hg;(try simp only [push_cast]at hg)))|apply And.intro|(intro hg;(try simp only [push_cast]at hg)))
       all_goals first|exact gA|(exact zQ (by omega))|skip
       all_goals first|(refine hK _ ?_;clear hK K)|(simp only [push_cast];done)
       refine zU rfl (fun hc=> ?_) (fun hc=> ?_)<;>(try simp only [push_cast]at hc)
       ·
        refine zV ?_
        (try simp only [zR,zS,reduceIte,zF]);refine hK7 _ ?_
        refine zL fun K8 hK8=> ?_
        refine zT ?_
        have hoj:=hopp i v (by omega) hv9 (by omega) k (by omega)
        have hsj:=hset v k hvn (by omega)
        refine zL fun K hK=> ?_
        refine zM zP zN [] rfl ?_
        all_goals simp only [push_cast,↓zK,↓zJ,↓reduceIte,zA,zB,zC,zD,zE,zF,zG,zH,zI,reduceCtorEq]
        all_goals repeat'(first|(apply zO<;>(intro hg;(try simp only [push_cast]at hg)))|apply And.intro|(intro hg;(try simp only [push_cast]at hg)))
        all_goals first|exact gA|(exact zQ (by omega))|skip
        all_goals first|(refine hK _ ?_;clear hK K)|(simp only [push_cast];done)
        refine zU rfl (fun hc=> ?_) (fun hc=> ?_)
        skip
        ·exfalso;simp only [push_cast]at hc;rw [hoj]at hc;cases hc
        refine zV ?_
        (try simp only [zR,zS,reduceIte,zF]);refine hK8 _ ?_
        refine zM zP zN [] rfl ?_
        all_goals simp only [push_cast,↓zK,↓zJ,↓reduceIte,zA,zB,zC,zD,zE,zF,zG,zH,zI,reduceCtorEq]
        all_goals repeat'(first|(apply zO<;>(intro hg;(try simp only [push_cast]at hg)))|apply And.intro|(intro hg;(try simp only [push_cast]at hg)))
        all_goals first|exact gA|(exact zQ (by omega))|skip
        refine hL1 _ ⟨k+1,by omega,by omega,?_⟩
        refine zW rfl ?_ ?_ ?_<;>simp only [zc,zb,push_cast,↓zK,↓zJ,↓reduceIte,zA,zB,zC,zD,zE,zF,zG,zH,zI,reduceCtorEq]
       ·
        refine ze ?_
        (try simp only [zR,zS,reduceIte,zF]);refine hK4 _ ?_
        refine zM zP zN [] rfl ?_
        all_goals simp only [push_cast,↓zK,↓zJ,↓reduceIte,zA,zB,zC,zD,zE,zF,zG,zH,zI,reduceCtorEq]
        all_goals repeat'(first|(apply zO<;>(intro hg;(try simp only [push_cast]at hg)))|apply And.intro|(intro hg;(try simp only [push_cast]at hg)))
        all_goals first|exact gA|(exact zQ (by omega))|skip
        refine hL0 _ ⟨i+1,by omega,by omega,?_⟩
        refine zW rfl ?_ ?_ ?_<;>simp only [zc,zb,push_cast,↓zK,↓zJ,↓reduceIte,zA,zB,zC,zD,zE,zF,zG,zH,zI,reduceCtorEq]
    ·
     refine ze ?_
     (try simp only [zR,zS,reduceIte,zF]);refine hK2 _ ?_
     refine zL fun K hK=> ?_
     refine zM zP zN [] rfl ?_
     all_goals simp only [push_cast,↓zK,↓zJ,↓reduceIte,zA,zB,zC,zD,zE,zF,zG,zH,zI,reduceCtorEq]
     all_goals repeat'(first|(apply zO<;>(intro hg;(try simp only [push_cast]at hg)))|apply And.intro|(intro hg;(try simp only [push_cast]at hg)))
     all_goals first|exact gA|(exact zQ (by omega))|skip
     all_goals first|(refine hK _ ?_;clear hK K)|(simp only [push_cast];done)
     refine zX ?_
     (try simp only [zR,zS])
     refine⟨Or.inl rfl,?_⟩
     simp only [zg,push_cast,↓zK,↓zJ,↓reduceIte,zA,zB,zC,zD,zE,zF,zG,zH,zI,reduceCtorEq])
end Go.Proofs.Ytdbecmmeifdafaa
