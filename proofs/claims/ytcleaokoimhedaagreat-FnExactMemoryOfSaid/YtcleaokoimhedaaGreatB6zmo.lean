/- Plain lemmas that all walks of this seat use: endings, old memory below a block number, bounds tests. No program. -/
import Derived.WalkKit
import Derived.ProofKit
import Derived.OpenShut
import Derived.Lib.Hide
import Derived.Lib.SmallJoins
import Derived.Deep.QuietTactic
import Derived.BigQuiet
import Derived.RegionTactic
import Derived.ChangeAlike
import Derived.StillTailTactics
import Derived.Test.YtcleaokoimhedaaGreatGDzmo
import Derived.Deep.Slices
namespace Go.Proofs.YtcleaokoimhedaaGreat
open Nat renaming reduceMod → zA, reduceMul → zB, reduceDiv → zC, reduceAdd → zD, reduceSub → zE, reduceEqDiff → zF, reduceBEq → zG, reduceLT → zH, reduceLeDiff → zI
open Go.ChangeShapes Go.WideShapes Go.ChangeAt Go.RowKit
def inB (x lo hi:Int):Bool:=decide (lo≤x∧x≤hi)
section
variable {H:Type} {enc:TypeId×Value→H} {P:Program}
theorem zBj {f:Func}{s:ChangeSpec}{apart fresh handsOn again:Bool}{W W':World}{args:Array Value}{v:Value}{ds gs:List (DataW H)}{before pa pv:List MemPlace}
  (hW:DataW.Whole enc P f.params.toList s.vars apart W args.toList ds gs before)
  (hres: ∀(b:Nat) (sp:Nat→Bool) (hd:Bool),DataW.TrodAll enc P W' b sp hd f.resultTypes.toList (v.resultList f.resultTypes.size) (s.fn H (ds++gs)).results [])
  (hargs: ∀sp:Nat→Bool,(∀p∈before,sp p.block=true)→DataW.TrodAll enc P W' 0 sp true f.params.toList args.toList (s.fn H (ds++gs)).args pa)
  (hvars: ∀sp:Nat→Bool,(∀p∈before,sp p.block=true)→DataW.TrodVars enc P W' sp s.vars (s.fn H (ds++gs)).vars pv)
  (hps:before=pa++pv) (hb:Below W.heap.size W W')
  (hok: ∀(j:Nat) (t:TypeId) (r:Value),f.resultTypes[j]? =some t→(v.resultList f.resultTypes.size)[j]? =some r→Value.okWide P W' .any 0 t r):
  s.post enc P f apart fresh handsOn again W args v W':=by
 have hlt: ∀p∈before,p.block<W.heap.size:=fun p hp=>hW.lt p hp
 have hold: ∀p∈before,(fun b=>decide (b<W.heap.size)) p.block=true:=fun p hp=>by simpa using hlt p hp
 refine⟨ds,gs,before,[],pa,pv,hW,hres _ _ _,hargs _ hold,hvars _ hold,World.keptBut_mono (fun p hp=>⟨hp,?_⟩) (hb.frame (· ∈before)),fun _=> ?_⟩
 ·rw [hps,List.mem_append]at hp
  exact Or.inr hp
 ·obtain⟨_,_,_,_,_,hz,hn⟩:=hW
  refine⟨hok,_,_,([]++pa)++pv,⟨[]++pa,pv,trodAll_append (hargs _ (fun _ _=>rfl)) (hres _ _ _),hvars _ (fun _ _=>rfl),rfl,?_,?_⟩,?_⟩
  ·intro b off hp
   have hin:MemPlace.cell b off∈before:=by rw [hps];simpa using hp
   rw [hb.frozen (hlt _ hin)]
   exact hz b off hin
  ·intro ha
   have :=hn ha
   rw [hps]at this
   simpa using this
  ·intro p hp _
   rw [hps]
   simpa using hp
theorem zDw (hl:laidOutB P=true){W W':World}{sp:Nat→Bool}(hb:Below W.heap.size W W'): ∀(ts:List TypeId) (vs:List Value) (ds:List (DataW H)) (ps:List MemPlace),
  (∀t∈ts,P.readableRec t=true∧t<P.types.size)→DataW.TrodAll enc P W 0 (fun _=>true) true ts vs ds ps→(∀x∈ps,x.block<W.heap.size)→(∀x∈ps,sp x.block=true)→DataW.TrodAll enc P W' 0 sp true ts vs ds ps
 | [],vs,ds,ps,_,h,_,_=>by
  obtain⟨rfl,rfl,rfl⟩:=trodAll_nil h
  exact trodAll_mk0
 |t::ts,vs,ds,ps,ht,h,hlt,hs=>by
  obtain⟨v,vs',d,ds',p,q,rfl,rfl,rfl,h0,h1⟩:=trodAll_cons h
  have ht0:=ht t (by simp)
  exact trodAll_cons_mk (WideElems.Trod_stays hl ht0.1 ht0.2 h0 (fun x hx=>hb.same (hlt x (by simp [hx]))) (fun x hx=>hs x (by simp [hx])))
   (zDw hl hb ts vs' ds' q (fun u hu=>ht u (by simp [hu])) h1 (fun x hx=>hlt x (by simp [hx])) (fun x hx=>hs x (by simp [hx])))
theorem zJN {f:Func}{s:ChangeSpec}{fresh handsOn again:Bool}{tb:TypeId}{W W':World}{args:Array Value}{ds gs:List (DataW H)}{before:List MemPlace}
  (hl:laidOutB P=true) (hts: ∀t∈f.params.toList,P.readableRec t=true∧t<P.types.size) (hr:f.resultTypes= #[tb]) (htb:P.underlying tb=some .bool) (hv:s.vars= [])
  (hW:DataW.Whole enc P f.params.toList s.vars false W args.toList ds gs before) (hs1:(s.fn H (ds++gs)).results= [.lit (.bool true)]) (hs2:(s.fn H (ds++gs)).args=ds)
  (hs3:(s.fn H (ds++gs)).vars= []) (hb:Below W.heap.size W W') (hk: ∀W':World,Value.okWide P W' .any 0 tb (.bool true)):s.post enc P f false fresh handsOn again W args (.bool true) W':=by
 have hW0:=hW
 obtain⟨p,q,hA,hV,rfl,hfz,hnd⟩:=hW
 rw [hv]at hV
 obtain⟨rfl,rfl⟩:=trodVars_none hV
 have hlt: ∀x∈p,x.block<W.heap.size:=fun x hx=>hW0.lt x (by simp [hx])
 refine zBj (pa:=p) (pv:= []) hW0 (fun b sp hd=> ?_) (fun sp hs=> ?_) (fun sp _=> ?_) rfl hb ?_
 ·rw [hs1,hr]
  exact trodAll_mk1 (shut_bool htb true)
 ·rw [hs2]
  exact zDw hl hb _ _ _ _ hts hA hlt (fun x hx=>hs x (by simp [hx]))
 ·rw [hs3,hv]
  rfl
 ·intro j t r hj hrj
  rw [hr]at hj hrj
  have :j=0:=by
   rcases Nat.eq_zero_or_pos j with h|h
   ·exact h
   ·rw [Array.getElem?_eq_none (by simp;omega)]at hj;cases hj
  subst this
  simp [Value.resultList]at hj hrj
  subst hj;subst hrj
  exact hk _
end
open Go.RowKit
set_option linter.unusedVariables false
set_option linter.unusedSimpArgs false
def Za (n:Nat)(p:Nat→Bool):Bool:=(List.range n).all p
theorem wn {n:Nat}{p:Nat→Bool}(h: ∀k,k<n→p k=true):Za n p=true:=by
 unfold Za;rw [List.all_eq_true];intro k hk;exact h k (List.mem_range.1 hk)
theorem YT {n k:Nat}{p:Nat→Bool}(hk:k<n)(h:p k=false):Za n p=false:=by
 unfold Za;rw [List.all_eq_false];exact⟨k,List.mem_range.2 hk,by simp [h]⟩
theorem va {n k:Nat}{p:Nat→Bool}(h:Za n p=true)(hk:k<n):p k=true:=by
 unfold Za at h;rw [List.all_eq_true]at h;exact h k (List.mem_range.2 hk)
def qr (xs:List Int)(n:Int)(k:Nat):Bool:=decide (0≤gi xs k∧gi xs k<n∧(k=0∨gi xs (k - 1)<gi xs k))
def xN (xs:List Int)(n:Int):Bool:=Za xs.length (qr xs n)
theorem zNv {xs:List Int}{n:Int}(h:xN xs n=true): ∀k,k<xs.length→(k:Int)≤gi xs k:=by
 intro k
 induction k with
 |zero=>
  intro hk
  have :=va h hk
  unfold qr at this
  have :=of_decide_eq_true this
  omega
 |succ k ih=>
  intro hk
  have h1:=ih (by omega)
  have :=va h hk
  unfold qr at this
  have :=of_decide_eq_true this
  simp at this
  omega
theorem zMC {xs:List Int}{n:Int}(h:xN xs n=true)(h0:0≤n):(xs.length:Int)≤n:=by
 rcases Nat.eq_zero_or_pos xs.length with h1|h1
 ·omega
 ·have h2:=zNv h (xs.length - 1) (by omega)
  have h3:=va h (k:=xs.length - 1) (by omega)
  unfold qr at h3
  have h3:=of_decide_eq_true h3
  omega
def VQ (a:Ar)(v:Nat):Bool:=decide (0≤gi a.owner v∧gi a.owner v≤1∧1≤(gl a.next v).length∧(gl a.next v).length≤16)
def vb (a:Ar)(v:Nat):Bool:=VQ a v&&xN (gl a.next v) a.owner.length
def yi (a:Ar):Bool:=decide (1≤a.owner.length∧a.owner.length≤256∧a.next.length=a.owner.length)&&Za a.owner.length (vb a)
theorem Jq {a:Ar}(h: ¬(1≤a.owner.length∧a.owner.length≤256∧a.next.length=a.owner.length)):yi a=false:=by
 unfold yi;rw [decide_eq_false h];rfl
theorem Jr {a:Ar}{v:Nat}(hv:v<a.owner.length)(h:vb a v=false):yi a=false:=by
 unfold yi;rw [YT hv h];simp
theorem XH {a:Ar}(h:1≤a.owner.length∧a.owner.length≤256∧a.next.length=a.owner.length)(h2: ∀v,v<a.owner.length→vb a v=true):yi a=true:=by
 unfold yi;rw [decide_eq_true h,wn h2];rfl
theorem yQ {a:Ar}(h:yi a=true):1≤a.owner.length∧a.owner.length≤256∧a.next.length=a.owner.length:=by
 unfold yi at h
 rw [Bool.and_eq_true]at h
 exact of_decide_eq_true h.1
theorem yl {a:Ar}(h:yi a=true){v:Nat}(hv:v<a.owner.length):0≤gi a.owner v∧gi a.owner v≤1∧1≤(gl a.next v).length∧(gl a.next v).length≤16∧xN (gl a.next v) a.owner.length=true:=by
 unfold yi at h
 rw [Bool.and_eq_true]at h
 have :=va h.2 hv
 unfold vb VQ at this
 rw [Bool.and_eq_true]at this
 have h1:=of_decide_eq_true this.1
 exact⟨h1.1,h1.2.1,h1.2.2.1,h1.2.2.2,this.2⟩
def vH (xs:List Int)(x:Int):Nat:=xs.findIdx (fun y=>y==x)
def yI (xs:List Int)(x:Int):Bool:=decide (vH xs x<xs.length)
def ixB (xs:List Int)(x:Int):Int:=if vH xs x<xs.length then(vH xs x:Int)else -1
theorem zAE {xs:List Int}{x:Int}{k:Nat}(hk:k<xs.length)(h: ∀j,j<k→¬gi xs j=x)(he:gi xs k=x):vH xs x=k:=by
 unfold vH
 rw [List.findIdx_eq hk]
 have hg: ∀j (hj:j<xs.length),xs[j]=gi xs j:=fun j hj=>by unfold gi;rw [List.getD_eq_getElem?_getD,List.getElem?_eq_getElem hj];rfl
 refine⟨by rw [hg,he];simp,fun j hj=> ?_⟩
 rw [hg]
 simpa using h j hj
theorem zA7 {xs:List Int}{x:Int}(h: ∀j,j<xs.length→¬gi xs j=x):vH xs x=xs.length:=by
 unfold vH
 rw [List.findIdx_eq_length]
 intro y hy
 obtain⟨j,hj,rfl⟩:=List.mem_iff_getElem.1 hy
 have :=h j hj
 unfold gi at this
 rw [List.getD_eq_getElem?_getD,List.getElem?_eq_getElem hj]at this
 simpa using this
theorem zE9 (xs:List Int)(x:Int):vH xs x≤xs.length:=List.findIdx_le_length
theorem zHJ {xs:List Int}{x:Int}(h:vH xs x<xs.length):gi xs (vH xs x)=x:=by
 unfold vH at h⊢
 have :=List.findIdx_getElem (w:=h)
 unfold gi
 rw [List.getD_eq_getElem?_getD,List.getElem?_eq_getElem h]
 simpa using this
theorem zEQ {xs:List Int}{x:Int}{j:Nat}(h:j<vH xs x): ¬gi xs j=x:=by
 have hl:j<xs.length:=Nat.lt_of_lt_of_le h (zE9 xs x)
 unfold vH at h
 have :=List.not_of_lt_findIdx h
 unfold gi
 rw [List.getD_eq_getElem?_getD,List.getElem?_eq_getElem hl]
 simpa using this
theorem xe (xs:List Int)(x:Int):yI xs x=true↔x∈xs:=by
 unfold yI
 rw [decide_eq_true_eq]
 unfold vH
 rw [List.findIdx_lt_length]
 constructor
 ·rintro⟨y,hy,he⟩
  have :y=x:=by simpa using he
  exact this ▸ hy
 ·exact fun h=>⟨x,h,by simp⟩
theorem zHe {xs:List Int}{x:Int}{k:Nat}(hk:k<xs.length)(h: ∀j,j<k→¬gi xs j=x)(he:gi xs k=x):ixB xs x=k:=by
 unfold ixB;rw [zAE hk h he,if_pos hk]
theorem zJI {xs:List Int}{x:Int}(h: ∀j,j<xs.length→¬gi xs j=x):ixB xs x= -1:=by
 unfold ixB;rw [zA7 h,if_neg (by omega)]
theorem zLb (xs:List Int)(x:Int):decide (0≤ixB xs x)=yI xs x:=by
 unfold ixB yI
 by_cases h:vH xs x<xs.length
 ·rw [if_pos h];simp [h]
 ·rw [if_neg h];simp [h]
def zN3 (n:Nat)(v:Int):Bool:=inB v 0 ((n:Int) - 1)
def Jl (l:Ls):List Int:=l.stem++l.loop++ [gi l.loop 0]
def edgeB (a:Ar)(u v:Int):Bool:=yI (gl a.next u.toNat) v
def zB3 (a:Ar)(way:List Int)(i:Nat):Bool:=decide (i=0)||edgeB a (gi way (i - 1)) (gi way i)
def zLd (a:Ar)(way:List Int)(i:Nat):Bool:=zN3 a.owner.length (gi way i)&&zB3 a way i
def lenB (l:Ls):Bool:=decide (l.stem.length≤256∧1≤l.loop.length∧l.loop.length≤256)
def zNT (a:Ar)(l:Ls):Bool:=lenB l&&Za (Jl l).length (zLd a (Jl l))
theorem Zk {xs ys:List Int}{k:Nat}(h:k<xs.length):gi (xs++ys) k=gi xs k:=by
 unfold gi;rw [List.getD_eq_getElem?_getD,List.getElem?_append_left h];rfl
theorem KR {xs:List Int}{y:Int}:gi (xs++ [y]) xs.length=y:=by
 unfold gi;rw [List.getD_eq_getElem?_getD,List.getElem?_append_right (Nat.le_refl _)];simp
structure WOk (a:Wt)(bd:Int):Prop where
 n1:1≤a.a.owner.length
 n24:a.a.owner.length≤24
 next:a.a.next.length=a.a.owner.length
 cost:a.cost.length=a.a.owner.length
 own: ∀v,v<a.a.owner.length→0≤gi a.a.owner v∧gi a.a.owner v≤1
 deg: ∀v,v<a.a.owner.length→1≤(gl a.a.next v).length∧(gl a.a.next v).length≤16
 set_: ∀v,v<a.a.owner.length→xN (gl a.a.next v) a.a.owner.length=true
 row: ∀v,v<a.a.owner.length→(gl a.cost v).length=(gl a.a.next v).length
 bd: ∀v k,v<a.a.owner.length→k<(gl a.cost v).length→ -bd≤gi (gl a.cost v) k∧gi (gl a.cost v) k≤bd
def zKA (a:Wt)(v:Nat)(u:Int):Int:=gi (gl a.cost v) (vH (gl a.a.next v) u)
theorem Xs {xs:List (List Int)}{B:Nat}(h:qV B xs)(v:Nat):(gl xs v).length≤B:=by
 rcases Nat.lt_or_ge v xs.length with hv|hv
 ·exact h.2 _ (List.mem_of_getElem? (Zs hv))
 ·unfold gl;rw [List.getD_eq_getElem?_getD,List.getElem?_eq_none hv];simp
set_option maxHeartbeats 1000000 in
theorem xJ (x lo hi:Int):Fn Tryz.prog tyT 44 [.c (.int .i64 x), .c (.int .i64 lo), .c (.int .i64 hi)] [.c (.bool (decide (lo≤x∧x≤hi)))]:=by
 refine θH (ts:= [6]) Tryz.func44 Tryz.ntmps44 ?_
 push_cast [↓zK,↓zJ]
 refine θA ?_
 refine zL fun K hK=> ?_
 refine zf false zO zN ?_ rfl ?_
 ·kernel_rfl
 push_cast [↓zK,↓zJ]
 repeat'(first|(apply zP<;>(intro hg;(try simp only [push_cast]at hg)))|apply And.intro|(intro hg;(try simp only [push_cast]at hg)))
 all_goals try exact gA
 all_goals(refine hK _ ?_;clear hK K)
 all_goals refine zZ ?_
 all_goals(try simp only [zR,zS])
 all_goals refine⟨Or.inl rfl,?_⟩
 all_goals push_cast [zd,↓zK,↓zJ]
 ·rw [decide_eq_decide];omega
 ·symm;rw [decide_eq_false_iff_not];omega
set_option maxHeartbeats 2000000 in
theorem xS (xs:List Int)(n:Int)(hl:xs.length≤1048576):Fn Tryz.prog tyT 53 [.c (DI xs), .c (.int .i64 n)] [.c (.bool (xN xs n))]:=by
 refine θH (ts:= [4]) Tryz.func53 Tryz.ntmps53 ?_
 push_cast [↓zK,↓zJ]
 refine θA ?_
 refine zL fun K1 hK1=> ?_
 refine θA ?_
 refine zV ?_
 refine zg [4,5,6,9,10,11,12,13,14,15,16,17,18,19,20,21,22,23,24,25,26,27,28,29,30,31,32,33,34] [] (fun k:Nat=> [(9, .int .i64 k)]) (fun _=> []) (fun k=> []) (fun k=>k≤xs.length∧∀j,j<k→qr xs n j=true) (fun k=>xs.length - k) 0 ?_ ⟨by omega,fun j hj=>by omega⟩ ?_
 ·exact θX
 ·rintro k ⟨hk,hall⟩ K0 hK0
  push_cast [↓zK,↓zJ]
  refine θA ?_
  refine zL fun K2 hK2=> ?_
  refine θU (fun hc=> ?_) fun hc=> ?_
  ·refine zU ?_
   refine hK2 _ ?_
   refine zL fun K3 hK3=> ?_
   refine zV ?_
   refine θA ?_
   refine zL fun K hK=> ?_
   refine zf false zO zN ?_ rfl ?_
   ·kernel_rfl
   push_cast [↓zK,↓zJ]
   repeat'(first|(apply zP<;>(intro hg;(try simp only [push_cast]at hg)))|apply And.intro|(intro hg;(try simp only [push_cast]at hg)))
   all_goals try exact gA
   all_goals(refine hK _ ?_;clear hK K)
   all_goals refine zT rfl (fun hc=> ?_) (fun hc=> ?_)
   all_goals(first|(cases hc;done)|skip)
   all_goals(try simp only [push_cast]at hc)
   all_goals first
    |(
     refine zU (hK3 _ ?_)
     refine θB ?_
     refine hK0 _ ⟨k+1,⟨by omega,fun j hj=> ?_⟩,by omega,?_⟩
     ·by_cases hjk:j=k
      ·subst hjk;unfold qr;rw [decide_eq_true_eq];omega
      ·exact hall j (by omega)
     ·refine zY rfl ?_ ?_ ?_<;>push_cast [zb,za,↓zK,↓zJ])
    |(
     skip
     refine θA ?_
     refine zZ ⟨Or.inl rfl,?_⟩
     push_cast [zd,↓zK,↓zJ]
     symm
     refine YT (k:=k) (by omega) ?_
     unfold qr;rw [decide_eq_false_iff_not];omega)
  ·refine zh ?_
   refine hK1 _ ?_
   refine θA ?_
   refine zZ ⟨Or.inl rfl,?_⟩
   push_cast [zd,↓zK,↓zJ]
   symm
   exact wn fun j hj=>hall j (by omega)
set_option maxHeartbeats 2000000 in
theorem zGN (xs:List Int)(n:Int)(hl:xs.length≤1048576)(h0: -9223372036854775807≤n)(h1:n≤9223372036854775807):Fn Tryz.prog tyT 89 [.c (DI xs), .c (.int .i64 n)] [.c (.bool (xN xs n))]:=by
 refine θH (ts:= [4]) Tryz.func89 Tryz.ntmps89 ?_
 push_cast [↓zK,↓zJ]
 refine θA ?_
 refine zL fun K1 hK1=> ?_
 refine θA ?_
 refine zV ?_
 refine zg [4,5,6,7,8,9,10,11,12,13,14,15,16,17,18,19,20,21,22,23,24,25,26,27,28,29,30,31,32,33,34,35] [] (fun k:Nat=> [(5, .int .i64 k)]) (fun _=> []) (fun k=> []) (fun k=>k≤xs.length∧∀j,j<k→qr xs n j=true) (fun k=>xs.length - k) 0 ?_ ⟨by omega,fun j hj=>by omega⟩ ?_
 ·exact θX
 ·rintro k ⟨hk,hall⟩ K0 hK0
  push_cast [↓zK,↓zJ]
  refine zL fun K2 hK2=> ?_
  refine θA ?_
  refine θU (fun hc=> ?_) fun hc=> ?_
  ·refine zU ?_
   refine hK2 _ ?_
   refine zL fun K3 hK3=> ?_
   refine zV ?_
   refine zL fun K hK=> ?_
   refine xY false zO zN ya ?_ rfl ?_
   ·kernel_rfl
   intro C hC
   push_cast [↓zK,↓zJ]
   repeat'(first|(apply zP<;>(intro hg;(try push_cast at hg)))|(refine⟨_,xJ _ _ _,?_⟩;push_cast [↓zK,↓zJ])|apply And.intro|(intro hg;(try push_cast at hg)))
   all_goals first|exact gA|(refine hC _ ?_;kernel_rfl)|skip
   all_goals(refine hK _ ?_;clear hK K)
   all_goals refine zT rfl (fun hc=> ?_) (fun hc=> ?_)
   all_goals(first|(cases hc;done)|skip)
   all_goals(try simp only [push_cast]at hc)
   all_goals first
    |(
     refine zU (hK3 _ ?_)
     refine θB ?_
     refine hK0 _ ⟨k+1,⟨by omega,fun j hj=> ?_⟩,by omega,?_⟩
     ·by_cases hjk:j=k
      ·subst hjk;unfold qr;rw [decide_eq_true_eq];omega
      ·exact hall j (by omega)
     ·refine zY rfl ?_ ?_ ?_<;>push_cast [zb,za,↓zK,↓zJ])
    |(
     skip
     refine θA ?_
     refine zZ ⟨Or.inl rfl,?_⟩
     push_cast [zd,↓zK,↓zJ]
     symm
     refine YT (k:=k) (by omega) ?_
     unfold qr;rw [decide_eq_false_iff_not];omega)
  ·refine zh ?_
   refine hK1 _ ?_
   refine θA ?_
   refine zZ ⟨Or.inl rfl,?_⟩
   push_cast [zd,↓zK,↓zJ]
   symm
   exact wn fun j hj=>hall j (by omega)
set_option maxHeartbeats 1000000 in
theorem xk (xs:List Int)(n:Int)(hl:xs.length≤1048576)(h0:0≤n)(h1:n≤9223372036854775807):Fn Tryz.prog tyT 70 [.c (DI xs), .c (.int .i64 n)] [.c (.bool (xN xs n))]:=by
 refine θH (ts:= [4]) Tryz.func70 Tryz.ntmps70 ?_
 push_cast [↓zK,↓zJ]
 refine θA ?_
 refine zL fun K hK=> ?_
 refine zf false zO zN ?_ rfl ?_
 ·kernel_rfl
 push_cast [↓zK,↓zJ]
 repeat'(first|(apply zP<;>(intro hg;(try simp only [push_cast]at hg)))|(refine⟨_,zGN xs n hl (by omega) (by omega),?_⟩;push_cast [↓zK,↓zJ])|apply And.intro|(intro hg;(try simp only [push_cast]at hg)))
 all_goals try exact gA
 all_goals(refine hK _ ?_;clear hK K)
 all_goals refine zZ ?_
 all_goals(try simp only [zR,zS])
 all_goals refine⟨Or.inl rfl,?_⟩
 all_goals push_cast [zd,↓zK,↓zJ]
 symm
 cases hc:xN xs n with
 |false=>rfl
 |true=>exfalso;have :=zMC hc h0;omega
set_option maxRecDepth 20000 in
set_option maxHeartbeats 4000000 in
theorem jt (a:Ar)(ha:a.Ln 1048576):Fn Tryz.prog tyT 28 [.agg (dAr a)] [.c (.bool (yi a))]:=by
 have hr: ∀v,(gl a.next v).length≤1048576:=fun v=>Xs ha.next v
 have hno:=ha.owner
 have hnn:=ha.next.1
 unfold LnI at hno
 unfold dAr
 refine θH (ts:= [2]) Tryz.func28 Tryz.ntmps28 ?_
 push_cast [↓zK,↓zJ]
 refine θA ?_
 refine θA ?_
 refine zL fun K1 hK1=> ?_
 refine zL fun K hK=> ?_
 refine zf false zO zN ?_ rfl ?_
 ·kernel_rfl
 all_goals push_cast [↓zK,↓zJ]
 all_goals repeat'(first|(apply zP<;>(intro hg;(try simp only [push_cast]at hg)))|(refine⟨_,xS (gl a.next _) _ (hr _),?_⟩;push_cast [↓zK,↓zJ])|apply And.intro|(intro hg;(try simp only [push_cast]at hg)))
 all_goals first|exact gA|(exact zQ (by omega))|skip
 all_goals(refine hK _ ?_;clear hK K)
 all_goals refine zT rfl (fun hc=> ?_) (fun hc=> ?_)
 all_goals(first|(cases hc;done)|skip)
 all_goals(try simp only [push_cast]at hc)
 all_goals try(
   refine θA ?_
   refine zZ ⟨Or.inl rfl,?_⟩
   push_cast [zd,↓zK,↓zJ]
   symm
   refine Jq ?_
   omega
   done)
 refine zU (hK1 _ ?_)
 refine zL fun K2 hK2=> ?_
 refine θA ?_
 refine zV ?_
 refine zg [2,4,5,11,15,25,26,27,28,29,30,31,32,33,34,35,36,37,38,39,40,41,42,43,44,45,46,47,48,49,50,51,52,53,54,55,56,57,58,59,60] [] (fun(k:Nat)=> [(25, .int .i64 k)]) (fun k=> []) (fun k=> []) (fun k=>k≤a.owner.length∧∀j,j<k→vb a j=true) (fun k=>a.owner.length - k) 0 ?_ ⟨by omega,fun j hj=>by omega⟩ ?_
 ·
  exact θX
 ·rintro k ⟨hk,hall⟩ KL0 hL0
  push_cast [↓zK,↓zJ]
  refine θA ?_
  refine zL fun K3 hK3=> ?_
  refine θU (fun hc=> ?_) fun hc=> ?_
  ·
   refine zU (hK3 _ ?_)
   refine zL fun K4 hK4=> ?_
   refine zV ?_
   refine θA ?_
   refine zL fun K hK=> ?_
   refine zf false zO zN ?_ rfl ?_
   ·kernel_rfl
   all_goals refine yD 28 fun K9 hK9=> ?_
   all_goals push_cast [↓zK,↓zJ]
   all_goals repeat'(first|(apply zP<;>(intro hg;(try push_cast at hg)))|(refine⟨_,xS (gl a.next _) _ (hr _),?_⟩;push_cast [↓zK,↓zJ])|apply And.intro|(intro hg;(try push_cast at hg)))
   all_goals first|exact gA|(exact zQ (by omega))|skip
   all_goals(refine hK9 _ ?_;clear hK9 K9)
   all_goals push_cast [↓zK,↓zJ]
   all_goals repeat'(first|(apply zP<;>(intro hg;(try push_cast at hg)))|(refine⟨_,xS (gl a.next _) _ (hr _),?_⟩;push_cast [↓zK,↓zJ])|apply And.intro|(intro hg;(try push_cast at hg)))
   all_goals first|exact gA|(exact zQ (by omega))|skip
   all_goals(refine hK _ ?_;clear hK K)
   all_goals refine zT rfl (fun hc=> ?_) (fun hc=> ?_)
   all_goals(first|(cases hc;done)|skip)
   all_goals(try simp only [push_cast]at hc)
   all_goals try(
     refine θA ?_
     refine zZ ⟨Or.inl rfl,?_⟩
     push_cast [zd,↓zK,↓zJ]
     symm
     refine Jr (v:=k) (by omega) ?_
     unfold vb VQ
     rw [Bool.and_eq_false_iff,decide_eq_false_iff_not]
     first|(left;omega)|(right;assumption)
     done)
   refine zU (hK4 _ ?_)
   refine θB ?_
   refine hL0 _ ⟨k+1,⟨by omega,fun j hj=>(by
     by_cases hjk:j=k
     ·subst hjk;unfold vb VQ;rw [Bool.and_eq_true,decide_eq_true_eq];exact⟨by omega,by assumption⟩
     ·exact hall j (by omega))⟩,by omega,?_⟩
   exact θX
  ·
   refine zh (hK2 _ ?_)
   refine θA ?_
   refine zZ ⟨Or.inl rfl,?_⟩
   push_cast [zd,↓zK,↓zJ]
   symm
   exact XH (by omega) fun v hv=>hall v (by omega)
set_option maxRecDepth 20000 in
set_option maxHeartbeats 4000000 in
theorem ju (a:Ar)(ha:a.Ln 1048576):Fn Tryz.prog tyT 42 [.agg (dAr a)] [.c (.bool (yi a))]:=by
 have hr: ∀v,(gl a.next v).length≤1048576:=fun v=>Xs ha.next v
 have hno:=ha.owner
 have hnn:=ha.next.1
 unfold LnI at hno
 unfold dAr
 refine θH (ts:= [2]) Tryz.func42 Tryz.ntmps42 ?_
 push_cast [↓zK,↓zJ]
 refine θA ?_
 refine θA ?_
 refine zL fun K1 hK1=> ?_
 refine zL fun K hK=> ?_
 refine zf false zO zN ?_ rfl ?_
 ·kernel_rfl
 all_goals refine yD 2 fun K9 hK9=> ?_
 all_goals push_cast [↓zK,↓zJ]
 all_goals repeat'(first|(apply zP<;>(intro hg;(try push_cast at hg)))|(refine⟨_,xJ _ _ _,?_⟩;push_cast [↓zK,↓zJ])|(refine⟨_,xk (gl a.next _) _ (hr _) (by omega) (by omega),?_⟩;push_cast [↓zK,↓zJ])|apply And.intro|(intro hg;(try push_cast at hg)))
 all_goals first|exact gA|(exact zQ (by omega))|skip
 all_goals(refine hK9 _ ?_;clear hK9 K9)
 all_goals push_cast [↓zK,↓zJ]
 all_goals repeat'(first|(apply zP<;>(intro hg;(try push_cast at hg)))|(refine⟨_,xJ _ _ _,?_⟩;push_cast [↓zK,↓zJ])|(refine⟨_,xk (gl a.next _) _ (hr _) (by omega) (by omega),?_⟩;push_cast [↓zK,↓zJ])|apply And.intro|(intro hg;(try push_cast at hg)))
 all_goals first|exact gA|(exact zQ (by omega))|skip
 all_goals(refine hK _ ?_;clear hK K)
 all_goals refine zT rfl (fun hc=> ?_) (fun hc=> ?_)
 all_goals(first|(cases hc;done)|skip)
 all_goals(try simp only [push_cast]at hc)
 all_goals try(
   refine θA ?_
   refine zZ ⟨Or.inl rfl,?_⟩
   push_cast [zd,↓zK,↓zJ]
   symm
   refine Jq ?_
   omega
   done)
 refine zU (hK1 _ ?_)
 refine zL fun K2 hK2=> ?_
 refine θA ?_
 refine zV ?_
 refine zg [2,4,11,20,21,22,23,24,25,26,27,28,29,30,31,32,33,34,35,36,37,38,39,40,41,42,43,44,45,46,47,48,49,50,51,52,53,54,55,56,57,58,59,60,61] [] (fun(k:Nat)=> [(4, .int .i64 k)]) (fun k=> []) (fun k=> []) (fun k=>k≤a.owner.length∧∀j,j<k→vb a j=true) (fun k=>a.owner.length - k) 0 ?_ ⟨by omega,fun j hj=>by omega⟩ ?_
 ·
  exact θX
 ·rintro k ⟨hk,hall⟩ KL0 hL0
  push_cast [↓zK,↓zJ]
  refine zL fun K3 hK3=> ?_
  refine θA ?_
  refine θU (fun hc=> ?_) fun hc=> ?_
  ·
   refine zU (hK3 _ ?_)
   refine zL fun K4 hK4=> ?_
   refine zV ?_
   refine zL fun K hK=> ?_
   refine zf false zO zN ?_ rfl ?_
   ·kernel_rfl
   all_goals refine yD 6 fun K9 hK9=> ?_
   all_goals push_cast [↓zK,↓zJ]
   all_goals repeat'(first|(apply zP<;>(intro hg;(try push_cast at hg)))|(refine⟨_,xJ _ _ _,?_⟩;push_cast [↓zK,↓zJ])|(refine⟨_,xk (gl a.next _) _ (hr _) (by omega) (by omega),?_⟩;push_cast [↓zK,↓zJ])|apply And.intro|(intro hg;(try push_cast at hg)))
   all_goals first|exact gA|(exact zQ (by omega))|skip
   all_goals(refine hK9 _ ?_;clear hK9 K9)
   all_goals refine yD 27 fun K9 hK9=> ?_
   all_goals push_cast [↓zK,↓zJ]
   all_goals repeat'(first|(apply zP<;>(intro hg;(try push_cast at hg)))|(refine⟨_,xJ _ _ _,?_⟩;push_cast [↓zK,↓zJ])|(refine⟨_,xk (gl a.next _) _ (hr _) (by omega) (by omega),?_⟩;push_cast [↓zK,↓zJ])|apply And.intro|(intro hg;(try push_cast at hg)))
   all_goals first|exact gA|(exact zQ (by omega))|skip
   all_goals(refine hK9 _ ?_;clear hK9 K9)
   all_goals push_cast [↓zK,↓zJ]
   all_goals repeat'(first|(apply zP<;>(intro hg;(try push_cast at hg)))|(refine⟨_,xJ _ _ _,?_⟩;push_cast [↓zK,↓zJ])|(refine⟨_,xk (gl a.next _) _ (hr _) (by omega) (by omega),?_⟩;push_cast [↓zK,↓zJ])|apply And.intro|(intro hg;(try push_cast at hg)))
   all_goals first|exact gA|(exact zQ (by omega))|skip
   all_goals(refine hK _ ?_;clear hK K)
   all_goals refine zT rfl (fun hc=> ?_) (fun hc=> ?_)
   all_goals(first|(cases hc;done)|skip)
   all_goals(try simp only [push_cast]at hc)
   all_goals try(
     refine θA ?_
     refine zZ ⟨Or.inl rfl,?_⟩
     push_cast [zd,↓zK,↓zJ]
     symm
     refine Jr (v:=k) (by omega) ?_
     unfold vb VQ
     rw [Bool.and_eq_false_iff,decide_eq_false_iff_not]
     first|(left;omega)|(right;assumption)
     done)
   refine zU (hK4 _ ?_)
   refine θB ?_
   refine hL0 _ ⟨k+1,⟨by omega,fun j hj=>(by
     by_cases hjk:j=k
     ·subst hjk;unfold vb VQ;rw [Bool.and_eq_true,decide_eq_true_eq];exact⟨by omega,by assumption⟩
     ·exact hall j (by omega))⟩,by omega,?_⟩
   exact θX
  ·
   refine zh (hK2 _ ?_)
   refine θA ?_
   refine zZ ⟨Or.inl rfl,?_⟩
   push_cast [zd,↓zK,↓zJ]
   symm
   exact XH (by omega) fun v hv=>hall v (by omega)
theorem zNR (xs:List Int)(x:Int):decide (ixB xs x≥0)=yI xs x:=zLb xs x
set_option maxRecDepth 20000 in
set_option maxHeartbeats 4000000 in
theorem zB8 (xs:List Int)(x:Int)(hl:xs.length≤1048576):Fn Tryz.prog tyT 100 [.c (DI xs), .c (.int .i64 x)] [.c (.int .i64 (ixB xs x))]:=by
 refine θH (ts:= [4]) Tryz.func100 Tryz.ntmps100 ?_
 push_cast
 refine θA ?_
 refine zL fun K1 hK1=> ?_
 refine θA ?_
 refine zV ?_
 refine zg [4,5,8,9,10,11,12,13,14,15,16,17,18] [] (fun(k:Nat)=> [(8, .int .i64 k)]) (fun k=> []) (fun k=> []) (fun k=>k≤xs.length∧∀j,j<k→¬gi xs j=x) (fun k=>xs.length - k) 0 ?_ ⟨by omega,fun j hj=>by omega⟩ ?_
 ·
  exact θX
 ·rintro k ⟨hk,hall⟩ KL0 hL0
  push_cast
  refine θA ?_
  refine zL fun K2 hK2=> ?_
  refine θU (fun hc=> ?_) fun hc=> ?_
  ·
   refine zU (hK2 _ ?_)
   refine zL fun K3 hK3=> ?_
   refine zV ?_
   refine θA ?_
   refine θA ?_
   refine θU (fun hc=> ?_) fun hc=> ?_
   ·
    refine θA ?_
    refine zZ ⟨Or.inl rfl,?_⟩
    push_cast [zd]
    symm
    exact zHe (k:=k) (by omega) hall (by omega)
   ·
    refine zU (hK3 _ ?_)
    refine θB ?_
    refine hL0 _ ⟨k+1,⟨by omega,fun j hj=>(by
      by_cases hjk:j=k
      ·subst hjk;omega
      ·exact hall j (by omega))⟩,by omega,?_⟩
    exact θX
  ·
   refine zh (hK1 _ ?_)
   refine θA ?_
   refine zZ ⟨Or.inl rfl,?_⟩
   push_cast [zd]
   symm
   exact zJI fun j hj=>hall j (by omega)
set_option maxRecDepth 20000 in
set_option maxHeartbeats 4000000 in
theorem vM (xs:List Int)(x:Int)(hl:xs.length≤1048576):Fn Tryz.prog tyT 80 [.c (DI xs), .c (.int .i64 x)] [.c (.bool (yI xs x))]:=by
 refine θH (ts:= [4]) Tryz.func80 Tryz.ntmps80 ?_
 push_cast
 refine θA ?_
 refine θL fun K hK=> ?_
 all_goals refine zm 3 fun K9 hK9=> ?_
 all_goals push_cast
 all_goals repeat'(first|(apply zP<;>(intro hg;push_cast at hg))|(refine⟨_,zB8 xs x hl,?_⟩;push_cast)|apply And.intro|(intro hg;push_cast at hg))
 all_goals try exact gA
 refine hK9 _ ?_;clear hK9 K9
 all_goals push_cast
 all_goals repeat'(first|(apply zP<;>(intro hg;push_cast at hg))|(refine⟨_,zB8 xs x hl,?_⟩;push_cast)|apply And.intro|(intro hg;push_cast at hg))
 all_goals try exact gA
 refine hK _ ?_;clear hK K
 refine zZ ⟨Or.inl rfl,?_⟩
 push_cast [zd]
 exact zNR xs x
set_option maxRecDepth 20000 in
set_option maxHeartbeats 4000000 in
theorem zAc (a:Ar):Fn Tryz.prog tyT 30 [.agg (dAr a)] [.c (.int .i64 a.owner.length)]:=by
 unfold dAr
 refine θH (ts:= [2]) Tryz.func30 Tryz.ntmps30 ?_
 push_cast
 refine θA ?_
 refine θA ?_
 refine zZ ⟨Or.inl rfl,?_⟩
 push_cast [zd]
set_option maxRecDepth 20000 in
set_option maxHeartbeats 4000000 in
theorem zC9 (a:Ar)(v:Int):Fn Tryz.prog tyT 31 [.agg (dAr a), .c (.int .i64 v)] [.c (.bool (decide (0≤v∧v<a.owner.length)))]:=by
 have hA:=zAc a
 unfold dAr at hA⊢
 refine θH (ts:= [4]) Tryz.func31 Tryz.ntmps31 ?_
 push_cast [↓zK,↓zJ]
 refine θA ?_
 refine zL fun K hK=> ?_
 refine zf false zO zN ?_ rfl ?_
 ·kernel_rfl
 all_goals refine yD 6 fun K9 hK9=> ?_
 all_goals push_cast [↓zK,↓zJ]
 all_goals repeat'(first|(apply zP<;>(intro hg;(try push_cast at hg)))|(refine⟨_,hA,?_⟩;push_cast [↓zK,↓zJ])|apply And.intro|(intro hg;(try push_cast at hg)))
 all_goals try exact gA
 all_goals(refine hK9 _ ?_;clear hK9 K9)
 all_goals push_cast [↓zK,↓zJ]
 all_goals repeat'(first|(apply zP<;>(intro hg;(try push_cast at hg)))|(refine⟨_,hA,?_⟩;push_cast [↓zK,↓zJ])|apply And.intro|(intro hg;(try push_cast at hg)))
 all_goals try exact gA
 all_goals(refine hK _ ?_;clear hK K)
 all_goals(
   refine zZ ⟨Or.inl rfl,?_⟩
   push_cast [zd,↓zK,↓zJ]
   first|(rw [decide_eq_decide];omega)|(symm;rw [decide_eq_false_iff_not];omega))
set_option maxRecDepth 20000 in
set_option maxHeartbeats 4000000 in
theorem KV (xs:List Int)(hl:xs.length≤1048576):Fn Tryz.prog tyT 106 [.c (DI xs)] [.c (DI xs)]:=by
 refine θH (ts:= [2]) Tryz.func106 Tryz.ntmps106 ?_
 push_cast
 refine θA ?_
 refine θA ?_
 refine zZ ⟨Or.inl rfl,?_⟩
 push_cast [zd]
def stepC (w:Wt)(v u:Int):Int:=if yI (gl w.a.next v.toNat) u=true then zKA w v.toNat u else 0
def zNf (xs:List Int)(t:Int)(i:Nat):Int:=if i+1<xs.length then gi xs (i+1)else t
def along (w:Wt)(xs:List Int)(t:Int):List Int:=(List.range xs.length).map fun i=>stepC w (gi xs i) (zNf xs t i)
open Go.ChangeShapes Go.WideShapes Go.ChangeAt Go.RowKit Go.Deep Go.Joins
theorem Xq {α:Type}{k:Nat}(hk:0<k): ∀{ls:List (List α)},(∀l∈ls,l.length=k)→∀i,ls.flatten[i]? =(ls[i / k]?).bind fun l=>l[i%k]?
 | [],_,i=>by simp
 |l::ls,h,i=>by
  have hl:=h l (by simp)
  rw [List.flatten_cons]
  by_cases hi:i<k
  ·rw [List.getElem?_append_left (by omega),Nat.div_eq_of_lt hi,Nat.mod_eq_of_lt hi];rfl
  ·rw [List.getElem?_append_right (by omega),hl,Xq hk (fun l hl=>h l (by simp [hl]))]
   have e1:i / k=(i - k) / k+1:=by rw [←Nat.add_div_right _ hk,Nat.sub_add_cancel (by omega)]
   have e2:i%k=(i - k)%k:=by rw [←Nat.mod_eq_sub_mod (by omega)]
   rw [e1,e2,List.getElem?_cons_succ]
theorem XL {α:Type}{k:Nat}: ∀{ls:List (List α)},(∀l∈ls,l.length=k)→ls.flatten.length=ls.length*k
 | [],_=>by simp
 |l::ls,h=>by
  rw [List.flatten_cons,List.length_append,XL (fun l hl=>h l (by simp [hl])),h l (by simp),List.length_cons,Nat.add_mul]
  omega
theorem zMf {S:TypeId→Nat}{lo:Nat}{w:World}{ow:Nat→Option Pl}{ds:List D}{cs:List Value}(h:RpS S lo w ow ds cs){i:Nat}{d:D}{c:Value}(hd:ds[i]? =some d)(hc:cs[i]? =some c):Rp S lo w ow .sh d c:=(ZK h).2 i d c hd hc
theorem Uq {S:TypeId→Nat}{lo:Nat}{w:World}{ow:Nat→Option Pl}: ∀{ds es:List D} {cs bs:List Value},RpS S lo w ow ds cs→RpS S lo w ow es bs→RpS S lo w ow (ds++es) (cs++bs)
 | [],es,cs,bs,h,k=>by simp only [RpS]at h;subst h;exact k
 |d::ds,es,cs,bs,h,k=>by
  simp only [RpS]at h
  obtain⟨c,cs',rfl,h1,h2⟩:=h
  simp only [List.cons_append,RpS]
  exact⟨c,_,rfl,h1,Uq h2 k⟩
theorem QG {S:TypeId→Nat}{lo:Nat}{w:World}{ow:Nat→Option Pl}{d:D}{c:Value}(h:Rp S lo w ow .sh d c):RpS S lo w ow [d] [c]:=by simp only [RpS];exact⟨c,[],rfl,h,rfl⟩
theorem zKU {α:Type}{l:List α}(h:l.length=2): ∃a b,l= [a,b]:=by
 match l,h with
 | [a,b],_=>exact⟨a,b,rfl⟩
def i64 (x:Int):Prop:= -9223372036854775808≤x∧x≤9223372036854775807
def RgI (xs:List Int):Prop:= ∀x∈xs,i64 x
def RgII (xs:List (List Int)):Prop:= ∀r∈xs,RgI r
section
variable {H:Type} {enc:TypeId×Value→H} {W:World} {lo:Nat}
abbrev Tro (enc:TypeId×Value→H)(W:World)(fuel:Nat)(t:TypeId)(cs:List Value)(x:DataW H×List MemPlace):Prop:=DataW.trod enc Tryz.prog W 0 (fun _=>true) true fuel t cs=some x
abbrev RpN (lo:Nat)(W:World)(d:D)(v:Value):Prop:=Rp (sz tyT) lo W (fun _=>none) .sh d v
abbrev RpSN (lo:Nat)(W:World)(ds:List D)(cs:List Value):Prop:=RpS (sz tyT) lo W (fun _=>none) ds cs
theorem zI1 {w:World}{a:Addr}{n:Nat}{cs:List Value}(h:w.cells? 0 a n=some cs)(hn:n≠0):a.spot=none∧a.block<w.heap.size:=by
 obtain⟨_,h1,h2⟩:=World.cells?_some h
 have h3:w.cell? (a.add 0)=some cs[0]:=(h2 0 (by omega)).trans (List.getElem?_eq_getElem (by omega))
 have ha:a.add 0=a:=rfl
 rw [ha]at h3
 have hlt:=World.block_lt_of_cell? w a h3
 refine⟨?_,hlt⟩
 rcases hsp:a.spot with _|s
 ·rfl
 ·exfalso
  unfold World.cell? at h3
  rw [hsp]at h3
  split at h3
  ·simp at h3
  ·cases h3
theorem zDY {t e:TypeId}{k:Nat}(ht:Tryz.prog.underlying t=some (.slice e))(hk:0<k)(hS:sz tyT e=k)(hc:Tryz.prog.cellsOf e=k){Q:List D→Prop}
  (hQ: ∀(n:Nat) (cs:List Value) (y:DataW H×List MemPlace),Tro enc W n e cs y→∃ds,RpSN lo W ds cs∧Q ds) {fuel:Nat} {cs:List Value} {x:DataW H×List MemPlace} (h:Tro enc W fuel t cs x):
  ∃(v:Value) (dss:List (List D)),cs= [v]∧RpN lo W (.lst e dss.flatten) v∧dss.length≤9223372036854775807∧∀ds∈dss,Q ds∧ds.length=k:=by
 rcases open_slice ht h with⟨rfl,-⟩|⟨a,len,cap,m,n,Dt,Pl,rfl,-,hl,hm,hmm,-,hx⟩
 ·exact⟨_,[],rfl,(zy _ _).2 ⟨[],⟨rfl,0,by simp,none,0,rfl,Nat.le_refl _,by unfold maxLen;omega,fun h=>absurd rfl h⟩,fun i x u hx=>by simp at hx⟩,by simp,fun ds h=>by simp at h⟩
 simp only [if_true]at hmm
 subst hmm
 rw [hc]at hx
 obtain⟨f,hf⟩:=choose_lt (α:=List Value×List D) (p:=fun i y=>W.cells? 0 (a.add (i*k)) k=some y.1∧RpSN lo W y.2 y.1∧Q y.2) (fun i hi=>by
  obtain⟨cs',h1,h2⟩:=hx i hi
  obtain⟨ds,h3,h4⟩:=hQ n cs' _ h2
  exact⟨(cs',ds),h1,h3,h4⟩)
 have hlen: ∀i,i<m→(f i).1.length=k∧(f i).2.length=k:=fun i hi=>by
  obtain⟨h1,h2,h3⟩:=hf i hi
  obtain⟨_,h4,_⟩:=World.cells?_some h1
  have :=(ZK h2).1
  exact⟨h4,by omega⟩
 let dss:=(List.range len).map fun i=>(f i).2
 let vss:=(List.range len).map fun i=>(f i).1
 have hd: ∀l∈dss,l.length=k:=fun l hl'=>by
  obtain⟨i,hi,rfl⟩:=List.mem_map.1 hl'
  have :=List.mem_range.1 hi
  exact(hlen i (by omega)).2
 have hv: ∀l∈vss,l.length=k:=fun l hl'=>by
  obtain⟨i,hi,rfl⟩:=List.mem_map.1 hl'
  have :=List.mem_range.1 hi
  exact(hlen i (by omega)).1
 have hdl:dss.length=len:=by simp [dss]
 have hvl:vss.length=len:=by simp [vss]
 refine⟨_,dss,rfl,(zy _ _).2 ⟨vss.flatten,⟨by rw [XL hd,XL hv,hdl,hvl],len,by rw [XL hd,hdl,hS],some a,m,rfl,hl,hm,fun h0=> ?_⟩,fun i d u hdi hui=> ?_⟩,by rw [hdl];unfold maxLen at hm;omega,fun ds hds=> ?_⟩
 ·have h1:=(hf 0 (by omega)).1
  rw [Nat.zero_mul]at h1
  have ha:a.add 0=a:=rfl
  rw [ha]at h1
  obtain⟨hs,hlt⟩:=zI1 h1 (by omega)
  obtain⟨b,o,s⟩:=a
  simp only at hs
  subst hs
  refine⟨b,o,rfl,hlt,rfl,fun i u hu=> ?_⟩
  rw [Xq hk hv]at hu
  have hik:i / k<len:=by
   rcases Nat.lt_or_ge (i / k) len with h|h
   ·exact h
   ·rw [List.getElem?_eq_none (by rw [hvl];exact h)]at hu;cases hu
  rw [List.getElem?_map,List.getElem?_range hik]at hu
  simp only [Option.map_some,Option.bind_some]at hu
  obtain⟨_,_,h5⟩:=World.cells?_some (hf (i / k) (by omega)).1
  have :=(h5 (i%k) (Nat.mod_lt _ hk)).trans hu
  rw [add_plain,add_plain]at this
  rw [show o+i / k*k+i%k=o+i from by have :=Nat.div_add_mod' i k;omega]at this
  exact this
 ·rw [Xq hk hd]at hdi
  rw [Xq hk hv]at hui
  have hik:i / k<len:=by
   rcases Nat.lt_or_ge (i / k) len with h|h
   ·exact h
   ·rw [List.getElem?_eq_none (by rw [hvl];exact h)]at hui;cases hui
  rw [List.getElem?_map,List.getElem?_range hik]at hui hdi
  simp only [Option.map_some,Option.bind_some]at hui hdi
  exact zMf (hf (i / k) (by omega)).2.1 hdi hui
 ·refine⟨?_,hd ds hds⟩
  obtain⟨i,hi,rfl⟩:=List.mem_map.1 hds
  exact(hf i (by have :=List.mem_range.1 hi;omega)).2.2
theorem zHz {fuel:Nat}{cs:List Value}{x:DataW H×List MemPlace}(h:Tro enc W fuel 2 cs x): ∃v n,cs= [v]∧RpN lo W (.int .i64 n) v∧i64 n:=by
 obtain⟨n,rfl,-,hw⟩:=DataW.trod_int Tryz.underlying2 h
 exact⟨_,n,rfl,by simp only [Rp],by simp only [Lit.wf,Bool.and_eq_true,decide_eq_true_eq]at hw;exact hw⟩
theorem zHP : ∀(dss:List (List D)),(∀ds∈dss,∃n,ds= [.int .i64 n]∧i64 n)→∃xs:List Int,dss.flatten=dI xs∧RgI xs∧xs.length=dss.length
 | [],_=>⟨[],rfl,fun x hx=>by simp at hx,rfl⟩
 |ds::dss,h=>by
  obtain⟨n,rfl,hn⟩:=h ds (by simp)
  obtain⟨xs,e,hr,hl⟩:=zHP dss (fun d hd=>h d (by simp [hd]))
  refine⟨n::xs,by rw [List.flatten_cons,e];rfl,fun x hx=> ?_,by simp [hl]⟩
  rcases List.mem_cons.1 hx with rfl|hx
  ·exact hn
  ·exact hr x hx
set_option maxRecDepth 100000 in
theorem UT {fuel:Nat}{cs:List Value}{x:DataW H×List MemPlace}(h:Tro enc W fuel 22 cs x): ∃v xs,cs= [v]∧RpN lo W (DI xs) v∧RgI xs∧LnI 9223372036854775807 xs:=by
 obtain⟨v,dss,rfl,h1,h2,h3⟩:=zDY (lo:=lo) (k:=1) Tryz.underlying22 (by omega) sz_2 (by kernel_rfl) (Q:=fun ds=> ∃n,ds= [.int .i64 n]∧i64 n) (fun n cs y hy=>by
  obtain⟨v,n,rfl,h1,h2⟩:=zHz (lo:=lo) hy
  exact⟨[.int .i64 n],QG h1,n,rfl,h2⟩) h
 obtain⟨xs,e,hr,hl⟩:=zHP dss (fun ds hds=>(h3 ds hds).1)
 rw [e]at h1
 exact⟨v,xs,rfl,h1,hr,by unfold LnI;omega⟩
theorem zFB : ∀(dss:List (List D)),(∀ds∈dss,∃xs,ds= [DI xs]∧RgI xs∧LnI 9223372036854775807 xs)→∃xs:List (List Int),dss.flatten=dII xs∧RgII xs∧xs.length=dss.length∧∀r∈xs,r.length≤9223372036854775807
 | [],_=>⟨[],rfl,fun x hx=>by simp at hx,rfl,fun x hx=>by simp at hx⟩
 |ds::dss,h=>by
  obtain⟨n,rfl,hn,hn2⟩:=h ds (by simp)
  obtain⟨xs,e,hr,hl,hb⟩:=zFB dss (fun d hd=>h d (by simp [hd]))
  refine⟨n::xs,by rw [List.flatten_cons,e];rfl,fun x hx=> ?_,by simp [hl],fun x hx=> ?_⟩
  ·rcases List.mem_cons.1 hx with rfl|hx
   ·exact hn
   ·exact hr x hx
  ·rcases List.mem_cons.1 hx with rfl|hx
   ·exact hn2
   ·exact hb x hx
set_option maxRecDepth 100000 in
theorem zLw {fuel:Nat}{cs:List Value}{x:DataW H×List MemPlace}(h:Tro enc W fuel 23 cs x): ∃v xs,cs= [v]∧RpN lo W (DII xs) v∧RgII xs∧qV 9223372036854775807 xs:=by
 obtain⟨v,dss,rfl,h1,h2,h3⟩:=zDY (lo:=lo) (k:=1) Tryz.underlying23 (by omega) zKh (by kernel_rfl) (Q:=fun ds=> ∃xs,ds= [DI xs]∧RgI xs∧LnI 9223372036854775807 xs) (fun n cs y hy=>by
  obtain⟨v,xs,rfl,h1,h2,h3⟩:=UT (lo:=lo) hy
  exact⟨[DI xs],QG h1,xs,rfl,h2,h3⟩) h
 obtain⟨xs,e,hr,hl,hb⟩:=zFB dss (fun ds hds=>(h3 ds hds).1)
 rw [e]at h1
 exact⟨v,xs,rfl,h1,hr,by unfold qV;exact⟨by omega,hb⟩⟩
set_option maxRecDepth 100000 in
theorem arg_n {base:Nat}{v:Value}{d:DataW H}{p:List MemPlace}(hv:Value.okWide Tryz.prog W .any base 2 v)(h:DataW.Trod enc Tryz.prog W 0 (fun _=>true) true 2 v d p): ∃n,Ym (sz tyT) lo W (fun _=>none) (.c (.int .i64 n)) v∧i64 n:=by
 obtain⟨n,rfl⟩:=okWide_int Tryz.underlying2 hv
 obtain⟨fuel,hf⟩:=h
 obtain⟨v',n',e,h1,h2⟩:=zHz (lo:=lo) hf
 simp only [Value.cells,List.cons.injEq,and_true]at e
 subst e
 exact⟨n',h1,h2⟩
end
theorem zJO {P:Program}{f:FuncId}{args:List VT}{W:World}{cargs:List Value}(h:Fn P tyT f args [.c (.bool true)])(ha:ZH (sz tyT) W.heap.size W (fun _=>none) args cargs):Calls P f cargs.toArray W (fun e w'=>e= .returned (.bool true)∧Below W.heap.size W w'):=by
 refine(h.2 W cargs ha).mono fun e w' hp=> ?_
 obtain⟨vs,ow',rfl,hb,-,-,hr⟩:=hp
 simp only [wj,Rp]at hr
 obtain⟨v,vs',rfl,rfl,rfl⟩:=hr
 exact⟨rfl,hb⟩
structure Ar.Rg (x:Ar):Prop where
 owner:RgI x.owner
 next:RgII x.next
section
variable {H:Type} {enc:TypeId×Value→H} {W:World} {lo:Nat}
set_option maxRecDepth 100000 in
theorem zLv {fuel:Nat}{cs:List Value}{x:DataW H×List MemPlace}(h:Tro enc W fuel 25 cs x): ∃a:Ar,RpSN lo W (dAr a) cs∧a.Rg∧a.Ln 9223372036854775807:=by
 obtain⟨y0,y1,n,_,hl,h0,h1⟩:=trod_struct2 Tryz.underlying25 h
 rw [show Tryz.prog.cellsOf 25=2 from by kernel_rfl]at hl
 obtain⟨c0,c1,rfl⟩:=zKU hl
 rw [show Tryz.prog.cellsOf 22=1 from by kernel_rfl]at h0
 rw [show Tryz.prog.cellsOf 23=1 from by kernel_rfl]at h1
 simp at h0 h1
 obtain⟨v0,a0,e0,r0,g0,l0⟩:=UT (lo:=lo) h0
 simp only [List.cons.injEq,and_true]at e0
 subst e0
 obtain⟨v1,a1,e1,r1,g1,l1⟩:=zLw (lo:=lo) h1
 simp only [List.cons.injEq,and_true]at e1
 subst e1
 exact⟨⟨a0,a1⟩,Uq (QG r0) (QG r1),⟨g0,g1⟩,⟨l0,l1⟩⟩
set_option maxRecDepth 100000 in
theorem zMp {base:Nat}{v:Value}{d:DataW H}{p:List MemPlace}(hv:Value.okWide Tryz.prog W .any base 25 v)(h:DataW.Trod enc Tryz.prog W 0 (fun _=>true) true 25 v d p): ∃a:Ar,Ym (sz tyT) lo W (fun _=>none) (.agg (dAr a)) v∧a.Rg∧a.Ln 9223372036854775807:=by
 obtain⟨cs,rfl,hsz⟩:=okWide_struct Tryz.underlying25 hv
 obtain⟨fuel,hf⟩:=h
 obtain⟨a,h1,h2⟩:=zLv (lo:=lo) hf
 exact⟨a,⟨cs.toList,by simp,h1⟩,h2⟩
end
structure Pr.Rg (x:Pr):Prop where
 ask:RgI x.ask
 give:RgI x.give
section
variable {H:Type} {enc:TypeId×Value→H} {W:World} {lo:Nat}
set_option maxRecDepth 100000 in
theorem zLy {fuel:Nat}{cs:List Value}{x:DataW H×List MemPlace}(h:Tro enc W fuel 48 cs x): ∃a:Pr,RpSN lo W (dPr a) cs∧a.Rg∧a.Ln 9223372036854775807:=by
 obtain⟨y0,y1,n,_,hl,h0,h1⟩:=trod_struct2 Tryz.underlying48 h
 rw [show Tryz.prog.cellsOf 48=2 from by kernel_rfl]at hl
 obtain⟨c0,c1,rfl⟩:=zKU hl
 rw [show Tryz.prog.cellsOf 22=1 from by kernel_rfl]at h0
 rw [show Tryz.prog.cellsOf 22=1 from by kernel_rfl]at h1
 simp at h0 h1
 obtain⟨v0,a0,e0,r0,g0,l0⟩:=UT (lo:=lo) h0
 simp only [List.cons.injEq,and_true]at e0
 subst e0
 obtain⟨v1,a1,e1,r1,g1,l1⟩:=UT (lo:=lo) h1
 simp only [List.cons.injEq,and_true]at e1
 subst e1
 exact⟨⟨a0,a1⟩,Uq (QG r0) (QG r1),⟨g0,g1⟩,⟨l0,l1⟩⟩
end
end Go.Proofs.YtcleaokoimhedaaGreat
