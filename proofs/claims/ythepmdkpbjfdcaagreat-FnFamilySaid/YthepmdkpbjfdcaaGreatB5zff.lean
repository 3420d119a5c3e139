/- Plain lemmas that all walks of this seat use: endings, old memory below a block number, bounds tests. No program. -/
import Derived.WalkKit
import Derived.ProofKit
import Derived.OpenShut
import Derived.Lib.Hide
import Derived.Lib.SmallJoins
import Derived.Deep.QuietTactic
import Derived.BigQuiet
import Derived.RegionTactic
import Derived.ChangeAlike
import Derived.StillTailTactics
import Derived.Test.YthepmdkpbjfdcaaGreatB4zff
import Derived.Deep.Slices
namespace Go.Proofs.YthepmdkpbjfdcaaGreat
open Nat renaming reduceMod → zA, reduceMul → zB, reduceDiv → zC, reduceAdd → zD, reduceSub → zE, reduceEqDiff → zF, reduceBEq → zG, reduceLT → zH, reduceLeDiff → zI
open Go.ChangeShapes Go.WideShapes Go.ChangeAt Go.RowKit
def inB (x lo hi:Int):Bool:=decide (lo≤x∧x≤hi)
section
variable {H:Type} {enc:TypeId×Value→H} {P:Program}
theorem zB0 {f:Func}{s:ChangeSpec}{apart fresh handsOn again:Bool}{W W':World}{args:Array Value}{v:Value}{ds gs:List (DataW H)}{before pa pv:List MemPlace}
  (hW:DataW.Whole enc P f.params.toList s.vars apart W args.toList ds gs before)
  (hres: ∀(b:Nat) (sp:Nat→Bool) (hd:Bool),DataW.TrodAll enc P W' b sp hd f.resultTypes.toList (v.resultList f.resultTypes.size) (s.fn H (ds++gs)).results [])
  (hargs: ∀sp:Nat→Bool,(∀p∈before,sp p.block=true)→DataW.TrodAll enc P W' 0 sp true f.params.toList args.toList (s.fn H (ds++gs)).args pa)
  (hvars: ∀sp:Nat→Bool,(∀p∈before,sp p.block=true)→DataW.TrodVars enc P W' sp s.vars (s.fn H (ds++gs)).vars pv)
  (hps:before=pa++pv) (hb:Below W.heap.size W W')
  (hok: ∀(j:Nat) (t:TypeId) (r:Value),f.resultTypes[j]? =some t→(v.resultList f.resultTypes.size)[j]? =some r→Value.okWide P W' .any 0 t r):
  s.post enc P f apart fresh handsOn again W args v W':=by
 have hlt: ∀p∈before,p.block<W.heap.size:=fun p hp=>hW.lt p hp
 have hold: ∀p∈before,(fun b=>decide (b<W.heap.size)) p.block=true:=fun p hp=>by simpa using hlt p hp
 refine⟨ds,gs,before,[],pa,pv,hW,hres _ _ _,hargs _ hold,hvars _ hold,World.keptBut_mono (fun p hp=>⟨hp,?_⟩) (hb.frame (· ∈before)),fun _=> ?_⟩
 ·rw [hps,List.mem_append]at hp
  exact Or.inr hp
 ·obtain⟨_,_,_,_,_,hz,hn⟩:=hW
  refine⟨hok,_,_,([]++pa)++pv,⟨[]++pa,pv,trodAll_append (hargs _ (fun _ _=>rfl)) (hres _ _ _),hvars _ (fun _ _=>rfl),rfl,?_,?_⟩,?_⟩
  ·intro b off hp
   have hin:MemPlace.cell b off∈before:=by rw [hps];simpa using hp
   rw [hb.frozen (hlt _ hin)]
   exact hz b off hin
  ·intro ha
   have :=hn ha
   rw [hps]at this
   simpa using this
  ·intro p hp _
   rw [hps]
   simpa using hp
theorem zEL (hl:laidOutB P=true){W W':World}{sp:Nat→Bool}(hb:Below W.heap.size W W'): ∀(ts:List TypeId) (vs:List Value) (ds:List (DataW H)) (ps:List MemPlace),
  (∀t∈ts,P.readableRec t=true∧t<P.types.size)→DataW.TrodAll enc P W 0 (fun _=>true) true ts vs ds ps→(∀x∈ps,x.block<W.heap.size)→(∀x∈ps,sp x.block=true)→DataW.TrodAll enc P W' 0 sp true ts vs ds ps
 | [],vs,ds,ps,_,h,_,_=>by
  obtain⟨rfl,rfl,rfl⟩:=trodAll_nil h
  exact trodAll_mk0
 |t::ts,vs,ds,ps,ht,h,hlt,hs=>by
  obtain⟨v,vs',d,ds',p,q,rfl,rfl,rfl,h0,h1⟩:=trodAll_cons h
  have ht0:=ht t (by simp)
  exact trodAll_cons_mk (WideElems.Trod_stays hl ht0.1 ht0.2 h0 (fun x hx=>hb.same (hlt x (by simp [hx]))) (fun x hx=>hs x (by simp [hx])))
   (zEL hl hb ts vs' ds' q (fun u hu=>ht u (by simp [hu])) h1 (fun x hx=>hlt x (by simp [hx])) (fun x hx=>hs x (by simp [hx])))
theorem zJo {f:Func}{s:ChangeSpec}{fresh handsOn again:Bool}{tb:TypeId}{W W':World}{args:Array Value}{ds gs:List (DataW H)}{before:List MemPlace}
  (hl:laidOutB P=true) (hts: ∀t∈f.params.toList,P.readableRec t=true∧t<P.types.size) (hr:f.resultTypes= #[tb]) (htb:P.underlying tb=some .bool) (hv:s.vars= [])
  (hW:DataW.Whole enc P f.params.toList s.vars false W args.toList ds gs before) (hs1:(s.fn H (ds++gs)).results= [.lit (.bool true)]) (hs2:(s.fn H (ds++gs)).args=ds)
  (hs3:(s.fn H (ds++gs)).vars= []) (hb:Below W.heap.size W W') (hk: ∀W':World,Value.okWide P W' .any 0 tb (.bool true)):s.post enc P f false fresh handsOn again W args (.bool true) W':=by
 have hW0:=hW
 obtain⟨p,q,hA,hV,rfl,hfz,hnd⟩:=hW
 rw [hv]at hV
 obtain⟨rfl,rfl⟩:=trodVars_none hV
 have hlt: ∀x∈p,x.block<W.heap.size:=fun x hx=>hW0.lt x (by simp [hx])
 refine zB0 (pa:=p) (pv:= []) hW0 (fun b sp hd=> ?_) (fun sp hs=> ?_) (fun sp _=> ?_) rfl hb ?_
 ·rw [hs1,hr]
  exact trodAll_mk1 (shut_bool htb true)
 ·rw [hs2]
  exact zEL hl hb _ _ _ _ hts hA hlt (fun x hx=>hs x (by simp [hx]))
 ·rw [hs3,hv]
  rfl
 ·intro j t r hj hrj
  rw [hr]at hj hrj
  have :j=0:=by
   rcases Nat.eq_zero_or_pos j with h|h
   ·exact h
   ·rw [Array.getElem?_eq_none (by simp;omega)]at hj;cases hj
  subst this
  simp [Value.resultList]at hj hrj
  subst hj;subst hrj
  exact hk _
end
open Go.RowKit
set_option linter.unusedVariables false
set_option linter.unusedSimpArgs false
def Ym (n:Nat)(p:Nat→Bool):Bool:=(List.range n).all p
theorem qG {n:Nat}{p:Nat→Bool}(h: ∀k,k<n→p k=true):Ym n p=true:=by
 unfold Ym;rw [List.all_eq_true];intro k hk;exact h k (List.mem_range.1 hk)
theorem YP {n k:Nat}{p:Nat→Bool}(hk:k<n)(h:p k=false):Ym n p=false:=by
 unfold Ym;rw [List.all_eq_false];exact⟨k,List.mem_range.2 hk,by simp [h]⟩
theorem xl {n k:Nat}{p:Nat→Bool}(h:Ym n p=true)(hk:k<n):p k=true:=by
 unfold Ym at h;rw [List.all_eq_true]at h;exact h k (List.mem_range.2 hk)
def xp (xs:List Int)(n:Int)(k:Nat):Bool:=decide (0≤gi xs k∧gi xs k<n∧(k=0∨gi xs (k - 1)<gi xs k))
def zv (xs:List Int)(n:Int):Bool:=Ym xs.length (xp xs n)
theorem zIt {xs:List Int}{n:Int}(h:zv xs n=true): ∀k,k<xs.length→(k:Int)≤gi xs k:=by
 intro k
 induction k with
 |zero=>
  intro hk
  have :=xl h hk
  unfold xp at this
  have :=of_decide_eq_true this
  omega
 |succ k ih=>
  intro hk
  have h1:=ih (by omega)
  have :=xl h hk
  unfold xp at this
  have :=of_decide_eq_true this
  simp at this
  omega
theorem zMK {xs:List Int}{n:Int}(h:zv xs n=true)(h0:0≤n):(xs.length:Int)≤n:=by
 rcases Nat.eq_zero_or_pos xs.length with h1|h1
 ·omega
 ·have h2:=zIt h (xs.length - 1) (by omega)
  have h3:=xl h (k:=xs.length - 1) (by omega)
  unfold xp at h3
  have h3:=of_decide_eq_true h3
  omega
def QC (a:Ar)(v:Nat):Bool:=decide (0≤gi a.owner v∧gi a.owner v≤1∧1≤(gl a.next v).length∧(gl a.next v).length≤16)
def vO (a:Ar)(v:Nat):Bool:=QC a v&&zv (gl a.next v) a.owner.length
def yK (a:Ar):Bool:=decide (1≤a.owner.length∧a.owner.length≤256∧a.next.length=a.owner.length)&&Ym a.owner.length (vO a)
theorem Ji {a:Ar}(h: ¬(1≤a.owner.length∧a.owner.length≤256∧a.next.length=a.owner.length)):yK a=false:=by
 unfold yK;rw [decide_eq_false h];rfl
theorem Jj {a:Ar}{v:Nat}(hv:v<a.owner.length)(h:vO a v=false):yK a=false:=by
 unfold yK;rw [YP hv h];simp
theorem Zd {a:Ar}(h:1≤a.owner.length∧a.owner.length≤256∧a.next.length=a.owner.length)(h2: ∀v,v<a.owner.length→vO a v=true):yK a=true:=by
 unfold yK;rw [decide_eq_true h,qG h2];rfl
theorem yO {a:Ar}(h:yK a=true):1≤a.owner.length∧a.owner.length≤256∧a.next.length=a.owner.length:=by
 unfold yK at h
 rw [Bool.and_eq_true]at h
 exact of_decide_eq_true h.1
theorem xD {a:Ar}(h:yK a=true){v:Nat}(hv:v<a.owner.length):0≤gi a.owner v∧gi a.owner v≤1∧1≤(gl a.next v).length∧(gl a.next v).length≤16∧zv (gl a.next v) a.owner.length=true:=by
 unfold yK at h
 rw [Bool.and_eq_true]at h
 have :=xl h.2 hv
 unfold vO QC at this
 rw [Bool.and_eq_true]at this
 have h1:=of_decide_eq_true this.1
 exact⟨h1.1,h1.2.1,h1.2.2.1,h1.2.2.2,this.2⟩
def qA (xs:List Int)(x:Int):Nat:=xs.findIdx (fun y=>y==x)
def zr (xs:List Int)(x:Int):Bool:=decide (qA xs x<xs.length)
def ixB (xs:List Int)(x:Int):Int:=if qA xs x<xs.length then(qA xs x:Int)else -1
theorem zAF {xs:List Int}{x:Int}{k:Nat}(hk:k<xs.length)(h: ∀j,j<k→¬gi xs j=x)(he:gi xs k=x):qA xs x=k:=by
 unfold qA
 rw [List.findIdx_eq hk]
 have hg: ∀j (hj:j<xs.length),xs[j]=gi xs j:=fun j hj=>by unfold gi;rw [List.getD_eq_getElem?_getD,List.getElem?_eq_getElem hj];rfl
 refine⟨by rw [hg,he];simp,fun j hj=> ?_⟩
 rw [hg]
 simpa using h j hj
theorem zBK {xs:List Int}{x:Int}(h: ∀j,j<xs.length→¬gi xs j=x):qA xs x=xs.length:=by
 unfold qA
 rw [List.findIdx_eq_length]
 intro y hy
 obtain⟨j,hj,rfl⟩:=List.mem_iff_getElem.1 hy
 have :=h j hj
 unfold gi at this
 rw [List.getD_eq_getElem?_getD,List.getElem?_eq_getElem hj]at this
 simpa using this
theorem zAG (xs:List Int)(x:Int):qA xs x≤xs.length:=List.findIdx_le_length
theorem zH0 {xs:List Int}{x:Int}(h:qA xs x<xs.length):gi xs (qA xs x)=x:=by
 unfold qA at h⊢
 have :=List.findIdx_getElem (w:=h)
 unfold gi
 rw [List.getD_eq_getElem?_getD,List.getElem?_eq_getElem h]
 simpa using this
theorem zEo {xs:List Int}{x:Int}{j:Nat}(h:j<qA xs x): ¬gi xs j=x:=by
 have hl:j<xs.length:=Nat.lt_of_lt_of_le h (zAG xs x)
 unfold qA at h
 have :=List.not_of_lt_findIdx h
 unfold gi
 rw [List.getD_eq_getElem?_getD,List.getElem?_eq_getElem hl]
 simpa using this
theorem yD (xs:List Int)(x:Int):zr xs x=true↔x∈xs:=by
 unfold zr
 rw [decide_eq_true_eq]
 unfold qA
 rw [List.findIdx_lt_length]
 constructor
 ·rintro⟨y,hy,he⟩
  have :y=x:=by simpa using he
  exact this ▸ hy
 ·exact fun h=>⟨x,h,by simp⟩
theorem zIN {xs:List Int}{x:Int}{k:Nat}(hk:k<xs.length)(h: ∀j,j<k→¬gi xs j=x)(he:gi xs k=x):ixB xs x=k:=by
 unfold ixB;rw [zAF hk h he,if_pos hk]
theorem zJi {xs:List Int}{x:Int}(h: ∀j,j<xs.length→¬gi xs j=x):ixB xs x= -1:=by
 unfold ixB;rw [zBK h,if_neg (by omega)]
theorem zLt (xs:List Int)(x:Int):decide (0≤ixB xs x)=zr xs x:=by
 unfold ixB zr
 by_cases h:qA xs x<xs.length
 ·rw [if_pos h];simp [h]
 ·rw [if_neg h];simp [h]
def zOE (n:Nat)(v:Int):Bool:=inB v 0 ((n:Int) - 1)
def Jf (l:Ls):List Int:=l.stem++l.loop++ [gi l.loop 0]
def edgeB (a:Ar)(u v:Int):Bool:=zr (gl a.next u.toNat) v
def zCL (a:Ar)(way:List Int)(i:Nat):Bool:=decide (i=0)||edgeB a (gi way (i - 1)) (gi way i)
def zLx (a:Ar)(way:List Int)(i:Nat):Bool:=zOE a.owner.length (gi way i)&&zCL a way i
def lenB (l:Ls):Bool:=decide (l.stem.length≤256∧1≤l.loop.length∧l.loop.length≤256)
def zNh (a:Ar)(l:Ls):Bool:=lenB l&&Ym (Jf l).length (zLx a (Jf l))
theorem WH {xs ys:List Int}{k:Nat}(h:k<xs.length):gi (xs++ys) k=gi xs k:=by
 unfold gi;rw [List.getD_eq_getElem?_getD,List.getElem?_append_left h];rfl
theorem zH8 {xs:List Int}{y:Int}:gi (xs++ [y]) xs.length=y:=by
 unfold gi;rw [List.getD_eq_getElem?_getD,List.getElem?_append_right (Nat.le_refl _)];simp
theorem zJc {xs ys:List Int}{n k:Nat}(h:xs.length=n):gi (xs++ys) (n+k)=gi ys k:=by
 subst h
 unfold gi;rw [List.getD_eq_getElem?_getD,List.getElem?_append_right (by omega),List.getD_eq_getElem?_getD]
 congr 2
 omega
structure WOk (a:Wt)(bd:Int):Prop where
 n1:1≤a.a.owner.length
 n24:a.a.owner.length≤24
 next:a.a.next.length=a.a.owner.length
 cost:a.cost.length=a.a.owner.length
 own: ∀v,v<a.a.owner.length→0≤gi a.a.owner v∧gi a.a.owner v≤1
 deg: ∀v,v<a.a.owner.length→1≤(gl a.a.next v).length∧(gl a.a.next v).length≤16
 set_: ∀v,v<a.a.owner.length→zv (gl a.a.next v) a.a.owner.length=true
 row: ∀v,v<a.a.owner.length→(gl a.cost v).length=(gl a.a.next v).length
 bd: ∀v k,v<a.a.owner.length→k<(gl a.cost v).length→ -bd≤gi (gl a.cost v) k∧gi (gl a.cost v) k≤bd
def zKR (a:Wt)(v:Nat)(u:Int):Int:=gi (gl a.cost v) (qA (gl a.a.next v) u)
theorem ZP {xs:List (List Int)}{B:Nat}(h:Yk B xs)(v:Nat):(gl xs v).length≤B:=by
 rcases Nat.lt_or_ge v xs.length with hv|hv
 ·exact h.2 _ (List.mem_of_getElem? (UG hv))
 ·unfold gl;rw [List.getD_eq_getElem?_getD,List.getElem?_eq_none hv];simp
set_option maxHeartbeats 1000000 in
theorem xH (x lo hi:Int):Fn Tryz.prog tyT 61 [.c (.int .i64 x), .c (.int .i64 lo), .c (.int .i64 hi)] [.c (.bool (decide (lo≤x∧x≤hi)))]:=by
 refine θH (ts:= [6]) Tryz.func61 Tryz.ntmps61 ?_
 push_cast [↓zK,↓zJ]
 refine θA ?_
 refine zL fun K hK=> ?_
 refine zc false zQ zN ?_ rfl ?_
 ·kernel_rfl
 push_cast [↓zK,↓zJ]
 repeat'(first|(apply zO<;>(intro hg;(try simp only [push_cast]at hg)))|apply And.intro|(intro hg;(try simp only [push_cast]at hg)))
 all_goals try exact gA
 all_goals(refine hK _ ?_;clear hK K)
 all_goals refine zY ?_
 all_goals(try simp only [zR,zS])
 all_goals refine⟨Or.inl rfl,?_⟩
 all_goals push_cast [zd,↓zK,↓zJ]
 ·rw [decide_eq_decide];omega
 ·symm;rw [decide_eq_false_iff_not];omega
set_option maxHeartbeats 2000000 in
theorem yP (xs:List Int)(n:Int)(hl:xs.length≤1048576):Fn Tryz.prog tyT 75 [.c (DI xs), .c (.int .i64 n)] [.c (.bool (zv xs n))]:=by
 refine θH (ts:= [4]) Tryz.func75 Tryz.ntmps75 ?_
 push_cast [↓zK,↓zJ]
 refine θA ?_
 refine zL fun K1 hK1=> ?_
 refine θA ?_
 refine zV ?_
 refine zh [4,5,6,9,10,11,12,13,14,15,16,17,18,19,20,21,22,23,24,25,26,27,28,29,30,31,32,33,34] [] (fun k:Nat=> [(9, .int .i64 k)]) (fun _=> []) (fun k=> []) (fun k=>k≤xs.length∧∀j,j<k→xp xs n j=true) (fun k=>xs.length - k) 0 ?_ ⟨by omega,fun j hj=>by omega⟩ ?_
 ·exact θX
 ·rintro k ⟨hk,hall⟩ K0 hK0
  push_cast [↓zK,↓zJ]
  refine θA ?_
  refine zL fun K2 hK2=> ?_
  refine θU (fun hc=> ?_) fun hc=> ?_
  ·refine zW ?_
   refine hK2 _ ?_
   refine zL fun K3 hK3=> ?_
   refine zV ?_
   refine θA ?_
   refine zL fun K hK=> ?_
   refine zc false zQ zN ?_ rfl ?_
   ·kernel_rfl
   push_cast [↓zK,↓zJ]
   repeat'(first|(apply zO<;>(intro hg;(try simp only [push_cast]at hg)))|apply And.intro|(intro hg;(try simp only [push_cast]at hg)))
   all_goals try exact gA
   all_goals(refine hK _ ?_;clear hK K)
   all_goals refine zU rfl (fun hc=> ?_) (fun hc=> ?_)
   all_goals(first|(cases hc;done)|skip)
   all_goals(try simp only [push_cast]at hc)
   all_goals first
    |(
     refine zW (hK3 _ ?_)
     refine θB ?_
     refine hK0 _ ⟨k+1,⟨by omega,fun j hj=> ?_⟩,by omega,?_⟩
     ·by_cases hjk:j=k
      ·subst hjk;unfold xp;rw [decide_eq_true_eq];omega
      ·exact hall j (by omega)
     ·refine zX rfl ?_ ?_ ?_<;>push_cast [zf,ze,↓zK,↓zJ])
    |(
     skip
     refine θA ?_
     refine zY ⟨Or.inl rfl,?_⟩
     push_cast [zd,↓zK,↓zJ]
     symm
     refine YP (k:=k) (by omega) ?_
     unfold xp;rw [decide_eq_false_iff_not];omega)
  ·refine zi ?_
   refine hK1 _ ?_
   refine θA ?_
   refine zY ⟨Or.inl rfl,?_⟩
   push_cast [zd,↓zK,↓zJ]
   symm
   exact qG fun j hj=>hall j (by omega)
set_option maxHeartbeats 2000000 in
theorem zGq (xs:List Int)(n:Int)(hl:xs.length≤1048576)(h0: -9223372036854775807≤n)(h1:n≤9223372036854775807):Fn Tryz.prog tyT 168 [.c (DI xs), .c (.int .i64 n)] [.c (.bool (zv xs n))]:=by
 refine θH (ts:= [4]) Tryz.func168 Tryz.ntmps168 ?_
 push_cast [↓zK,↓zJ]
 refine θA ?_
 refine zL fun K1 hK1=> ?_
 refine θA ?_
 refine zV ?_
 refine zh [4,5,6,7,8,9,10,11,12,13,14,15,16,17,18,19,20,21,22,23,24,25,26,27,28,29,30,31,32,33,34,35] [] (fun k:Nat=> [(5, .int .i64 k)]) (fun _=> []) (fun k=> []) (fun k=>k≤xs.length∧∀j,j<k→xp xs n j=true) (fun k=>xs.length - k) 0 ?_ ⟨by omega,fun j hj=>by omega⟩ ?_
 ·exact θX
 ·rintro k ⟨hk,hall⟩ K0 hK0
  push_cast [↓zK,↓zJ]
  refine zL fun K2 hK2=> ?_
  refine θA ?_
  refine θU (fun hc=> ?_) fun hc=> ?_
  ·refine zW ?_
   refine hK2 _ ?_
   refine zL fun K3 hK3=> ?_
   refine zV ?_
   refine zL fun K hK=> ?_
   refine vV false zQ zN xR ?_ rfl ?_
   ·kernel_rfl
   intro C hC
   push_cast [↓zK,↓zJ]
   repeat'(first|(apply zO<;>(intro hg;(try push_cast at hg)))|(refine⟨_,xH _ _ _,?_⟩;push_cast [↓zK,↓zJ])|apply And.intro|(intro hg;(try push_cast at hg)))
   all_goals first|exact gA|(refine hC _ ?_;kernel_rfl)|skip
   all_goals(refine hK _ ?_;clear hK K)
   all_goals refine zU rfl (fun hc=> ?_) (fun hc=> ?_)
   all_goals(first|(cases hc;done)|skip)
   all_goals(try simp only [push_cast]at hc)
   all_goals first
    |(
     refine zW (hK3 _ ?_)
     refine θB ?_
     refine hK0 _ ⟨k+1,⟨by omega,fun j hj=> ?_⟩,by omega,?_⟩
     ·by_cases hjk:j=k
      ·subst hjk;unfold xp;rw [decide_eq_true_eq];omega
      ·exact hall j (by omega)
     ·refine zX rfl ?_ ?_ ?_<;>push_cast [zf,ze,↓zK,↓zJ])
    |(
     skip
     refine θA ?_
     refine zY ⟨Or.inl rfl,?_⟩
     push_cast [zd,↓zK,↓zJ]
     symm
     refine YP (k:=k) (by omega) ?_
     unfold xp;rw [decide_eq_false_iff_not];omega)
  ·refine zi ?_
   refine hK1 _ ?_
   refine θA ?_
   refine zY ⟨Or.inl rfl,?_⟩
   push_cast [zd,↓zK,↓zJ]
   symm
   exact qG fun j hj=>hall j (by omega)
set_option maxHeartbeats 1000000 in
theorem xv (xs:List Int)(n:Int)(hl:xs.length≤1048576)(h0:0≤n)(h1:n≤9223372036854775807):Fn Tryz.prog tyT 120 [.c (DI xs), .c (.int .i64 n)] [.c (.bool (zv xs n))]:=by
 refine θH (ts:= [4]) Tryz.func120 Tryz.ntmps120 ?_
 push_cast [↓zK,↓zJ]
 refine θA ?_
 refine zL fun K hK=> ?_
 refine zc false zQ zN ?_ rfl ?_
 ·kernel_rfl
 push_cast [↓zK,↓zJ]
 repeat'(first|(apply zO<;>(intro hg;(try simp only [push_cast]at hg)))|(refine⟨_,zGq xs n hl (by omega) (by omega),?_⟩;push_cast [↓zK,↓zJ])|apply And.intro|(intro hg;(try simp only [push_cast]at hg)))
 all_goals try exact gA
 all_goals(refine hK _ ?_;clear hK K)
 all_goals refine zY ?_
 all_goals(try simp only [zR,zS])
 all_goals refine⟨Or.inl rfl,?_⟩
 all_goals push_cast [zd,↓zK,↓zJ]
 symm
 cases hc:zv xs n with
 |false=>rfl
 |true=>exfalso;have :=zMK hc h0;omega
set_option maxRecDepth 20000 in
set_option maxHeartbeats 4000000 in
theorem jn (a:Ar)(ha:a.Ln 1048576):Fn Tryz.prog tyT 65 [.agg (dAr a)] [.c (.bool (yK a))]:=by
 have hr: ∀v,(gl a.next v).length≤1048576:=fun v=>ZP ha.next v
 have hno:=ha.owner
 have hnn:=ha.next.1
 unfold LnI at hno
 unfold dAr
 refine θH (ts:= [2]) Tryz.func65 Tryz.ntmps65 ?_
 push_cast [↓zK,↓zJ]
 refine θA ?_
 refine θA ?_
 refine zL fun K1 hK1=> ?_
 refine zL fun K hK=> ?_
 refine zc false zQ zN ?_ rfl ?_
 ·kernel_rfl
 all_goals push_cast [↓zK,↓zJ]
 all_goals repeat'(first|(apply zO<;>(intro hg;(try simp only [push_cast]at hg)))|(refine⟨_,yP (gl a.next _) _ (hr _),?_⟩;push_cast [↓zK,↓zJ])|apply And.intro|(intro hg;(try simp only [push_cast]at hg)))
 all_goals first|exact gA|(exact zP (by omega))|skip
 all_goals(refine hK _ ?_;clear hK K)
 all_goals refine zU rfl (fun hc=> ?_) (fun hc=> ?_)
 all_goals(first|(cases hc;done)|skip)
 all_goals(try simp only [push_cast]at hc)
 all_goals try(
   refine θA ?_
   refine zY ⟨Or.inl rfl,?_⟩
   push_cast [zd,↓zK,↓zJ]
   symm
   refine Ji ?_
   omega
   done)
 refine zW (hK1 _ ?_)
 refine zL fun K2 hK2=> ?_
 refine θA ?_
 refine zV ?_
 refine zh [2,4,5,11,15,25,26,27,28,29,30,31,32,33,34,35,36,37,38,39,40,41,42,43,44,45,46,47,48,49,50,51,52,53,54,55,56,57,58,59,60] [] (fun(k:Nat)=> [(25, .int .i64 k)]) (fun k=> []) (fun k=> []) (fun k=>k≤a.owner.length∧∀j,j<k→vO a j=true) (fun k=>a.owner.length - k) 0 ?_ ⟨by omega,fun j hj=>by omega⟩ ?_
 ·
  exact θX
 ·rintro k ⟨hk,hall⟩ KL0 hL0
  push_cast [↓zK,↓zJ]
  refine θA ?_
  refine zL fun K3 hK3=> ?_
  refine θU (fun hc=> ?_) fun hc=> ?_
  ·
   refine zW (hK3 _ ?_)
   refine zL fun K4 hK4=> ?_
   refine zV ?_
   refine θA ?_
   refine zL fun K hK=> ?_
   refine zc false zQ zN ?_ rfl ?_
   ·kernel_rfl
   all_goals refine zm 28 fun K9 hK9=> ?_
   all_goals push_cast [↓zK,↓zJ]
   all_goals repeat'(first|(apply zO<;>(intro hg;(try push_cast at hg)))|(refine⟨_,yP (gl a.next _) _ (hr _),?_⟩;push_cast [↓zK,↓zJ])|apply And.intro|(intro hg;(try push_cast at hg)))
   all_goals first|exact gA|(exact zP (by omega))|skip
   all_goals(refine hK9 _ ?_;clear hK9 K9)
   all_goals push_cast [↓zK,↓zJ]
   all_goals repeat'(first|(apply zO<;>(intro hg;(try push_cast at hg)))|(refine⟨_,yP (gl a.next _) _ (hr _),?_⟩;push_cast [↓zK,↓zJ])|apply And.intro|(intro hg;(try push_cast at hg)))
   all_goals first|exact gA|(exact zP (by omega))|skip
   all_goals(refine hK _ ?_;clear hK K)
   all_goals refine zU rfl (fun hc=> ?_) (fun hc=> ?_)
   all_goals(first|(cases hc;done)|skip)
   all_goals(try simp only [push_cast]at hc)
   all_goals try(
     refine θA ?_
     refine zY ⟨Or.inl rfl,?_⟩
     push_cast [zd,↓zK,↓zJ]
     symm
     refine Jj (v:=k) (by omega) ?_
     unfold vO QC
     rw [Bool.and_eq_false_iff,decide_eq_false_iff_not]
     first|(left;omega)|(right;assumption)
     done)
   refine zW (hK4 _ ?_)
   refine θB ?_
   refine hL0 _ ⟨k+1,⟨by omega,fun j hj=>(by
     by_cases hjk:j=k
     ·subst hjk;unfold vO QC;rw [Bool.and_eq_true,decide_eq_true_eq];exact⟨by omega,by assumption⟩
     ·exact hall j (by omega))⟩,by omega,?_⟩
   exact θX
  ·
   refine zi (hK2 _ ?_)
   refine θA ?_
   refine zY ⟨Or.inl rfl,?_⟩
   push_cast [zd,↓zK,↓zJ]
   symm
   exact Zd (by omega) fun v hv=>hall v (by omega)
set_option maxRecDepth 20000 in
set_option maxHeartbeats 4000000 in
theorem jo (a:Ar)(ha:a.Ln 1048576):Fn Tryz.prog tyT 70 [.agg (dAr a)] [.c (.bool (yK a))]:=by
 have hr: ∀v,(gl a.next v).length≤1048576:=fun v=>ZP ha.next v
 have hno:=ha.owner
 have hnn:=ha.next.1
 unfold LnI at hno
 unfold dAr
 refine θH (ts:= [2]) Tryz.func70 Tryz.ntmps70 ?_
 push_cast [↓zK,↓zJ]
 refine θA ?_
 refine θA ?_
 refine zL fun K1 hK1=> ?_
 refine zL fun K hK=> ?_
 refine zc false zQ zN ?_ rfl ?_
 ·kernel_rfl
 all_goals refine zm 2 fun K9 hK9=> ?_
 all_goals push_cast [↓zK,↓zJ]
 all_goals repeat'(first|(apply zO<;>(intro hg;(try push_cast at hg)))|(refine⟨_,xH _ _ _,?_⟩;push_cast [↓zK,↓zJ])|(refine⟨_,xv (gl a.next _) _ (hr _) (by omega) (by omega),?_⟩;push_cast [↓zK,↓zJ])|apply And.intro|(intro hg;(try push_cast at hg)))
 all_goals first|exact gA|(exact zP (by omega))|skip
 all_goals(refine hK9 _ ?_;clear hK9 K9)
 all_goals push_cast [↓zK,↓zJ]
 all_goals repeat'(first|(apply zO<;>(intro hg;(try push_cast at hg)))|(refine⟨_,xH _ _ _,?_⟩;push_cast [↓zK,↓zJ])|(refine⟨_,xv (gl a.next _) _ (hr _) (by omega) (by omega),?_⟩;push_cast [↓zK,↓zJ])|apply And.intro|(intro hg;(try push_cast at hg)))
 all_goals first|exact gA|(exact zP (by omega))|skip
 all_goals(refine hK _ ?_;clear hK K)
 all_goals refine zU rfl (fun hc=> ?_) (fun hc=> ?_)
 all_goals(first|(cases hc;done)|skip)
 all_goals(try simp only [push_cast]at hc)
 all_goals try(
   refine θA ?_
   refine zY ⟨Or.inl rfl,?_⟩
   push_cast [zd,↓zK,↓zJ]
   symm
   refine Ji ?_
   omega
   done)
 refine zW (hK1 _ ?_)
 refine zL fun K2 hK2=> ?_
 refine θA ?_
 refine zV ?_
 refine zh [2,4,11,20,21,22,23,24,25,26,27,28,29,30,31,32,33,34,35,36,37,38,39,40,41,42,43,44,45,46,47,48,49,50,51,52,53,54,55,56,57,58,59,60,61] [] (fun(k:Nat)=> [(4, .int .i64 k)]) (fun k=> []) (fun k=> []) (fun k=>k≤a.owner.length∧∀j,j<k→vO a j=true) (fun k=>a.owner.length - k) 0 ?_ ⟨by omega,fun j hj=>by omega⟩ ?_
 ·
  exact θX
 ·rintro k ⟨hk,hall⟩ KL0 hL0
  push_cast [↓zK,↓zJ]
  refine zL fun K3 hK3=> ?_
  refine θA ?_
  refine θU (fun hc=> ?_) fun hc=> ?_
  ·
   refine zW (hK3 _ ?_)
   refine zL fun K4 hK4=> ?_
   refine zV ?_
   refine zL fun K hK=> ?_
   refine zc false zQ zN ?_ rfl ?_
   ·kernel_rfl
   all_goals refine zm 6 fun K9 hK9=> ?_
   all_goals push_cast [↓zK,↓zJ]
   all_goals repeat'(first|(apply zO<;>(intro hg;(try push_cast at hg)))|(refine⟨_,xH _ _ _,?_⟩;push_cast [↓zK,↓zJ])|(refine⟨_,xv (gl a.next _) _ (hr _) (by omega) (by omega),?_⟩;push_cast [↓zK,↓zJ])|apply And.intro|(intro hg;(try push_cast at hg)))
   all_goals first|exact gA|(exact zP (by omega))|skip
   all_goals(refine hK9 _ ?_;clear hK9 K9)
   all_goals refine zm 27 fun K9 hK9=> ?_
   all_goals push_cast [↓zK,↓zJ]
   all_goals repeat'(first|(apply zO<;>(intro hg;(try push_cast at hg)))|(refine⟨_,xH _ _ _,?_⟩;push_cast [↓zK,↓zJ])|(refine⟨_,xv (gl a.next _) _ (hr _) (by omega) (by omega),?_⟩;push_cast [↓zK,↓zJ])|apply And.intro|(intro hg;(try push_cast at hg)))
   all_goals first|exact gA|(exact zP (by omega))|skip
   all_goals(refine hK9 _ ?_;clear hK9 K9)
   all_goals push_cast [↓zK,↓zJ]
   all_goals repeat'(first|(apply zO<;>(intro hg;(try push_cast at hg)))|(refine⟨_,xH _ _ _,?_⟩;push_cast [↓zK,↓zJ])|(refine⟨_,xv (gl a.next _) _ (hr _) (by omega) (by omega),?_⟩;push_cast [↓zK,↓zJ])|apply And.intro|(intro hg;(try push_cast at hg)))
   all_goals first|exact gA|(exact zP (by omega))|skip
   all_goals(refine hK _ ?_;clear hK K)
   all_goals refine zU rfl (fun hc=> ?_) (fun hc=> ?_)
   all_goals(first|(cases hc;done)|skip)
   all_goals(try simp only [push_cast]at hc)
   all_goals try(
     refine θA ?_
     refine zY ⟨Or.inl rfl,?_⟩
     push_cast [zd,↓zK,↓zJ]
     symm
     refine Jj (v:=k) (by omega) ?_
     unfold vO QC
     rw [Bool.and_eq_false_iff,decide_eq_false_iff_not]
     first|(left;omega)|(right;assumption)
     done)
   refine zW (hK4 _ ?_)
   refine θB ?_
   refine hL0 _ ⟨k+1,⟨by omega,fun j hj=>(by
     by_cases hjk:j=k
     ·subst hjk;unfold vO QC;rw [Bool.and_eq_true,decide_eq_true_eq];exact⟨by omega,by assumption⟩
     ·exact hall j (by omega))⟩,by omega,?_⟩
   exact θX
  ·
   refine zi (hK2 _ ?_)
   refine θA ?_
   refine zY ⟨Or.inl rfl,?_⟩
   push_cast [zd,↓zK,↓zJ]
   symm
   exact Zd (by omega) fun v hv=>hall v (by omega)
theorem zNf (xs:List Int)(x:Int):decide (ixB xs x≥0)=zr xs x:=zLt xs x
set_option maxRecDepth 20000 in
set_option maxHeartbeats 4000000 in
theorem kV (xs:List Int)(x:Int)(hl:xs.length≤1048576):Fn Tryz.prog tyT 143 [.c (DI xs), .c (.int .i64 x)] [.c (.int .i64 (ixB xs x))]:=by
 refine θH (ts:= [4]) Tryz.func143 Tryz.ntmps143 ?_
 push_cast
 refine θA ?_
 refine zL fun K1 hK1=> ?_
 refine θA ?_
 refine zV ?_
 refine zh [4,5,8,9,10,11,12,13,14,15,16,17,18] [] (fun(k:Nat)=> [(8, .int .i64 k)]) (fun k=> []) (fun k=> []) (fun k=>k≤xs.length∧∀j,j<k→¬gi xs j=x) (fun k=>xs.length - k) 0 ?_ ⟨by omega,fun j hj=>by omega⟩ ?_
 ·
  exact θX
 ·rintro k ⟨hk,hall⟩ KL0 hL0
  push_cast
  refine θA ?_
  refine zL fun K2 hK2=> ?_
  refine θU (fun hc=> ?_) fun hc=> ?_
  ·
   refine zW (hK2 _ ?_)
   refine zL fun K3 hK3=> ?_
   refine zV ?_
   refine θA ?_
   refine θA ?_
   refine θU (fun hc=> ?_) fun hc=> ?_
   ·
    refine θA ?_
    refine zY ⟨Or.inl rfl,?_⟩
    push_cast [zd]
    symm
    exact zIN (k:=k) (by omega) hall (by omega)
   ·
    refine zW (hK3 _ ?_)
    refine θB ?_
    refine hL0 _ ⟨k+1,⟨by omega,fun j hj=>(by
      by_cases hjk:j=k
      ·subst hjk;omega
      ·exact hall j (by omega))⟩,by omega,?_⟩
    exact θX
  ·
   refine zi (hK1 _ ?_)
   refine θA ?_
   refine zY ⟨Or.inl rfl,?_⟩
   push_cast [zd]
   symm
   exact zJi fun j hj=>hall j (by omega)
set_option maxRecDepth 20000 in
set_option maxHeartbeats 4000000 in
theorem xz (xs:List Int)(x:Int)(hl:xs.length≤1048576):Fn Tryz.prog tyT 97 [.c (DI xs), .c (.int .i64 x)] [.c (.bool (zr xs x))]:=by
 refine θH (ts:= [4]) Tryz.func97 Tryz.ntmps97 ?_
 push_cast
 refine θA ?_
 refine θL fun K hK=> ?_
 all_goals refine zj 3 fun K9 hK9=> ?_
 all_goals push_cast
 all_goals repeat'(first|(apply zO<;>(intro hg;push_cast at hg))|(refine⟨_,kV xs x hl,?_⟩;push_cast)|apply And.intro|(intro hg;push_cast at hg))
 all_goals try exact gA
 refine hK9 _ ?_;clear hK9 K9
 all_goals push_cast
 all_goals repeat'(first|(apply zO<;>(intro hg;push_cast at hg))|(refine⟨_,kV xs x hl,?_⟩;push_cast)|apply And.intro|(intro hg;push_cast at hg))
 all_goals try exact gA
 refine hK _ ?_;clear hK K
 refine zY ⟨Or.inl rfl,?_⟩
 push_cast [zd]
 exact zNf xs x
set_option maxRecDepth 20000 in
set_option maxHeartbeats 4000000 in
theorem jh (a:Ar):Fn Tryz.prog tyT 67 [.agg (dAr a)] [.c (.int .i64 a.owner.length)]:=by
 unfold dAr
 refine θH (ts:= [2]) Tryz.func67 Tryz.ntmps67 ?_
 push_cast
 refine θA ?_
 refine θA ?_
 refine zY ⟨Or.inl rfl,?_⟩
 push_cast [zd]
set_option maxRecDepth 20000 in
set_option maxHeartbeats 4000000 in
theorem KQ (a:Ar)(v:Int):Fn Tryz.prog tyT 68 [.agg (dAr a), .c (.int .i64 v)] [.c (.bool (decide (0≤v∧v<a.owner.length)))]:=by
 have hA:=jh a
 unfold dAr at hA⊢
 refine θH (ts:= [4]) Tryz.func68 Tryz.ntmps68 ?_
 push_cast [↓zK,↓zJ]
 refine θA ?_
 refine zL fun K hK=> ?_
 refine zc false zQ zN ?_ rfl ?_
 ·kernel_rfl
 all_goals refine zm 6 fun K9 hK9=> ?_
 all_goals push_cast [↓zK,↓zJ]
 all_goals repeat'(first|(apply zO<;>(intro hg;(try push_cast at hg)))|(refine⟨_,hA,?_⟩;push_cast [↓zK,↓zJ])|apply And.intro|(intro hg;(try push_cast at hg)))
 all_goals try exact gA
 all_goals(refine hK9 _ ?_;clear hK9 K9)
 all_goals push_cast [↓zK,↓zJ]
 all_goals repeat'(first|(apply zO<;>(intro hg;(try push_cast at hg)))|(refine⟨_,hA,?_⟩;push_cast [↓zK,↓zJ])|apply And.intro|(intro hg;(try push_cast at hg)))
 all_goals try exact gA
 all_goals(refine hK _ ?_;clear hK K)
 all_goals(
   refine zY ⟨Or.inl rfl,?_⟩
   push_cast [zd,↓zK,↓zJ]
   first|(rw [decide_eq_decide];omega)|(symm;rw [decide_eq_false_iff_not];omega))
set_option maxRecDepth 20000 in
set_option maxHeartbeats 4000000 in
theorem zBX (xs:List Int)(hl:xs.length≤1048576):Fn Tryz.prog tyT 125 [.c (DI xs)] [.c (DI xs)]:=by
 refine θH (ts:= [2]) Tryz.func125 Tryz.ntmps125 ?_
 push_cast
 refine θA ?_
 refine θA ?_
 refine zY ⟨Or.inl rfl,?_⟩
 push_cast [zd]
def stepC (w:Wt)(v u:Int):Int:=if zr (gl w.a.next v.toNat) u=true then zKR w v.toNat u else 0
def zNs (xs:List Int)(t:Int)(i:Nat):Int:=if i+1<xs.length then gi xs (i+1)else t
def zKj (w:Wt)(xs:List Int)(t:Int):List Int:=(List.range xs.length).map fun i=>stepC w (gi xs i) (zNs xs t i)
open Go.ChangeShapes Go.WideShapes Go.ChangeAt Go.RowKit Go.Deep Go.Joins
theorem Xw {α:Type}{k:Nat}(hk:0<k): ∀{ls:List (List α)},(∀l∈ls,l.length=k)→∀i,ls.flatten[i]? =(ls[i / k]?).bind fun l=>l[i%k]?
 | [],_,i=>by simp
 |l::ls,h,i=>by
  have hl:=h l (by simp)
  rw [List.flatten_cons]
  by_cases hi:i<k
  ·rw [List.getElem?_append_left (by omega),Nat.div_eq_of_lt hi,Nat.mod_eq_of_lt hi];rfl
  ·rw [List.getElem?_append_right (by omega),hl,Xw hk (fun l hl=>h l (by simp [hl]))]
   have e1:i / k=(i - k) / k+1:=by rw [←Nat.add_div_right _ hk,Nat.sub_add_cancel (by omega)]
   have e2:i%k=(i - k)%k:=by rw [←Nat.mod_eq_sub_mod (by omega)]
   rw [e1,e2,List.getElem?_cons_succ]
theorem XL {α:Type}{k:Nat}: ∀{ls:List (List α)},(∀l∈ls,l.length=k)→ls.flatten.length=ls.length*k
 | [],_=>by simp
 |l::ls,h=>by
  rw [List.flatten_cons,List.length_append,XL (fun l hl=>h l (by simp [hl])),h l (by simp),List.length_cons,Nat.add_mul]
  omega
theorem zMl {S:TypeId→Nat}{lo:Nat}{w:World}{ow:Nat→Option Pl}{ds:List D}{cs:List Value}(h:RpS S lo w ow ds cs){i:Nat}{d:D}{c:Value}(hd:ds[i]? =some d)(hc:cs[i]? =some c):Rp S lo w ow .sh d c:=(ZC h).2 i d c hd hc
theorem zLA {S:TypeId→Nat}{lo:Nat}{w:World}{ow:Nat→Option Pl}{d:D}{c:Value}(h:Rp S lo w ow .sh d c):RpS S lo w ow [d] [c]:=by simp only [RpS];exact⟨c,[],rfl,h,rfl⟩
def i64 (x:Int):Prop:= -9223372036854775808≤x∧x≤9223372036854775807
section
variable {H:Type} {enc:TypeId×Value→H} {W:World} {lo:Nat}
abbrev Tro (enc:TypeId×Value→H)(W:World)(fuel:Nat)(t:TypeId)(cs:List Value)(x:DataW H×List MemPlace):Prop:=DataW.trod enc Tryz.prog W 0 (fun _=>true) true fuel t cs=some x
abbrev RpN (lo:Nat)(W:World)(d:D)(v:Value):Prop:=Rp (sz tyT) lo W (fun _=>none) .sh d v
abbrev RpSN (lo:Nat)(W:World)(ds:List D)(cs:List Value):Prop:=RpS (sz tyT) lo W (fun _=>none) ds cs
theorem zJW {w:World}{a:Addr}{n:Nat}{cs:List Value}(h:w.cells? 0 a n=some cs)(hn:n≠0):a.spot=none∧a.block<w.heap.size:=by
 obtain⟨_,h1,h2⟩:=World.cells?_some h
 have h3:w.cell? (a.add 0)=some cs[0]:=(h2 0 (by omega)).trans (List.getElem?_eq_getElem (by omega))
 have ha:a.add 0=a:=rfl
 rw [ha]at h3
 have hlt:=World.block_lt_of_cell? w a h3
 refine⟨?_,hlt⟩
 rcases hsp:a.spot with _|s
 ·rfl
 ·exfalso
  unfold World.cell? at h3
  rw [hsp]at h3
  split at h3
  ·simp at h3
  ·cases h3
theorem zNv {t e:TypeId}{k:Nat}(ht:Tryz.prog.underlying t=some (.slice e))(hk:0<k)(hS:sz tyT e=k)(hc:Tryz.prog.cellsOf e=k){Q:List D→Prop}
  (hQ: ∀(n:Nat) (cs:List Value) (y:DataW H×List MemPlace),Tro enc W n e cs y→∃ds,RpSN lo W ds cs∧Q ds) {fuel:Nat} {cs:List Value} {x:DataW H×List MemPlace} (h:Tro enc W fuel t cs x):
  ∃(v:Value) (dss:List (List D)),cs= [v]∧RpN lo W (.lst e dss.flatten) v∧dss.length≤9223372036854775807∧∀ds∈dss,Q ds∧ds.length=k:=by
 rcases open_slice ht h with⟨rfl,-⟩|⟨a,len,cap,m,n,Dt,Pl,rfl,-,hl,hm,hmm,-,hx⟩
 ·exact⟨_,[],rfl,(yC _ _).2 ⟨[],⟨rfl,0,by simp,none,0,rfl,Nat.le_refl _,by unfold maxLen;omega,fun h=>absurd rfl h⟩,fun i x u hx=>by simp at hx⟩,by simp,fun ds h=>by simp at h⟩
 simp only [if_true]at hmm
 subst hmm
 rw [hc]at hx
 obtain⟨f,hf⟩:=choose_lt (α:=List Value×List D) (p:=fun i y=>W.cells? 0 (a.add (i*k)) k=some y.1∧RpSN lo W y.2 y.1∧Q y.2) (fun i hi=>by
  obtain⟨cs',h1,h2⟩:=hx i hi
  obtain⟨ds,h3,h4⟩:=hQ n cs' _ h2
  exact⟨(cs',ds),h1,h3,h4⟩)
 have hlen: ∀i,i<m→(f i).1.length=k∧(f i).2.length=k:=fun i hi=>by
  obtain⟨h1,h2,h3⟩:=hf i hi
  obtain⟨_,h4,_⟩:=World.cells?_some h1
  have :=(ZC h2).1
  exact⟨h4,by omega⟩
 let dss:=(List.range len).map fun i=>(f i).2
 let vss:=(List.range len).map fun i=>(f i).1
 have hd: ∀l∈dss,l.length=k:=fun l hl'=>by
  obtain⟨i,hi,rfl⟩:=List.mem_map.1 hl'
  have :=List.mem_range.1 hi
  exact(hlen i (by omega)).2
 have hv: ∀l∈vss,l.length=k:=fun l hl'=>by
  obtain⟨i,hi,rfl⟩:=List.mem_map.1 hl'
  have :=List.mem_range.1 hi
  exact(hlen i (by omega)).1
 have hdl:dss.length=len:=by simp [dss]
 have hvl:vss.length=len:=by simp [vss]
 refine⟨_,dss,rfl,(yC _ _).2 ⟨vss.flatten,⟨by rw [XL hd,XL hv,hdl,hvl],len,by rw [XL hd,hdl,hS],some a,m,rfl,hl,hm,fun h0=> ?_⟩,fun i d u hdi hui=> ?_⟩,by rw [hdl];unfold maxLen at hm;omega,fun ds hds=> ?_⟩
 ·have h1:=(hf 0 (by omega)).1
  rw [Nat.zero_mul]at h1
  have ha:a.add 0=a:=rfl
  rw [ha]at h1
  obtain⟨hs,hlt⟩:=zJW h1 (by omega)
  obtain⟨b,o,s⟩:=a
  simp only at hs
  subst hs
  refine⟨b,o,rfl,hlt,rfl,fun i u hu=> ?_⟩
  rw [Xw hk hv]at hu
  have hik:i / k<len:=by
   rcases Nat.lt_or_ge (i / k) len with h|h
   ·exact h
   ·rw [List.getElem?_eq_none (by rw [hvl];exact h)]at hu;cases hu
  rw [List.getElem?_map,List.getElem?_range hik]at hu
  simp only [Option.map_some,Option.bind_some]at hu
  obtain⟨_,_,h5⟩:=World.cells?_some (hf (i / k) (by omega)).1
  have :=(h5 (i%k) (Nat.mod_lt _ hk)).trans hu
  rw [add_plain,add_plain]at this
  rw [show o+i / k*k+i%k=o+i from by have :=Nat.div_add_mod' i k;omega]at this
  exact this
 ·rw [Xw hk hd]at hdi
  rw [Xw hk hv]at hui
  have hik:i / k<len:=by
   rcases Nat.lt_or_ge (i / k) len with h|h
   ·exact h
   ·rw [List.getElem?_eq_none (by rw [hvl];exact h)]at hui;cases hui
  rw [List.getElem?_map,List.getElem?_range hik]at hui hdi
  simp only [Option.map_some,Option.bind_some]at hui hdi
  exact zMl (hf (i / k) (by omega)).2.1 hdi hui
 ·refine⟨?_,hd ds hds⟩
  obtain⟨i,hi,rfl⟩:=List.mem_map.1 hds
  exact(hf i (by have :=List.mem_range.1 hi;omega)).2.2
end
theorem zJp {P:Program}{f:FuncId}{args:List VT}{W:World}{cargs:List Value}(h:Fn P tyT f args [.c (.bool true)])(ha:wg (sz tyT) W.heap.size W (fun _=>none) args cargs):Calls P f cargs.toArray W (fun e w'=>e= .returned (.bool true)∧Below W.heap.size W w'):=by
 refine(h.2 W cargs ha).mono fun e w' hp=> ?_
 obtain⟨vs,ow',rfl,hb,-,-,hr⟩:=hp
 simp only [wl,Rp]at hr
 obtain⟨v,vs',rfl,rfl,rfl⟩:=hr
 exact⟨rfl,hb⟩
def dU (xs:List Int):List D:=xs.map (.int .u8)
theorem zIQ (xs:List Int):(dU xs).length=xs.length:=by simp [dU]
theorem zLh (xs:List Int)(i:Nat):Ql (dU xs) i=gi xs i:=by
 unfold Ql dU gi
 rw [List.getElem?_map,List.getD_eq_getElem?_getD]
 cases xs[i]? <;>rfl
theorem zK5 (xs:List Int)(i:Nat):xq (.int .u8) (dU xs) i=(i<xs.length):=by
 unfold xq dU
 rw [List.getElem?_map]
 apply propext
 constructor
 ·rintro⟨n,h⟩
  cases hx:xs[i]? with
  |none=>rw [hx]at h;cases h
  |some y=>exact(List.getElem?_eq_some_iff.1 hx).1
 ·intro h
  rw [List.getElem?_eq_getElem h]
  exact⟨_,rfl⟩
theorem zMR (xs:List Int)(n:Nat):(dU xs).take n=dU (xs.take n):=by simp [dU]
theorem zLV (xs:List Int)(n:Nat):(dU xs).drop n=dU (xs.drop n):=by simp [dU]
theorem zMS :Int.toNat 33=33:=rfl
theorem zL4 :min 33 64=33:=rfl
theorem zLG (n:Int):arC .i64 n=(.int .i64 n,UJ n):=rfl
attribute [push_cast] zMS zL4 zLG zIQ zLh zK5 zMR zLV
def qF (xs:List Int):Prop:=xs.length≤4096∧∀k,k<xs.length→0≤gi xs k∧gi xs k≤255
theorem zMo {a m:Int}(h0:0≤m)(h1:m≤1073741823):0≤Wi .u64 a m∧Wi .u64 a m≤m:=by
 have e:(BitVec.ofInt 64 a&&&BitVec.ofInt 64 m).toNat≤m.toNat:=by
  rw [BitVec.toNat_and]
  refine Nat.le_trans Nat.and_le_right ?_
  rw [BitVec.toNat_ofInt]
  have :((2^64:Nat):Int)=18446744073709551616:=by decide
  rw [this]
  omega
 unfold Wi
 have hb:IntKind.u64.bits=64:=rfl
 have hw: ∀n:Nat,(n:Int)≤1073741823→IntKind.u64.wrap (n:Int)=n:=fun n hn=>by
  unfold IntKind.wrap
  simp only [IntKind.bits,IntKind.signed]
  have :((2:Int)^64)=18446744073709551616:=by decide
  simp [this]
  omega
 show 0≤IntKind.u64.wrap ((BitVec.ofInt 64 a&&&BitVec.ofInt 64 m).toNat:Int)∧IntKind.u64.wrap ((BitVec.ofInt 64 a&&&BitVec.ofInt 64 m).toNat:Int)≤m
 rw [hw _ (by omega)]
 omega
def dH (h:Int):Int:=IntKind.u64.wrap (IntKind.u64.wrap (h*6364136223846793005)+1442695040888963407)
def dX (h:Int):Int:=Wi .u64 (dH h / 2^33) 16777215
theorem zKk (h:Int):0≤dX h∧dX h≤16777215:=zMo (by decide) (by decide)
def dI1 (code:List Int)(i:Int):Int:=if i<code.length then i+1 else i
def dR (code:List Int)(i h n:Int):Int:=(if i<code.length then dX h+gi code i.toNat else dX h).tmod n
theorem zNO {code:List Int}{i:Int}(h:0≤i∧i≤code.length):0≤dI1 code i∧dI1 code i≤code.length:=by unfold dI1;split<;>omega
theorem dR_rg {code:List Int}{i h n:Int}(hc:qF code)(hi:0≤i)(hn:1≤n):0≤dR code i h n∧dR code i h n<n:=by
 have h1:=zKk h
 have h2:0≤(if i<code.length then dX h+gi code i.toNat else dX h):=by
  split
  ·have :=hc.2 i.toNat (by omega);omega
  ·omega
 unfold dR
 exact⟨Int.tmod_nonneg _ h2,Int.tmod_lt_of_pos _ (by omega)⟩
@[reducible] def dDc (code : List Int) (i h : Int) : List D := [.lst 5 (dU code), .int .i64 i, .int .u64 h]
set_option maxRecDepth 20000 in
set_option maxHeartbeats 4000000 in
theorem zHl (code:List Int)(hby:qF code)(i h:Int)(hi:0≤i∧i≤code.length)(n:Int)(hn:1≤n):FnB Tryz.prog tyT 21 (dDc code i h) [.c (.int .i64 n)] (dDc code (dI1 code i) (dH h)) [.c (.int .i64 (dR code i h n))]:=by
 have hX:0≤Wi .u64 (IntKind.u64.wrap (IntKind.u64.wrap (h*6364136223846793005)+1442695040888963407) / 2^33) 16777215∧Wi .u64 (IntKind.u64.wrap (IntKind.u64.wrap (h*6364136223846793005)+1442695040888963407) / 2^33) 16777215≤16777215:=zKk h
 have hcl:=hby.1
 unfold dDc
 refine Vz (fn:=Tryz.f21) (rs:= [.tmp 4]) zQ zN Tryz.func21 (by kernel_rfl) rfl rfl (by rw [Tryz.ntmps21];exact Nat.le_of_ble_eq_true rfl) rfl (by simp only [szA,List.mem_cons,List.not_mem_nil,or_false,forall_eq_or_imp,forall_eq,false_implies,implies_true,VT.cells,szL];try decide) (Nat.le_of_ble_eq_true rfl) (by simp only [szL];decide) (Nat.le_of_ble_eq_true rfl) rfl ?_
 rw [Tryz.ntmps21]
 simp only [push_cast,↓zK,↓zJ,↓reduceIte,zA,zB,zC,zD,zE,zF,zG,zH,zI,reduceCtorEq]
 refine θA ?_
 refine θA ?_
 refine θL fun K hK=> ?_
 all_goals refine zj 6 fun K9 hK9=> ?_
 all_goals simp only [push_cast,↓zK,↓zJ,↓reduceIte,zA,zB,zC,zD,zE,zF,zG,zH,zI,reduceCtorEq]
 all_goals repeat'(first|(apply zO<;>(intro hg;(try simp only [push_cast]at hg)))|apply And.intro|(intro hg;(try simp only [push_cast]at hg)))
 all_goals first|exact gA|trivial|skip
 all_goals first|(refine hK9 _ ?_;clear hK9 K9)|(simp only [push_cast];done)
 all_goals simp only [push_cast,↓zK,↓zJ,↓reduceIte,zA,zB,zC,zD,zE,zF,zG,zH,zI,reduceCtorEq]
 all_goals repeat'(first|(apply zO<;>(intro hg;(try simp only [push_cast]at hg)))|apply And.intro|(intro hg;(try simp only [push_cast]at hg)))
 all_goals first|exact gA|trivial|skip
 all_goals first|(refine hK _ ?_;clear hK K)|(simp only [push_cast];done)
 refine zL fun K1 hK1=> ?_
 refine zL fun K hK=> ?_
 refine vV false zQ zN xR ?_ rfl ?_
 ·kernel_rfl
 intro C hC
 simp only [push_cast,↓zK,↓zJ,↓reduceIte,zA,zB,zC,zD,zE,zF,zG,zH,zI,reduceCtorEq]
 repeat' apply And.intro
 all_goals first|omega|with_reducible assumption|(refine hC _ ?_;kernel_rfl)|(simp only [List.length_set,List.length_append,List.length_replicate,List.length_cons,List.length_nil];omega)|skip
 all_goals first|(refine hK _ ?_;clear hC C hK K)|(simp only [push_cast];done)
 refine θU (fun hc=> ?_) fun hc=> ?_
 ·
  have hcb:=hby.2 i.toNat (by omega)
  refine zL fun K hK=> ?_
  refine vV false zQ zN xR ?_ rfl ?_
  ·kernel_rfl
  intro C hC
  simp only [push_cast,↓zK,↓zJ,↓reduceIte,zA,zB,zC,zD,zE,zF,zG,zH,zI,reduceCtorEq]
  repeat' apply And.intro
  all_goals first|omega|with_reducible assumption|(refine hC _ ?_;kernel_rfl)|(simp only [List.length_set,List.length_append,List.length_replicate,List.length_cons,List.length_nil];omega)|skip
  all_goals first|(refine hK _ ?_;clear hC C hK K)|(simp only [push_cast];done)
  refine θB ?_
  (try simp only [zR,zS,reduceIte,zF]);refine hK1 _ ?_
  refine θA ?_
  refine zY ?_
  (try simp only [zR,zS])
  refine⟨Or.inl rfl,?_⟩
  simp only [YM,zd,qY,zt,yH,push_cast,↓zK,↓zJ,↓reduceIte,zA,zB,zC,zD,zE,zF,zG,zH,zI,reduceCtorEq]
  all_goals first|exact⟨by unfold dR;rw [if_pos hc];rfl,(by unfold dI1;rw [if_pos hc]),rfl⟩|exact⟨by unfold dR;rw [if_neg hc];rfl,(by unfold dI1;rw [if_neg hc]),rfl⟩
 ·
  refine zW ?_
  (try simp only [zR,zS,reduceIte,zF]);refine hK1 _ ?_
  refine θA ?_
  refine zY ?_
  (try simp only [zR,zS])
  refine⟨Or.inl rfl,?_⟩
  simp only [YM,zd,qY,zt,yH,push_cast,↓zK,↓zJ,↓reduceIte,zA,zB,zC,zD,zE,zF,zG,zH,zI,reduceCtorEq]
  all_goals first|exact⟨by unfold dR;rw [if_pos hc];rfl,(by unfold dI1;rw [if_pos hc]),rfl⟩|exact⟨by unfold dR;rw [if_neg hc];rfl,(by unfold dI1;rw [if_neg hc]),rfl⟩
end Go.Proofs.YthepmdkpbjfdcaaGreat
