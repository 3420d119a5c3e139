/- Plain lemmas that all walks of this seat use: endings, old memory below a block number, bounds tests. No program. -/
import Derived.WalkKit
import Derived.ProofKit
import Derived.OpenShut
import Derived.Lib.Hide
import Derived.Lib.SmallJoins
import Derived.Deep.QuietTactic
import Derived.BigQuiet
import Derived.RegionTactic
import Derived.ChangeAlike
import Derived.StillTailTactics
import Derived.Test.YtggpbepdeilpgaaB4zmt
namespace Go.Proofs.Ytggpbepdeilpgaa
open Nat renaming reduceMod → zA, reduceMul → zB, reduceDiv → zC, reduceAdd → zD, reduceSub → zE, reduceEqDiff → zF, reduceBEq → zG, reduceLT → zH, reduceLeDiff → zI
open Go.ChangeShapes Go.WideShapes Go.ChangeAt Go.RowKit
def inB (x lo hi:Int):Bool:=decide (lo≤x∧x≤hi)
section
variable {H:Type} {enc:TypeId×Value→H} {P:Program}
theorem UL {f:Func}{s:ChangeSpec}{apart fresh handsOn again:Bool}{W W':World}{args:Array Value}{v:Value}{ds gs:List (DataW H)}{before pa pv:List MemPlace}
  (hW:DataW.Whole enc P f.params.toList s.vars apart W args.toList ds gs before)
  (hres: ∀(b:Nat) (sp:Nat→Bool) (hd:Bool),DataW.TrodAll enc P W' b sp hd f.resultTypes.toList (v.resultList f.resultTypes.size) (s.fn H (ds++gs)).results [])
  (hargs: ∀sp:Nat→Bool,(∀p∈before,sp p.block=true)→DataW.TrodAll enc P W' 0 sp true f.params.toList args.toList (s.fn H (ds++gs)).args pa)
  (hvars: ∀sp:Nat→Bool,(∀p∈before,sp p.block=true)→DataW.TrodVars enc P W' sp s.vars (s.fn H (ds++gs)).vars pv)
  (hps:before=pa++pv) (hb:Below W.heap.size W W')
  (hok: ∀(j:Nat) (t:TypeId) (r:Value),f.resultTypes[j]? =some t→(v.resultList f.resultTypes.size)[j]? =some r→Value.okWide P W' .any 0 t r):
  s.post enc P f apart fresh handsOn again W args v W':=by
 have hlt: ∀p∈before,p.block<W.heap.size:=fun p hp=>hW.lt p hp
 have hold: ∀p∈before,(fun b=>decide (b<W.heap.size)) p.block=true:=fun p hp=>by simpa using hlt p hp
 refine⟨ds,gs,before,[],pa,pv,hW,hres _ _ _,hargs _ hold,hvars _ hold,World.keptBut_mono (fun p hp=>⟨hp,?_⟩) (hb.frame (· ∈before)),fun _=> ?_⟩
 ·rw [hps,List.mem_append]at hp
  exact Or.inr hp
 ·obtain⟨_,_,_,_,_,hz,hn⟩:=hW
  refine⟨hok,_,_,([]++pa)++pv,⟨[]++pa,pv,trodAll_append (hargs _ (fun _ _=>rfl)) (hres _ _ _),hvars _ (fun _ _=>rfl),rfl,?_,?_⟩,?_⟩
  ·intro b off hp
   have hin:MemPlace.cell b off∈before:=by rw [hps];simpa using hp
   rw [hb.frozen (hlt _ hin)]
   exact hz b off hin
  ·intro ha
   have :=hn ha
   rw [hps]at this
   simpa using this
  ·intro p hp _
   rw [hps]
   simpa using hp
theorem zBa (hl:laidOutB P=true){W W':World}{sp:Nat→Bool}(hb:Below W.heap.size W W'): ∀(ts:List TypeId) (vs:List Value) (ds:List (DataW H)) (ps:List MemPlace),
  (∀t∈ts,P.readableRec t=true∧t<P.types.size)→DataW.TrodAll enc P W 0 (fun _=>true) true ts vs ds ps→(∀x∈ps,x.block<W.heap.size)→(∀x∈ps,sp x.block=true)→DataW.TrodAll enc P W' 0 sp true ts vs ds ps
 | [],vs,ds,ps,_,h,_,_=>by
  obtain⟨rfl,rfl,rfl⟩:=trodAll_nil h
  exact trodAll_mk0
 |t::ts,vs,ds,ps,ht,h,hlt,hs=>by
  obtain⟨v,vs',d,ds',p,q,rfl,rfl,rfl,h0,h1⟩:=trodAll_cons h
  have ht0:=ht t (by simp)
  exact trodAll_cons_mk (WideElems.Trod_stays hl ht0.1 ht0.2 h0 (fun x hx=>hb.same (hlt x (by simp [hx]))) (fun x hx=>hs x (by simp [hx])))
   (zBa hl hb ts vs' ds' q (fun u hu=>ht u (by simp [hu])) h1 (fun x hx=>hlt x (by simp [hx])) (fun x hx=>hs x (by simp [hx])))
theorem zG3 {f:Func}{s:ChangeSpec}{fresh handsOn again:Bool}{tb:TypeId}{W W':World}{args:Array Value}{ds gs:List (DataW H)}{before:List MemPlace}
  (hl:laidOutB P=true) (hts: ∀t∈f.params.toList,P.readableRec t=true∧t<P.types.size) (hr:f.resultTypes= #[tb]) (htb:P.underlying tb=some .bool) (hv:s.vars= [])
  (hW:DataW.Whole enc P f.params.toList s.vars false W args.toList ds gs before) (hs1:(s.fn H (ds++gs)).results= [.lit (.bool true)]) (hs2:(s.fn H (ds++gs)).args=ds)
  (hs3:(s.fn H (ds++gs)).vars= []) (hb:Below W.heap.size W W') (hk: ∀W':World,Value.okWide P W' .any 0 tb (.bool true)):s.post enc P f false fresh handsOn again W args (.bool true) W':=by
 have hW0:=hW
 obtain⟨p,q,hA,hV,rfl,hfz,hnd⟩:=hW
 rw [hv]at hV
 obtain⟨rfl,rfl⟩:=trodVars_none hV
 have hlt: ∀x∈p,x.block<W.heap.size:=fun x hx=>hW0.lt x (by simp [hx])
 refine UL (pa:=p) (pv:= []) hW0 (fun b sp hd=> ?_) (fun sp hs=> ?_) (fun sp _=> ?_) rfl hb ?_
 ·rw [hs1,hr]
  exact trodAll_mk1 (shut_bool htb true)
 ·rw [hs2]
  exact zBa hl hb _ _ _ _ hts hA hlt (fun x hx=>hs x (by simp [hx]))
 ·rw [hs3,hv]
  rfl
 ·intro j t r hj hrj
  rw [hr]at hj hrj
  have :j=0:=by
   rcases Nat.eq_zero_or_pos j with h|h
   ·exact h
   ·rw [Array.getElem?_eq_none (by simp;omega)]at hj;cases hj
  subst this
  simp [Value.resultList]at hj hrj
  subst hj;subst hrj
  exact hk _
end
open Go.RowKit
set_option linter.unusedVariables false
set_option linter.unusedSimpArgs false
def wd (n:Nat)(p:Nat→Bool):Bool:=(List.range n).all p
theorem xq {n:Nat}{p:Nat→Bool}(h: ∀k,k<n→p k=true):wd n p=true:=by
 unfold wd;rw [List.all_eq_true];intro k hk;exact h k (List.mem_range.1 hk)
theorem qp {n k:Nat}{p:Nat→Bool}(hk:k<n)(h:p k=false):wd n p=false:=by
 unfold wd;rw [List.all_eq_false];exact⟨k,List.mem_range.2 hk,by simp [h]⟩
theorem xt {n k:Nat}{p:Nat→Bool}(h:wd n p=true)(hk:k<n):p k=true:=by
 unfold wd at h;rw [List.all_eq_true]at h;exact h k (List.mem_range.2 hk)
def qJ (xs:List Int)(n:Int)(k:Nat):Bool:=decide (0≤gi xs k∧gi xs k<n∧(k=0∨gi xs (k - 1)<gi xs k))
def yX (xs:List Int)(n:Int):Bool:=wd xs.length (qJ xs n)
theorem zK8 {xs:List Int}{n:Int}(h:yX xs n=true): ∀k,k<xs.length→(k:Int)≤gi xs k:=by
 intro k
 induction k with
 |zero=>
  intro hk
  have :=xt h hk
  unfold qJ at this
  have :=of_decide_eq_true this
  omega
 |succ k ih=>
  intro hk
  have h1:=ih (by omega)
  have :=xt h hk
  unfold qJ at this
  have :=of_decide_eq_true this
  simp at this
  omega
theorem zJZ {xs:List Int}{n:Int}(h:yX xs n=true)(h0:0≤n):(xs.length:Int)≤n:=by
 rcases Nat.eq_zero_or_pos xs.length with h1|h1
 ·omega
 ·have h2:=zK8 h (xs.length - 1) (by omega)
  have h3:=xt h (k:=xs.length - 1) (by omega)
  unfold qJ at h3
  have h3:=of_decide_eq_true h3
  omega
def Xj (a:Ar)(v:Nat):Bool:=decide (0≤gi a.owner v∧gi a.owner v≤1∧1≤(gl a.next v).length∧(gl a.next v).length≤16)
def qm (a:Ar)(v:Nat):Bool:=Xj a v&&yX (gl a.next v) a.owner.length
def zu (a:Ar):Bool:=decide (1≤a.owner.length∧a.owner.length≤256∧a.next.length=a.owner.length)&&wd a.owner.length (qm a)
theorem Vn {a:Ar}(h: ¬(1≤a.owner.length∧a.owner.length≤256∧a.next.length=a.owner.length)):zu a=false:=by
 unfold zu;rw [decide_eq_false h];rfl
theorem Vo {a:Ar}{v:Nat}(hv:v<a.owner.length)(h:qm a v=false):zu a=false:=by
 unfold zu;rw [qp hv h];simp
theorem YC {a:Ar}(h:1≤a.owner.length∧a.owner.length≤256∧a.next.length=a.owner.length)(h2: ∀v,v<a.owner.length→qm a v=true):zu a=true:=by
 unfold zu;rw [decide_eq_true h,xq h2];rfl
theorem zl {a:Ar}(h:zu a=true):1≤a.owner.length∧a.owner.length≤256∧a.next.length=a.owner.length:=by
 unfold zu at h
 rw [Bool.and_eq_true]at h
 exact of_decide_eq_true h.1
theorem xO {a:Ar}(h:zu a=true){v:Nat}(hv:v<a.owner.length):0≤gi a.owner v∧gi a.owner v≤1∧1≤(gl a.next v).length∧(gl a.next v).length≤16∧yX (gl a.next v) a.owner.length=true:=by
 unfold zu at h
 rw [Bool.and_eq_true]at h
 have :=xt h.2 hv
 unfold qm Xj at this
 rw [Bool.and_eq_true]at this
 have h1:=of_decide_eq_true this.1
 exact⟨h1.1,h1.2.1,h1.2.2.1,h1.2.2.2,this.2⟩
def qM (xs:List Int)(x:Int):Nat:=xs.findIdx (fun y=>y==x)
def zn (xs:List Int)(x:Int):Bool:=decide (qM xs x<xs.length)
def ixB (xs:List Int)(x:Int):Int:=if qM xs x<xs.length then(qM xs x:Int)else -1
theorem Qb {xs:List Int}{x:Int}{k:Nat}(hk:k<xs.length)(h: ∀j,j<k→¬gi xs j=x)(he:gi xs k=x):qM xs x=k:=by
 unfold qM
 rw [List.findIdx_eq hk]
 have hg: ∀j (hj:j<xs.length),xs[j]=gi xs j:=fun j hj=>by unfold gi;rw [List.getD_eq_getElem?_getD,List.getElem?_eq_getElem hj];rfl
 refine⟨by rw [hg,he];simp,fun j hj=> ?_⟩
 rw [hg]
 simpa using h j hj
theorem XZ {xs:List Int}{x:Int}(h: ∀j,j<xs.length→¬gi xs j=x):qM xs x=xs.length:=by
 unfold qM
 rw [List.findIdx_eq_length]
 intro y hy
 obtain⟨j,hj,rfl⟩:=List.mem_iff_getElem.1 hy
 have :=h j hj
 unfold gi at this
 rw [List.getD_eq_getElem?_getD,List.getElem?_eq_getElem hj]at this
 simpa using this
theorem zCi (xs:List Int)(x:Int):qM xs x≤xs.length:=List.findIdx_le_length
theorem zE7 {xs:List Int}{x:Int}(h:qM xs x<xs.length):gi xs (qM xs x)=x:=by
 unfold qM at h⊢
 have :=List.findIdx_getElem (w:=h)
 unfold gi
 rw [List.getD_eq_getElem?_getD,List.getElem?_eq_getElem h]
 simpa using this
theorem zB1 {xs:List Int}{x:Int}{j:Nat}(h:j<qM xs x): ¬gi xs j=x:=by
 have hl:j<xs.length:=Nat.lt_of_lt_of_le h (zCi xs x)
 unfold qM at h
 have :=List.not_of_lt_findIdx h
 unfold gi
 rw [List.getD_eq_getElem?_getD,List.getElem?_eq_getElem hl]
 simpa using this
theorem yg (xs:List Int)(x:Int):zn xs x=true↔x∈xs:=by
 unfold zn
 rw [decide_eq_true_eq]
 unfold qM
 rw [List.findIdx_lt_length]
 constructor
 ·rintro⟨y,hy,he⟩
  have :y=x:=by simpa using he
  exact this ▸ hy
 ·exact fun h=>⟨x,h,by simp⟩
theorem zFU {xs:List Int}{x:Int}{k:Nat}(hk:k<xs.length)(h: ∀j,j<k→¬gi xs j=x)(he:gi xs k=x):ixB xs x=k:=by
 unfold ixB;rw [Qb hk h he,if_pos hk]
theorem zG0 {xs:List Int}{x:Int}(h: ∀j,j<xs.length→¬gi xs j=x):ixB xs x= -1:=by
 unfold ixB;rw [XZ h,if_neg (by omega)]
theorem zJA (xs:List Int)(x:Int):decide (0≤ixB xs x)=zn xs x:=by
 unfold ixB zn
 by_cases h:qM xs x<xs.length
 ·rw [if_pos h];simp [h]
 ·rw [if_neg h];simp [h]
def Wm (n:Nat)(v:Int):Bool:=inB v 0 ((n:Int) - 1)
def xV (l:Ls):List Int:=l.stem++l.loop++ [gi l.loop 0]
def zDs (a:Ar)(u v:Int):Bool:=zn (gl a.next u.toNat) v
def Vl (a:Ar)(way:List Int)(i:Nat):Bool:=decide (i=0)||zDs a (gi way (i - 1)) (gi way i)
def Qe (a:Ar)(way:List Int)(i:Nat):Bool:=Wm a.owner.length (gi way i)&&Vl a way i
def lenB (l:Ls):Bool:=decide (l.stem.length≤256∧1≤l.loop.length∧l.loop.length≤256)
def vN (a:Ar)(l:Ls):Bool:=lenB l&&wd (xV l).length (Qe a (xV l))
theorem XC {xs ys:List Int}{k:Nat}(h:k<xs.length):gi (xs++ys) k=gi xs k:=by
 unfold gi;rw [List.getD_eq_getElem?_getD,List.getElem?_append_left h];rfl
theorem YO {xs:List Int}{y:Int}:gi (xs++ [y]) xs.length=y:=by
 unfold gi;rw [List.getD_eq_getElem?_getD,List.getElem?_append_right (Nat.le_refl _)];simp
theorem zHu (l:Ls):(xV l).length=l.stem.length+l.loop.length+1:=by unfold xV;simp;omega
theorem zFW {a:Ar}{l:Ls}(h:l.stem.length≤256∧1≤l.loop.length∧l.loop.length≤256)(h2: ∀k,k<(xV l).length→Qe a (xV l) k=true):vN a l=true:=by
 unfold vN lenB;rw [decide_eq_true h,xq h2];rfl
theorem zB5 {a:Ar}{l:Ls}(h:vN a l=true):l.stem.length≤256∧1≤l.loop.length∧l.loop.length≤256:=by
 unfold vN at h;rw [Bool.and_eq_true]at h;exact of_decide_eq_true h.1
theorem uf {a:Ar}{l:Ls}(h:vN a l=true){k:Nat}(hk:k<(xV l).length):Wm a.owner.length (gi (xV l) k)=true∧(k≠0→zDs a (gi (xV l) (k - 1)) (gi (xV l) k)=true):=by
 unfold vN at h
 rw [Bool.and_eq_true]at h
 have :=xt h.2 hk
 unfold Qe Vl at this
 rw [Bool.and_eq_true,Bool.or_eq_true]at this
 refine⟨this.1,fun hne=> ?_⟩
 rcases this.2 with h1|h1
 ·exact absurd (of_decide_eq_true h1) hne
 ·exact h1
structure WOk (a:Wt)(bd:Int):Prop where
 n1:1≤a.a.owner.length
 n24:a.a.owner.length≤24
 next:a.a.next.length=a.a.owner.length
 cost:a.cost.length=a.a.owner.length
 own: ∀v,v<a.a.owner.length→0≤gi a.a.owner v∧gi a.a.owner v≤1
 deg: ∀v,v<a.a.owner.length→1≤(gl a.a.next v).length∧(gl a.a.next v).length≤16
 set_: ∀v,v<a.a.owner.length→yX (gl a.a.next v) a.a.owner.length=true
 row: ∀v,v<a.a.owner.length→(gl a.cost v).length=(gl a.a.next v).length
 bd: ∀v k,v<a.a.owner.length→k<(gl a.cost v).length→ -bd≤gi (gl a.cost v) k∧gi (gl a.cost v) k≤bd
def zHi (a:Wt)(v:Nat)(u:Int):Int:=gi (gl a.cost v) (qM (gl a.a.next v) u)
theorem wu {xs:List (List Int)}{B:Nat}(h:wb B xs)(v:Nat):(gl xs v).length≤B:=by
 rcases Nat.lt_or_ge v xs.length with hv|hv
 ·exact h.2 _ (List.mem_of_getElem? (UV hv))
 ·unfold gl;rw [List.getD_eq_getElem?_getD,List.getElem?_eq_none hv];simp
set_option maxHeartbeats 1000000 in
theorem yk (x lo hi:Int):Fn Try.prog tyT 63 [.c (.int .i64 x), .c (.int .i64 lo), .c (.int .i64 hi)] [.c (.bool (decide (lo≤x∧x≤hi)))]:=by
 refine yK (fn:=Try.f63) (ts:= [6]) Try.func63 (by kernel_rfl) rfl rfl (by rw [Try.ntmps63];exact Nat.le_of_ble_eq_true rfl) rfl (by simp only [szA,List.mem_cons,List.not_mem_nil,or_false,forall_eq_or_imp,forall_eq,VT.cells,szL];try decide) ?_
 rw [Try.ntmps63]
 push_cast [↓zK,↓zJ]
 refine zL fun K hK=> ?_
 refine zM zQ zO [] rfl ?_
 push_cast [↓zK,↓zJ]
 repeat' apply And.intro
 all_goals try exact gB
 all_goals first|(refine hK _ ?_;clear hK K)|(simp only [push_cast];done)
 refine zL fun K hK=> ?_
 refine za false zQ zO ?_ rfl ?_
 ·kernel_rfl
 push_cast [↓zK,↓zJ]
 repeat'(first|(apply zP<;>(intro hg;(try simp only [push_cast]at hg)))|apply And.intro|(intro hg;(try simp only [push_cast]at hg)))
 all_goals try exact gA
 all_goals(refine hK _ ?_;clear hK K)
 all_goals refine zc ?_
 all_goals(try simp only [zR,zS])
 all_goals refine⟨Or.inl rfl,?_⟩
 all_goals push_cast [zi,↓zK,↓zJ]
 ·rw [decide_eq_decide];omega
 ·symm;rw [decide_eq_false_iff_not];omega
set_option maxHeartbeats 2000000 in
theorem yo (xs:List Int)(n:Int)(hl:xs.length≤1048576):Fn Try.prog tyT 67 [.c (DI xs), .c (.int .i64 n)] [.c (.bool (yX xs n))]:=by
 refine yK (fn:=Try.f67) (ts:= [4]) Try.func67 (by kernel_rfl) rfl rfl (by rw [Try.ntmps67];exact Nat.le_of_ble_eq_true rfl) rfl (by simp only [szA,List.mem_cons,List.not_mem_nil,or_false,forall_eq_or_imp,forall_eq,VT.cells,szL];try decide) ?_
 rw [Try.ntmps67]
 push_cast [↓zK,↓zJ]
 refine zL fun K hK=> ?_
 refine zM zQ zO [] rfl ?_
 push_cast [↓zK,↓zJ]
 repeat' apply And.intro
 all_goals try exact gB
 all_goals first|(refine hK _ ?_;clear hK K)|(simp only [push_cast];done)
 refine zL fun K1 hK1=> ?_
 refine zL fun K hK=> ?_
 refine zM zQ zO [] rfl ?_
 push_cast [↓zK,↓zJ]
 repeat' apply And.intro
 all_goals try exact gB
 all_goals first|(refine hK _ ?_;clear hK K)|(simp only [push_cast];done)
 refine zT ?_
 refine zh [4,5,6,9,10,11,12,13,14,15,16,17,18,19,20,21,22,23,24,25,26,27,28,29,30,31,32,33,34] [] (fun k:Nat=> [(9, .int .i64 k)]) (fun _=> []) (fun k=> []) (fun k=>k≤xs.length∧∀j,j<k→qJ xs n j=true) (fun k=>xs.length - k) 0 ?_ ⟨by omega,fun j hj=>by omega⟩ ?_
 ·refine zX rfl ?_ ?_ ?_<;>push_cast [zg,zf,↓zK,↓zJ]
 ·rintro k ⟨hk,hall⟩ K0 hK0
  push_cast [↓zK,↓zJ]
  refine zL fun K hK=> ?_
  refine zM zQ zO [] rfl ?_
  push_cast [↓zK,↓zJ]
  repeat' apply And.intro
  all_goals try exact gB
  all_goals first|(refine hK _ ?_;clear hK K)|(simp only [push_cast];done)
  refine zL fun K2 hK2=> ?_
  refine zU rfl (fun hc=> ?_) (fun hc=> ?_)<;>(try simp only [push_cast]at hc)
  ·refine zV ?_
   (try simp only [zR,zS,reduceIte,zF]);refine hK2 _ ?_
   refine zL fun K3 hK3=> ?_
   refine zT ?_
   refine zL fun K hK=> ?_
   refine zM zQ zO [] rfl ?_
   push_cast [↓zK,↓zJ]
   repeat' apply And.intro
   all_goals try exact gB
   all_goals first|(refine hK _ ?_;clear hK K)|(simp only [push_cast];done)
   refine zL fun K hK=> ?_
   refine za false zQ zO ?_ rfl ?_
   ·kernel_rfl
   push_cast [↓zK,↓zJ]
   repeat'(first|(apply zP<;>(intro hg;(try simp only [push_cast]at hg)))|apply And.intro|(intro hg;(try simp only [push_cast]at hg)))
   all_goals try exact gA
   all_goals(refine hK _ ?_;clear hK K)
   all_goals refine zU rfl (fun hc=> ?_) (fun hc=> ?_)
   all_goals(first|(cases hc;done)|skip)
   all_goals(try simp only [push_cast]at hc)
   all_goals first
    |(
     refine zV ?_
     (try simp only [zR,zS,reduceIte,zF]);refine hK3 _ ?_
     refine zM zQ zO [] rfl ?_
     push_cast [↓zK,↓zJ]
     repeat' apply And.intro
     all_goals try exact gB
     refine hK0 _ ⟨k+1,⟨by omega,fun j hj=> ?_⟩,by omega,?_⟩
     ·by_cases hjk:j=k
      ·subst hjk;unfold qJ;rw [decide_eq_true_eq];omega
      ·exact hall j (by omega)
     ·refine zX rfl ?_ ?_ ?_<;>push_cast [zg,zf,↓zK,↓zJ])
    |(
     skip
     refine zL fun K hK=> ?_
     refine zM zQ zO [] rfl ?_
     push_cast [↓zK,↓zJ]
     repeat' apply And.intro
     all_goals try exact gB
     all_goals first|(refine hK _ ?_;clear hK K)|(simp only [push_cast];done)
     refine zc ?_
     (try simp only [zR,zS])
     refine⟨Or.inl rfl,?_⟩
     push_cast [zi,↓zK,↓zJ]
     symm
     refine qp (k:=k) (by omega) ?_
     unfold qJ;rw [decide_eq_false_iff_not];omega)
  ·refine zm ?_
   (try simp only [zR,zS,reduceIte,zF]);refine hK1 _ ?_
   refine zL fun K hK=> ?_
   refine zM zQ zO [] rfl ?_
   push_cast [↓zK,↓zJ]
   repeat' apply And.intro
   all_goals try exact gB
   all_goals first|(refine hK _ ?_;clear hK K)|(simp only [push_cast];done)
   refine zc ?_
   (try simp only [zR,zS])
   refine⟨Or.inl rfl,?_⟩
   push_cast [zi,↓zK,↓zJ]
   symm
   exact xq fun j hj=>hall j (by omega)
set_option maxHeartbeats 2000000 in
theorem zD1 (xs:List Int)(n:Int)(hl:xs.length≤1048576)(h0: -9223372036854775807≤n)(h1:n≤9223372036854775807):Fn Try.prog tyT 88 [.c (DI xs), .c (.int .i64 n)] [.c (.bool (yX xs n))]:=by
 refine yK (fn:=Try.f88) (ts:= [4]) Try.func88 (by kernel_rfl) rfl rfl (by rw [Try.ntmps88];exact Nat.le_of_ble_eq_true rfl) rfl (by simp only [szA,List.mem_cons,List.not_mem_nil,or_false,forall_eq_or_imp,forall_eq,VT.cells,szL];try decide) ?_
 rw [Try.ntmps88]
 push_cast [↓zK,↓zJ]
 refine zL fun K hK=> ?_
 refine zM zQ zO [] rfl ?_
 push_cast [↓zK,↓zJ]
 repeat' apply And.intro
 all_goals try exact gB
 all_goals first|(refine hK _ ?_;clear hK K)|(simp only [push_cast];done)
 refine zL fun K1 hK1=> ?_
 refine zL fun K hK=> ?_
 refine zM zQ zO [] rfl ?_
 push_cast [↓zK,↓zJ]
 repeat' apply And.intro
 all_goals try exact gB
 all_goals first|(refine hK _ ?_;clear hK K)|(simp only [push_cast];done)
 refine zT ?_
 refine zh [4,5,6,7,8,9,10,11,12,13,14,15,16,17,18,19,20,21,22,23,24,25,26,27,28,29,30,31,32,33,34,35] [] (fun k:Nat=> [(5, .int .i64 k)]) (fun _=> []) (fun k=> []) (fun k=>k≤xs.length∧∀j,j<k→qJ xs n j=true) (fun k=>xs.length - k) 0 ?_ ⟨by omega,fun j hj=>by omega⟩ ?_
 ·refine zX rfl ?_ ?_ ?_<;>push_cast [zg,zf,↓zK,↓zJ]
 ·rintro k ⟨hk,hall⟩ K0 hK0
  push_cast [↓zK,↓zJ]
  refine zL fun K2 hK2=> ?_
  refine zL fun K hK=> ?_
  refine zM zQ zO [] rfl ?_
  push_cast [↓zK,↓zJ]
  repeat' apply And.intro
  all_goals try exact gB
  all_goals first|(refine hK _ ?_;clear hK K)|(simp only [push_cast];done)
  refine zU rfl (fun hc=> ?_) (fun hc=> ?_)<;>(try simp only [push_cast]at hc)
  ·refine zV ?_
   (try simp only [zR,zS,reduceIte,zF]);refine hK2 _ ?_
   refine zL fun K3 hK3=> ?_
   refine zT ?_
   refine zL fun K hK=> ?_
   refine vL false zQ zO xW ?_ rfl ?_
   ·kernel_rfl
   intro C hC
   push_cast [↓zK,↓zJ]
   repeat'(first|(apply zP<;>(intro hg;(try simp only [push_cast]at hg)))|(refine⟨_,yk _ _ _,?_⟩;push_cast [↓zK,↓zJ])|apply And.intro|(intro hg;(try simp only [push_cast]at hg)))
   all_goals first|exact gA|(refine hC _ ?_;kernel_rfl)|skip
   all_goals(refine hK _ ?_;clear hK K)
   all_goals refine zU rfl (fun hc=> ?_) (fun hc=> ?_)
   all_goals(first|(cases hc;done)|skip)
   all_goals(try simp only [push_cast]at hc)
   all_goals first
    |(
     refine zV ?_
     (try simp only [zR,zS,reduceIte,zF]);refine hK3 _ ?_
     refine zM zQ zO [] rfl ?_
     push_cast [↓zK,↓zJ]
     repeat' apply And.intro
     all_goals try exact gB
     refine hK0 _ ⟨k+1,⟨by omega,fun j hj=> ?_⟩,by omega,?_⟩
     ·by_cases hjk:j=k
      ·subst hjk;unfold qJ;rw [decide_eq_true_eq];omega
      ·exact hall j (by omega)
     ·refine zX rfl ?_ ?_ ?_<;>push_cast [zg,zf,↓zK,↓zJ])
    |(
     skip
     refine zL fun K hK=> ?_
     refine zM zQ zO [] rfl ?_
     push_cast [↓zK,↓zJ]
     repeat' apply And.intro
     all_goals try exact gB
     all_goals first|(refine hK _ ?_;clear hK K)|(simp only [push_cast];done)
     refine zc ?_
     (try simp only [zR,zS])
     refine⟨Or.inl rfl,?_⟩
     push_cast [zi,↓zK,↓zJ]
     symm
     refine qp (k:=k) (by omega) ?_
     unfold qJ;rw [decide_eq_false_iff_not];omega)
  ·refine zm ?_
   (try simp only [zR,zS,reduceIte,zF]);refine hK1 _ ?_
   refine zL fun K hK=> ?_
   refine zM zQ zO [] rfl ?_
   push_cast [↓zK,↓zJ]
   repeat' apply And.intro
   all_goals try exact gB
   all_goals first|(refine hK _ ?_;clear hK K)|(simp only [push_cast];done)
   refine zc ?_
   (try simp only [zR,zS])
   refine⟨Or.inl rfl,?_⟩
   push_cast [zi,↓zK,↓zJ]
   symm
   exact xq fun j hj=>hall j (by omega)
set_option maxHeartbeats 1000000 in
theorem xM (xs:List Int)(n:Int)(hl:xs.length≤1048576)(h0:0≤n)(h1:n≤9223372036854775807):Fn Try.prog tyT 79 [.c (DI xs), .c (.int .i64 n)] [.c (.bool (yX xs n))]:=by
 refine yK (fn:=Try.f79) (ts:= [4]) Try.func79 (by kernel_rfl) rfl rfl (by rw [Try.ntmps79];exact Nat.le_of_ble_eq_true rfl) rfl (by simp only [szA,List.mem_cons,List.not_mem_nil,or_false,forall_eq_or_imp,forall_eq,VT.cells,szL];try decide) ?_
 rw [Try.ntmps79]
 push_cast [↓zK,↓zJ]
 refine zL fun K hK=> ?_
 refine zM zQ zO [] rfl ?_
 push_cast [↓zK,↓zJ]
 repeat' apply And.intro
 all_goals try exact gB
 all_goals first|(refine hK _ ?_;clear hK K)|(simp only [push_cast];done)
 refine zL fun K hK=> ?_
 refine za false zQ zO ?_ rfl ?_
 ·kernel_rfl
 push_cast [↓zK,↓zJ]
 repeat'(first|(apply zP<;>(intro hg;(try simp only [push_cast]at hg)))|(refine⟨_,zD1 xs n hl (by omega) (by omega),?_⟩;push_cast [↓zK,↓zJ])|apply And.intro|(intro hg;(try simp only [push_cast]at hg)))
 all_goals try exact gA
 all_goals(refine hK _ ?_;clear hK K)
 all_goals refine zc ?_
 all_goals(try simp only [zR,zS])
 all_goals refine⟨Or.inl rfl,?_⟩
 all_goals push_cast [zi,↓zK,↓zJ]
 symm
 cases hc:yX xs n with
 |false=>rfl
 |true=>exfalso;have :=zJZ hc h0;omega
set_option maxRecDepth 20000 in
set_option maxHeartbeats 4000000 in
theorem Xt (a:Ar)(ha:a.Ln 1048576):Fn Try.prog tyT 41 [.agg (dAr a)] [.c (.bool (zu a))]:=by
 have hr: ∀v,(gl a.next v).length≤1048576:=fun v=>wu ha.next v
 have hno:=ha.owner
 have hnn:=ha.next.1
 unfold LnI at hno
 unfold dAr
 refine yK (fn:=Try.f41) (ts:= [2]) Try.func41 (by kernel_rfl) rfl rfl (by rw [Try.ntmps41];exact Nat.le_of_ble_eq_true rfl) rfl (by simp only [szA,List.mem_cons,List.not_mem_nil,or_false,forall_eq_or_imp,forall_eq,VT.cells,szL];try decide) ?_
 rw [Try.ntmps41]
 push_cast [↓zK,↓zJ]
 refine zL fun K hK=> ?_
 refine zM zQ zO [] rfl ?_
 all_goals push_cast [↓zK,↓zJ]
 all_goals repeat'(first|(apply zP<;>(intro hg;(try simp only [push_cast]at hg)))|(refine⟨_,yo (gl a.next _) _ (hr _),?_⟩;push_cast [↓zK,↓zJ])|apply And.intro|(intro hg;(try simp only [push_cast]at hg)))
 all_goals first|exact gA|(exact zN (by omega))|skip
 all_goals first|(refine hK _ ?_;clear hK K)|(simp only [push_cast];done)
 refine zL fun K hK=> ?_
 refine zM zQ zO [] rfl ?_
 all_goals push_cast [↓zK,↓zJ]
 all_goals repeat'(first|(apply zP<;>(intro hg;(try simp only [push_cast]at hg)))|(refine⟨_,yo (gl a.next _) _ (hr _),?_⟩;push_cast [↓zK,↓zJ])|apply And.intro|(intro hg;(try simp only [push_cast]at hg)))
 all_goals first|exact gA|(exact zN (by omega))|skip
 all_goals first|(refine hK _ ?_;clear hK K)|(simp only [push_cast];done)
 refine zL fun K1 hK1=> ?_
 refine zL fun K hK=> ?_
 refine za false zQ zO ?_ rfl ?_
 ·kernel_rfl
 all_goals push_cast [↓zK,↓zJ]
 all_goals repeat'(first|(apply zP<;>(intro hg;(try simp only [push_cast]at hg)))|(refine⟨_,yo (gl a.next _) _ (hr _),?_⟩;push_cast [↓zK,↓zJ])|apply And.intro|(intro hg;(try simp only [push_cast]at hg)))
 all_goals first|exact gA|(exact zN (by omega))|skip
 all_goals first|(refine hK _ ?_;clear hK K)|(simp only [push_cast];done)
 all_goals refine zU rfl (fun hc=> ?_) (fun hc=> ?_)
 all_goals(first|(cases hc;done)|skip)
 all_goals(try simp only [push_cast]at hc)
 all_goals try(
   refine zL fun K hK=> ?_
   refine zM zQ zO [] rfl ?_
   all_goals push_cast [↓zK,↓zJ]
   all_goals repeat'(first|(apply zP<;>(intro hg;(try simp only [push_cast]at hg)))|(refine⟨_,yo (gl a.next _) _ (hr _),?_⟩;push_cast [↓zK,↓zJ])|apply And.intro|(intro hg;(try simp only [push_cast]at hg)))
   all_goals first|exact gA|(exact zN (by omega))|skip
   all_goals first|(refine hK _ ?_;clear hK K)|(simp only [push_cast];done)
   refine zc ?_
   (try simp only [zR,zS])
   refine⟨Or.inl rfl,?_⟩
   push_cast [zi,↓zK,↓zJ]
   symm
   refine Vn ?_
   omega
   done)
 refine zV ?_
 (try simp only [zR,zS,reduceIte,zF]);refine hK1 _ ?_
 refine zL fun K2 hK2=> ?_
 refine zL fun K hK=> ?_
 refine zM zQ zO [] rfl ?_
 all_goals push_cast [↓zK,↓zJ]
 all_goals repeat'(first|(apply zP<;>(intro hg;(try simp only [push_cast]at hg)))|(refine⟨_,yo (gl a.next _) _ (hr _),?_⟩;push_cast [↓zK,↓zJ])|apply And.intro|(intro hg;(try simp only [push_cast]at hg)))
 all_goals first|exact gA|(exact zN (by omega))|skip
 all_goals first|(refine hK _ ?_;clear hK K)|(simp only [push_cast];done)
 refine zT ?_
 refine zh [2,4,5,11,15,25,26,27,28,29,30,31,32,33,34,35,36,37,38,39,40,41,42,43,44,45,46,47,48,49,50,51,52,53,54,55,56,57,58,59,60] [] (fun(k:Nat)=> [(25, .int .i64 k)]) (fun k=> []) (fun k=> []) (fun k=>k≤a.owner.length∧∀j,j<k→qm a j=true) (fun k=>a.owner.length - k) 0 ?_ ⟨by omega,fun j hj=>by omega⟩ ?_
 ·
  refine zX rfl ?_ ?_ ?_<;>push_cast [zg,zf,↓zK,↓zJ]
 ·rintro k ⟨hk,hall⟩ KL0 hL0
  push_cast [↓zK,↓zJ]
  refine zL fun K hK=> ?_
  refine zM zQ zO [] rfl ?_
  all_goals push_cast [↓zK,↓zJ]
  all_goals repeat'(first|(apply zP<;>(intro hg;(try simp only [push_cast]at hg)))|(refine⟨_,yo (gl a.next _) _ (hr _),?_⟩;push_cast [↓zK,↓zJ])|apply And.intro|(intro hg;(try simp only [push_cast]at hg)))
  all_goals first|exact gA|(exact zN (by omega))|skip
  all_goals first|(refine hK _ ?_;clear hK K)|(simp only [push_cast];done)
  refine zL fun K3 hK3=> ?_
  refine zU rfl (fun hc=> ?_) (fun hc=> ?_)<;>(try simp only [push_cast]at hc)
  ·
   refine zV ?_
   (try simp only [zR,zS,reduceIte,zF]);refine hK3 _ ?_
   refine zL fun K4 hK4=> ?_
   refine zT ?_
   refine zL fun K hK=> ?_
   refine zM zQ zO [] rfl ?_
   all_goals push_cast [↓zK,↓zJ]
   all_goals repeat'(first|(apply zP<;>(intro hg;(try simp only [push_cast]at hg)))|(refine⟨_,yo (gl a.next _) _ (hr _),?_⟩;push_cast [↓zK,↓zJ])|apply And.intro|(intro hg;(try simp only [push_cast]at hg)))
   all_goals first|exact gA|(exact zN (by omega))|skip
   all_goals first|(refine hK _ ?_;clear hK K)|(simp only [push_cast];done)
   refine zL fun K hK=> ?_
   refine za false zQ zO ?_ rfl ?_
   ·kernel_rfl
   all_goals refine zo 28 fun K9 hK9=> ?_
   all_goals push_cast [↓zK,↓zJ]
   all_goals repeat'(first|(apply zP<;>(intro hg;(try simp only [push_cast]at hg)))|(refine⟨_,yo (gl a.next _) _ (hr _),?_⟩;push_cast [↓zK,↓zJ])|apply And.intro|(intro hg;(try simp only [push_cast]at hg)))
   all_goals first|exact gA|(exact zN (by omega))|skip
   all_goals first|(refine hK9 _ ?_;clear hK9 K9)|(simp only [push_cast];done)
   all_goals push_cast [↓zK,↓zJ]
   all_goals repeat'(first|(apply zP<;>(intro hg;(try simp only [push_cast]at hg)))|(refine⟨_,yo (gl a.next _) _ (hr _),?_⟩;push_cast [↓zK,↓zJ])|apply And.intro|(intro hg;(try simp only [push_cast]at hg)))
   all_goals first|exact gA|(exact zN (by omega))|skip
   all_goals first|(refine hK _ ?_;clear hK K)|(simp only [push_cast];done)
   all_goals refine zU rfl (fun hc=> ?_) (fun hc=> ?_)
   all_goals(first|(cases hc;done)|skip)
   all_goals(try simp only [push_cast]at hc)
   all_goals try(
     refine zL fun K hK=> ?_
     refine zM zQ zO [] rfl ?_
     all_goals push_cast [↓zK,↓zJ]
     all_goals repeat'(first|(apply zP<;>(intro hg;(try simp only [push_cast]at hg)))|(refine⟨_,yo (gl a.next _) _ (hr _),?_⟩;push_cast [↓zK,↓zJ])|apply And.intro|(intro hg;(try simp only [push_cast]at hg)))
     all_goals first|exact gA|(exact zN (by omega))|skip
     all_goals first|(refine hK _ ?_;clear hK K)|(simp only [push_cast];done)
     refine zc ?_
     (try simp only [zR,zS])
     refine⟨Or.inl rfl,?_⟩
     push_cast [zi,↓zK,↓zJ]
     symm
     refine Vo (v:=k) (by omega) ?_
     unfold qm Xj
     rw [Bool.and_eq_false_iff,decide_eq_false_iff_not]
     first|(left;omega)|(right;assumption)
     done)
   refine zV ?_
   (try simp only [zR,zS,reduceIte,zF]);refine hK4 _ ?_
   refine zM zQ zO [] rfl ?_
   all_goals push_cast [↓zK,↓zJ]
   all_goals repeat'(first|(apply zP<;>(intro hg;(try simp only [push_cast]at hg)))|(refine⟨_,yo (gl a.next _) _ (hr _),?_⟩;push_cast [↓zK,↓zJ])|apply And.intro|(intro hg;(try simp only [push_cast]at hg)))
   all_goals first|exact gA|(exact zN (by omega))|skip
   refine hL0 _ ⟨k+1,⟨by omega,fun j hj=>(by
     by_cases hjk:j=k
     ·subst hjk;unfold qm Xj;rw [Bool.and_eq_true,decide_eq_true_eq];exact⟨by omega,by assumption⟩
     ·exact hall j (by omega))⟩,by omega,?_⟩
   refine zX rfl ?_ ?_ ?_<;>push_cast [zg,zf,↓zK,↓zJ]
  ·
   refine zm ?_
   (try simp only [zR,zS,reduceIte,zF]);refine hK2 _ ?_
   refine zL fun K hK=> ?_
   refine zM zQ zO [] rfl ?_
   all_goals push_cast [↓zK,↓zJ]
   all_goals repeat'(first|(apply zP<;>(intro hg;(try simp only [push_cast]at hg)))|(refine⟨_,yo (gl a.next _) _ (hr _),?_⟩;push_cast [↓zK,↓zJ])|apply And.intro|(intro hg;(try simp only [push_cast]at hg)))
   all_goals first|exact gA|(exact zN (by omega))|skip
   all_goals first|(refine hK _ ?_;clear hK K)|(simp only [push_cast];done)
   refine zc ?_
   (try simp only [zR,zS])
   refine⟨Or.inl rfl,?_⟩
   push_cast [zi,↓zK,↓zJ]
   symm
   exact YC (by omega) fun v hv=>hall v (by omega)
set_option maxRecDepth 20000 in
set_option maxHeartbeats 4000000 in
theorem Xu (a:Ar)(ha:a.Ln 1048576):Fn Try.prog tyT 57 [.agg (dAr a)] [.c (.bool (zu a))]:=by
 have hr: ∀v,(gl a.next v).length≤1048576:=fun v=>wu ha.next v
 have hno:=ha.owner
 have hnn:=ha.next.1
 unfold LnI at hno
 unfold dAr
 refine yK (fn:=Try.f57) (ts:= [2]) Try.func57 (by kernel_rfl) rfl rfl (by rw [Try.ntmps57];exact Nat.le_of_ble_eq_true rfl) rfl (by simp only [szA,List.mem_cons,List.not_mem_nil,or_false,forall_eq_or_imp,forall_eq,VT.cells,szL];try decide) ?_
 rw [Try.ntmps57]
 push_cast [↓zK,↓zJ]
 refine zL fun K hK=> ?_
 refine zM zQ zO [] rfl ?_
 all_goals push_cast [↓zK,↓zJ]
 all_goals repeat'(first|(apply zP<;>(intro hg;(try simp only [push_cast]at hg)))|(refine⟨_,yk _ _ _,?_⟩;push_cast [↓zK,↓zJ])|(refine⟨_,xM (gl a.next _) _ (hr _) (by omega) (by omega),?_⟩;push_cast [↓zK,↓zJ])|apply And.intro|(intro hg;(try simp only [push_cast]at hg)))
 all_goals first|exact gA|(exact zN (by omega))|skip
 all_goals first|(refine hK _ ?_;clear hK K)|(simp only [push_cast];done)
 refine zL fun K hK=> ?_
 refine zM zQ zO [] rfl ?_
 all_goals push_cast [↓zK,↓zJ]
 all_goals repeat'(first|(apply zP<;>(intro hg;(try simp only [push_cast]at hg)))|(refine⟨_,yk _ _ _,?_⟩;push_cast [↓zK,↓zJ])|(refine⟨_,xM (gl a.next _) _ (hr _) (by omega) (by omega),?_⟩;push_cast [↓zK,↓zJ])|apply And.intro|(intro hg;(try simp only [push_cast]at hg)))
 all_goals first|exact gA|(exact zN (by omega))|skip
 all_goals first|(refine hK _ ?_;clear hK K)|(simp only [push_cast];done)
 refine zL fun K1 hK1=> ?_
 refine zL fun K hK=> ?_
 refine za false zQ zO ?_ rfl ?_
 ·kernel_rfl
 all_goals refine zo 2 fun K9 hK9=> ?_
 all_goals push_cast [↓zK,↓zJ]
 all_goals repeat'(first|(apply zP<;>(intro hg;(try simp only [push_cast]at hg)))|(refine⟨_,yk _ _ _,?_⟩;push_cast [↓zK,↓zJ])|(refine⟨_,xM (gl a.next _) _ (hr _) (by omega) (by omega),?_⟩;push_cast [↓zK,↓zJ])|apply And.intro|(intro hg;(try simp only [push_cast]at hg)))
 all_goals first|exact gA|(exact zN (by omega))|skip
 all_goals first|(refine hK9 _ ?_;clear hK9 K9)|(simp only [push_cast];done)
 all_goals push_cast [↓zK,↓zJ]
 all_goals repeat'(first|(apply zP<;>(intro hg;(try simp only [push_cast]at hg)))|(refine⟨_,yk _ _ _,?_⟩;push_cast [↓zK,↓zJ])|(refine⟨_,xM (gl a.next _) _ (hr _) (by omega) (by omega),?_⟩;push_cast [↓zK,↓zJ])|apply And.intro|(intro hg;(try simp only [push_cast]at hg)))
 all_goals first|exact gA|(exact zN (by omega))|skip
 all_goals first|(refine hK _ ?_;clear hK K)|(simp only [push_cast];done)
 all_goals refine zU rfl (fun hc=> ?_) (fun hc=> ?_)
 all_goals(first|(cases hc;done)|skip)
 all_goals(try simp only [push_cast]at hc)
 all_goals try(
   refine zL fun K hK=> ?_
   refine zM zQ zO [] rfl ?_
   all_goals push_cast [↓zK,↓zJ]
   all_goals repeat'(first|(apply zP<;>(intro hg;(try simp only [push_cast]at hg)))|(refine⟨_,yk _ _ _,?_⟩;push_cast [↓zK,↓zJ])|(refine⟨_,xM (gl a.next _) _ (hr _) (by omega) (by omega),?_⟩;push_cast [↓zK,↓zJ])|apply And.intro|(intro hg;(try simp only [push_cast]at hg)))
   all_goals first|exact gA|(exact zN (by omega))|skip
   all_goals first|(refine hK _ ?_;clear hK K)|(simp only [push_cast];done)
   refine zc ?_
   (try simp only [zR,zS])
   refine⟨Or.inl rfl,?_⟩
   push_cast [zi,↓zK,↓zJ]
   symm
   refine Vn ?_
   omega
   done)
 refine zV ?_
 (try simp only [zR,zS,reduceIte,zF]);refine hK1 _ ?_
 refine zL fun K2 hK2=> ?_
 refine zL fun K hK=> ?_
 refine zM zQ zO [] rfl ?_
 all_goals push_cast [↓zK,↓zJ]
 all_goals repeat'(first|(apply zP<;>(intro hg;(try simp only [push_cast]at hg)))|(refine⟨_,yk _ _ _,?_⟩;push_cast [↓zK,↓zJ])|(refine⟨_,xM (gl a.next _) _ (hr _) (by omega) (by omega),?_⟩;push_cast [↓zK,↓zJ])|apply And.intro|(intro hg;(try simp only [push_cast]at hg)))
 all_goals first|exact gA|(exact zN (by omega))|skip
 all_goals first|(refine hK _ ?_;clear hK K)|(simp only [push_cast];done)
 refine zT ?_
 refine zh [2,4,11,20,21,22,23,24,25,26,27,28,29,30,31,32,33,34,35,36,37,38,39,40,41,42,43,44,45,46,47,48,49,50,51,52,53,54,55,56,57,58,59,60,61] [] (fun(k:Nat)=> [(4, .int .i64 k)]) (fun k=> []) (fun k=> []) (fun k=>k≤a.owner.length∧∀j,j<k→qm a j=true) (fun k=>a.owner.length - k) 0 ?_ ⟨by omega,fun j hj=>by omega⟩ ?_
 ·
  refine zX rfl ?_ ?_ ?_<;>push_cast [zg,zf,↓zK,↓zJ]
 ·rintro k ⟨hk,hall⟩ KL0 hL0
  push_cast [↓zK,↓zJ]
  refine zL fun K3 hK3=> ?_
  refine zL fun K hK=> ?_
  refine zM zQ zO [] rfl ?_
  all_goals push_cast [↓zK,↓zJ]
  all_goals repeat'(first|(apply zP<;>(intro hg;(try simp only [push_cast]at hg)))|(refine⟨_,yk _ _ _,?_⟩;push_cast [↓zK,↓zJ])|(refine⟨_,xM (gl a.next _) _ (hr _) (by omega) (by omega),?_⟩;push_cast [↓zK,↓zJ])|apply And.intro|(intro hg;(try simp only [push_cast]at hg)))
  all_goals first|exact gA|(exact zN (by omega))|skip
  all_goals first|(refine hK _ ?_;clear hK K)|(simp only [push_cast];done)
  refine zU rfl (fun hc=> ?_) (fun hc=> ?_)<;>(try simp only [push_cast]at hc)
  ·
   refine zV ?_
   (try simp only [zR,zS,reduceIte,zF]);refine hK3 _ ?_
   refine zL fun K4 hK4=> ?_
   refine zT ?_
   refine zL fun K hK=> ?_
   refine za false zQ zO ?_ rfl ?_
   ·kernel_rfl
   all_goals refine zo 6 fun K9 hK9=> ?_
   all_goals push_cast [↓zK,↓zJ]
   all_goals repeat'(first|(apply zP<;>(intro hg;(try simp only [push_cast]at hg)))|(refine⟨_,yk _ _ _,?_⟩;push_cast [↓zK,↓zJ])|(refine⟨_,xM (gl a.next _) _ (hr _) (by omega) (by omega),?_⟩;push_cast [↓zK,↓zJ])|apply And.intro|(intro hg;(try simp only [push_cast]at hg)))
   all_goals first|exact gA|(exact zN (by omega))|skip
   all_goals first|(refine hK9 _ ?_;clear hK9 K9)|(simp only [push_cast];done)
   all_goals refine zo 27 fun K9 hK9=> ?_
   all_goals push_cast [↓zK,↓zJ]
   all_goals repeat'(first|(apply zP<;>(intro hg;(try simp only [push_cast]at hg)))|(refine⟨_,yk _ _ _,?_⟩;push_cast [↓zK,↓zJ])|(refine⟨_,xM (gl a.next _) _ (hr _) (by omega) (by omega),?_⟩;push_cast [↓zK,↓zJ])|apply And.intro|(intro hg;(try simp only [push_cast]at hg)))
   all_goals first|exact gA|(exact zN (by omega))|skip
   all_goals first|(refine hK9 _ ?_;clear hK9 K9)|(simp only [push_cast];done)
   all_goals push_cast [↓zK,↓zJ]
   all_goals repeat'(first|(apply zP<;>(intro hg;(try simp only [push_cast]at hg)))|(refine⟨_,yk _ _ _,?_⟩;push_cast [↓zK,↓zJ])|(refine⟨_,xM (gl a.next _) _ (hr _) (by omega) (by omega),?_⟩;push_cast [↓zK,↓zJ])|apply And.intro|(intro hg;(try simp only [push_cast]at hg)))
   all_goals first|exact gA|(exact zN (by omega))|skip
   all_goals first|(refine hK _ ?_;clear hK K)|(simp only [push_cast];done)
   all_goals refine zU rfl (fun hc=> ?_) (fun hc=> ?_)
   all_goals(first|(cases hc;done)|skip)
   all_goals(try simp only [push_cast]at hc)
   all_goals try(
     refine zL fun K hK=> ?_
     refine zM zQ zO [] rfl ?_
     all_goals push_cast [↓zK,↓zJ]
     all_goals repeat'(first|(apply zP<;>(intro hg;(try simp only [push_cast]at hg)))|(refine⟨_,yk _ _ _,?_⟩;push_cast [↓zK,↓zJ])|(refine⟨_,xM (gl a.next _) _ (hr _) (by omega) (by omega),?_⟩;push_cast [↓zK,↓zJ])|apply And.intro|(intro hg;(try simp only [push_cast]at hg)))
     all_goals first|exact gA|(exact zN (by omega))|skip
     all_goals first|(refine hK _ ?_;clear hK K)|(simp only [push_cast];done)
     refine zc ?_
     (try simp only [zR,zS])
     refine⟨Or.inl rfl,?_⟩
     push_cast [zi,↓zK,↓zJ]
     symm
     refine Vo (v:=k) (by omega) ?_
     unfold qm Xj
     rw [Bool.and_eq_false_iff,decide_eq_false_iff_not]
     first|(left;omega)|(right;assumption)
     done)
   refine zV ?_
   (try simp only [zR,zS,reduceIte,zF]);refine hK4 _ ?_
   refine zM zQ zO [] rfl ?_
   all_goals push_cast [↓zK,↓zJ]
   all_goals repeat'(first|(apply zP<;>(intro hg;(try simp only [push_cast]at hg)))|(refine⟨_,yk _ _ _,?_⟩;push_cast [↓zK,↓zJ])|(refine⟨_,xM (gl a.next _) _ (hr _) (by omega) (by omega),?_⟩;push_cast [↓zK,↓zJ])|apply And.intro|(intro hg;(try simp only [push_cast]at hg)))
   all_goals first|exact gA|(exact zN (by omega))|skip
   refine hL0 _ ⟨k+1,⟨by omega,fun j hj=>(by
     by_cases hjk:j=k
     ·subst hjk;unfold qm Xj;rw [Bool.and_eq_true,decide_eq_true_eq];exact⟨by omega,by assumption⟩
     ·exact hall j (by omega))⟩,by omega,?_⟩
   refine zX rfl ?_ ?_ ?_<;>push_cast [zg,zf,↓zK,↓zJ]
  ·
   refine zm ?_
   (try simp only [zR,zS,reduceIte,zF]);refine hK2 _ ?_
   refine zL fun K hK=> ?_
   refine zM zQ zO [] rfl ?_
   all_goals push_cast [↓zK,↓zJ]
   all_goals repeat'(first|(apply zP<;>(intro hg;(try simp only [push_cast]at hg)))|(refine⟨_,yk _ _ _,?_⟩;push_cast [↓zK,↓zJ])|(refine⟨_,xM (gl a.next _) _ (hr _) (by omega) (by omega),?_⟩;push_cast [↓zK,↓zJ])|apply And.intro|(intro hg;(try simp only [push_cast]at hg)))
   all_goals first|exact gA|(exact zN (by omega))|skip
   all_goals first|(refine hK _ ?_;clear hK K)|(simp only [push_cast];done)
   refine zc ?_
   (try simp only [zR,zS])
   refine⟨Or.inl rfl,?_⟩
   push_cast [zi,↓zK,↓zJ]
   symm
   exact YC (by omega) fun v hv=>hall v (by omega)
theorem UD (n:Nat)(v:Int):Wm n v=decide (0≤v∧v<n):=by
 unfold Wm inB
 rw [decide_eq_decide]
 omega
theorem zKZ (xs:List Int)(x:Int):decide (ixB xs x≥0)=zn xs x:=zJA xs x
set_option maxRecDepth 20000 in
set_option maxHeartbeats 4000000 in
theorem Uk (xs:List Int)(x:Int)(hl:xs.length≤1048576):Fn Try.prog tyT 69 [.c (DI xs), .c (.int .i64 x)] [.c (.int .i64 (ixB xs x))]:=by
 refine yK (fn:=Try.f69) (ts:= [4]) Try.func69 (by kernel_rfl) rfl rfl (by rw [Try.ntmps69];exact Nat.le_of_ble_eq_true rfl) rfl (by simp only [szA,List.mem_cons,List.not_mem_nil,or_false,forall_eq_or_imp,forall_eq,VT.cells,szL];try decide) ?_
 rw [Try.ntmps69]
 push_cast [↓zK,↓zJ]
 refine zL fun K hK=> ?_
 refine zM zQ zO [] rfl ?_
 push_cast [↓zK,↓zJ]
 repeat' apply And.intro
 all_goals try exact gB
 all_goals first|(refine hK _ ?_;clear hK K)|(simp only [push_cast];done)
 refine zL fun K1 hK1=> ?_
 refine zL fun K hK=> ?_
 refine zM zQ zO [] rfl ?_
 push_cast [↓zK,↓zJ]
 repeat' apply And.intro
 all_goals try exact gB
 all_goals first|(refine hK _ ?_;clear hK K)|(simp only [push_cast];done)
 refine zT ?_
 refine zh [4,5,8,9,10,11,12,13,14,15,16,17,18] [] (fun(k:Nat)=> [(8, .int .i64 k)]) (fun k=> []) (fun k=> []) (fun k=>k≤xs.length∧∀j,j<k→¬gi xs j=x) (fun k=>xs.length - k) 0 ?_ ⟨by omega,fun j hj=>by omega⟩ ?_
 ·
  refine zX rfl ?_ ?_ ?_<;>push_cast [zg,zf,↓zK,↓zJ]
 ·rintro k ⟨hk,hall⟩ KL0 hL0
  push_cast [↓zK,↓zJ]
  refine zL fun K hK=> ?_
  refine zM zQ zO [] rfl ?_
  push_cast [↓zK,↓zJ]
  repeat' apply And.intro
  all_goals try exact gB
  all_goals first|(refine hK _ ?_;clear hK K)|(simp only [push_cast];done)
  refine zL fun K2 hK2=> ?_
  refine zU rfl (fun hc=> ?_) (fun hc=> ?_)<;>(try simp only [push_cast]at hc)
  ·
   refine zV ?_
   (try simp only [zR,zS,reduceIte,zF]);refine hK2 _ ?_
   refine zL fun K3 hK3=> ?_
   refine zT ?_
   refine zL fun K hK=> ?_
   refine zM zQ zO [] rfl ?_
   push_cast [↓zK,↓zJ]
   repeat' apply And.intro
   all_goals try exact gB
   all_goals first|(refine hK _ ?_;clear hK K)|(simp only [push_cast];done)
   refine zL fun K hK=> ?_
   refine zM zQ zO [] rfl ?_
   push_cast [↓zK,↓zJ]
   repeat' apply And.intro
   all_goals try exact gB
   all_goals first|(refine hK _ ?_;clear hK K)|(simp only [push_cast];done)
   refine zU rfl (fun hc=> ?_) (fun hc=> ?_)<;>(try simp only [push_cast]at hc)
   ·
    refine zL fun K hK=> ?_
    refine zM zQ zO [] rfl ?_
    push_cast [↓zK,↓zJ]
    repeat' apply And.intro
    all_goals try exact gB
    all_goals first|(refine hK _ ?_;clear hK K)|(simp only [push_cast];done)
    refine zc ?_
    (try simp only [zR,zS])
    refine⟨Or.inl rfl,?_⟩
    push_cast [zi,↓zK,↓zJ]
    symm
    exact zFU (k:=k) (by omega) hall (by omega)
   ·
    refine zV ?_
    (try simp only [zR,zS,reduceIte,zF]);refine hK3 _ ?_
    refine zM zQ zO [] rfl ?_
    push_cast [↓zK,↓zJ]
    repeat' apply And.intro
    all_goals try exact gB
    refine hL0 _ ⟨k+1,⟨by omega,fun j hj=>(by
      by_cases hjk:j=k
      ·subst hjk;omega
      ·exact hall j (by omega))⟩,by omega,?_⟩
    refine zX rfl ?_ ?_ ?_<;>push_cast [zg,zf,↓zK,↓zJ]
  ·
   refine zm ?_
   (try simp only [zR,zS,reduceIte,zF]);refine hK1 _ ?_
   refine zL fun K hK=> ?_
   refine zM zQ zO [] rfl ?_
   push_cast [↓zK,↓zJ]
   repeat' apply And.intro
   all_goals try exact gB
   all_goals first|(refine hK _ ?_;clear hK K)|(simp only [push_cast];done)
   refine zc ?_
   (try simp only [zR,zS])
   refine⟨Or.inl rfl,?_⟩
   push_cast [zi,↓zK,↓zJ]
   symm
   exact zG0 fun j hj=>hall j (by omega)
set_option maxRecDepth 20000 in
set_option maxHeartbeats 4000000 in
theorem yH (xs:List Int)(x:Int)(hl:xs.length≤1048576):Fn Try.prog tyT 47 [.c (DI xs), .c (.int .i64 x)] [.c (.bool (zn xs x))]:=by
 refine yK (fn:=Try.f47) (ts:= [4]) Try.func47 (by kernel_rfl) rfl rfl (by rw [Try.ntmps47];exact Nat.le_of_ble_eq_true rfl) rfl (by simp only [szA,List.mem_cons,List.not_mem_nil,or_false,forall_eq_or_imp,forall_eq,VT.cells,szL];try decide) ?_
 rw [Try.ntmps47]
 push_cast [↓zK,↓zJ]
 refine zL fun K hK=> ?_
 refine zM zQ zO [] rfl ?_
 push_cast [↓zK,↓zJ]
 repeat' apply And.intro
 all_goals try exact gB
 all_goals first|(refine hK _ ?_;clear hK K)|(simp only [push_cast];done)
 refine zL fun K hK=> ?_
 refine zM zQ zO [] rfl ?_
 all_goals refine yz 3 fun K9 hK9=> ?_
 all_goals push_cast [↓zK,↓zJ]
 all_goals repeat'(first|(apply zP<;>(intro hg;(try simp only [push_cast]at hg)))|(refine⟨_,Uk xs x hl,?_⟩;push_cast [↓zK,↓zJ])|apply And.intro|(intro hg;(try simp only [push_cast]at hg)))
 all_goals try exact gA
 all_goals first|(refine hK9 _ ?_;clear hK9 K9)|(simp only [push_cast];done)
 all_goals push_cast [↓zK,↓zJ]
 all_goals repeat'(first|(apply zP<;>(intro hg;(try simp only [push_cast]at hg)))|(refine⟨_,Uk xs x hl,?_⟩;push_cast [↓zK,↓zJ])|apply And.intro|(intro hg;(try simp only [push_cast]at hg)))
 all_goals try exact gA
 all_goals first|(refine hK _ ?_;clear hK K)|(simp only [push_cast];done)
 refine zc ?_
 (try simp only [zR,zS])
 refine⟨Or.inl rfl,?_⟩
 push_cast [zi,↓zK,↓zJ]
 exact zKZ xs x
set_option maxRecDepth 20000 in
set_option maxHeartbeats 4000000 in
theorem yO (xs:List Int)(x:Int)(hl:xs.length≤1048576):Fn Try.prog tyT 83 [.c (DI xs), .c (.int .i64 x)] [.c (.bool (zn xs x))]:=by
 refine yK (fn:=Try.f83) (ts:= [4]) Try.func83 (by kernel_rfl) rfl rfl (by rw [Try.ntmps83];exact Nat.le_of_ble_eq_true rfl) rfl (by simp only [szA,List.mem_cons,List.not_mem_nil,or_false,forall_eq_or_imp,forall_eq,VT.cells,szL];try decide) ?_
 rw [Try.ntmps83]
 push_cast [↓zK,↓zJ]
 refine zL fun K hK=> ?_
 refine zM zQ zO [] rfl ?_
 push_cast [↓zK,↓zJ]
 repeat' apply And.intro
 all_goals try exact gB
 all_goals first|(refine hK _ ?_;clear hK K)|(simp only [push_cast];done)
 refine zL fun K1 hK1=> ?_
 refine zL fun K hK=> ?_
 refine zM zQ zO [] rfl ?_
 push_cast [↓zK,↓zJ]
 repeat' apply And.intro
 all_goals try exact gB
 all_goals first|(refine hK _ ?_;clear hK K)|(simp only [push_cast];done)
 refine zT ?_
 refine zh [4,5,6,7,8,9,10,11,12,13,14,15,16,17] [] (fun(k:Nat)=> [(5, .int .i64 k)]) (fun k=> []) (fun k=> []) (fun k=>k≤xs.length∧∀j,j<k→¬gi xs j=x) (fun k=>xs.length - k) 0 ?_ ⟨by omega,fun j hj=>by omega⟩ ?_
 ·
  refine zX rfl ?_ ?_ ?_<;>push_cast [zg,zf,↓zK,↓zJ]
 ·rintro k ⟨hk,hall⟩ KL0 hL0
  push_cast [↓zK,↓zJ]
  refine zL fun K2 hK2=> ?_
  refine zL fun K hK=> ?_
  refine zM zQ zO [] rfl ?_
  push_cast [↓zK,↓zJ]
  repeat' apply And.intro
  all_goals try exact gB
  all_goals first|(refine hK _ ?_;clear hK K)|(simp only [push_cast];done)
  refine zU rfl (fun hc=> ?_) (fun hc=> ?_)<;>(try simp only [push_cast]at hc)
  ·
   refine zV ?_
   (try simp only [zR,zS,reduceIte,zF]);refine hK2 _ ?_
   refine zL fun K3 hK3=> ?_
   refine zT ?_
   refine zL fun K hK=> ?_
   refine zM zQ zO [] rfl ?_
   push_cast [↓zK,↓zJ]
   repeat' apply And.intro
   all_goals try exact gB
   all_goals first|(refine hK _ ?_;clear hK K)|(simp only [push_cast];done)
   refine zU rfl (fun hc=> ?_) (fun hc=> ?_)<;>(try simp only [push_cast]at hc)
   ·
    refine zL fun K hK=> ?_
    refine zM zQ zO [] rfl ?_
    push_cast [↓zK,↓zJ]
    repeat' apply And.intro
    all_goals try exact gB
    all_goals first|(refine hK _ ?_;clear hK K)|(simp only [push_cast];done)
    refine zc ?_
    (try simp only [zR,zS])
    refine⟨Or.inl rfl,?_⟩
    push_cast [zi,↓zK,↓zJ]
    symm
    unfold zn
    rw [Qb (k:=k) (by omega) hall (by omega),decide_eq_true_eq]
    omega
   ·
    refine zV ?_
    (try simp only [zR,zS,reduceIte,zF]);refine hK3 _ ?_
    refine zM zQ zO [] rfl ?_
    push_cast [↓zK,↓zJ]
    repeat' apply And.intro
    all_goals try exact gB
    refine hL0 _ ⟨k+1,⟨by omega,fun j hj=>(by
      by_cases hjk:j=k
      ·subst hjk;omega
      ·exact hall j (by omega))⟩,by omega,?_⟩
    refine zX rfl ?_ ?_ ?_<;>push_cast [zg,zf,↓zK,↓zJ]
  ·
   refine zm ?_
   (try simp only [zR,zS,reduceIte,zF]);refine hK1 _ ?_
   refine zL fun K hK=> ?_
   refine zM zQ zO [] rfl ?_
   push_cast [↓zK,↓zJ]
   repeat' apply And.intro
   all_goals try exact gB
   all_goals first|(refine hK _ ?_;clear hK K)|(simp only [push_cast];done)
   refine zc ?_
   (try simp only [zR,zS])
   refine⟨Or.inl rfl,?_⟩
   push_cast [zi,↓zK,↓zJ]
   symm
   unfold zn
   rw [XZ (fun j hj=>hall j (by omega)),decide_eq_false_iff_not]
   omega
set_option maxRecDepth 20000 in
set_option maxHeartbeats 4000000 in
theorem zDH (a:Ar):Fn Try.prog tyT 44 [.agg (dAr a)] [.c (.int .i64 a.owner.length)]:=by
 unfold dAr
 refine yK (fn:=Try.f44) (ts:= [2]) Try.func44 (by kernel_rfl) rfl rfl (by rw [Try.ntmps44];exact Nat.le_of_ble_eq_true rfl) rfl (by simp only [szA,List.mem_cons,List.not_mem_nil,or_false,forall_eq_or_imp,forall_eq,VT.cells,szL];try decide) ?_
 rw [Try.ntmps44]
 push_cast [↓zK,↓zJ]
 refine zL fun K hK=> ?_
 refine zM zQ zO [] rfl ?_
 push_cast [↓zK,↓zJ]
 repeat' apply And.intro
 all_goals try exact gB
 all_goals first|(refine hK _ ?_;clear hK K)|(simp only [push_cast];done)
 refine zL fun K hK=> ?_
 refine zM zQ zO [] rfl ?_
 push_cast [↓zK,↓zJ]
 repeat' apply And.intro
 all_goals try exact gB
 all_goals first|(refine hK _ ?_;clear hK K)|(simp only [push_cast];done)
 refine zc ?_
 (try simp only [zR,zS])
 refine⟨Or.inl rfl,?_⟩
 push_cast [zi,↓zK,↓zJ]
set_option maxRecDepth 20000 in
set_option maxHeartbeats 4000000 in
theorem WQ (a:Ar)(v:Int):Fn Try.prog tyT 45 [.agg (dAr a), .c (.int .i64 v)] [.c (.bool (decide (0≤v∧v<a.owner.length)))]:=by
 have hA:=zDH a
 unfold dAr at hA⊢
 refine yK (fn:=Try.f45) (ts:= [4]) Try.func45 (by kernel_rfl) rfl rfl (by rw [Try.ntmps45];exact Nat.le_of_ble_eq_true rfl) rfl (by simp only [szA,List.mem_cons,List.not_mem_nil,or_false,forall_eq_or_imp,forall_eq,VT.cells,szL];try decide) ?_
 rw [Try.ntmps45]
 push_cast [↓zK,↓zJ]
 refine zL fun K hK=> ?_
 refine zM zQ zO [] rfl ?_
 push_cast [↓zK,↓zJ]
 repeat' apply And.intro
 all_goals try exact gB
 all_goals first|(refine hK _ ?_;clear hK K)|(simp only [push_cast];done)
 refine zL fun K hK=> ?_
 refine za false zQ zO ?_ rfl ?_
 ·kernel_rfl
 all_goals refine zo 6 fun K9 hK9=> ?_
 all_goals push_cast [↓zK,↓zJ]
 all_goals repeat'(first|(apply zP<;>(intro hg;(try simp only [push_cast]at hg)))|(refine⟨_,hA,?_⟩;push_cast [↓zK,↓zJ])|apply And.intro|(intro hg;(try simp only [push_cast]at hg)))
 all_goals try exact gA
 all_goals first|(refine hK9 _ ?_;clear hK9 K9)|(simp only [push_cast];done)
 all_goals push_cast [↓zK,↓zJ]
 all_goals repeat'(first|(apply zP<;>(intro hg;(try simp only [push_cast]at hg)))|(refine⟨_,hA,?_⟩;push_cast [↓zK,↓zJ])|apply And.intro|(intro hg;(try simp only [push_cast]at hg)))
 all_goals try exact gA
 all_goals first|(refine hK _ ?_;clear hK K)|(simp only [push_cast];done)
 all_goals(
   refine zc ?_
   (try simp only [zR,zS])
   refine⟨Or.inl rfl,?_⟩
   push_cast [zi,↓zK,↓zJ]
   first|(rw [decide_eq_decide];omega)|(symm;rw [decide_eq_false_iff_not];omega))
set_option maxRecDepth 20000 in
set_option maxHeartbeats 4000000 in
theorem zD2 (a:Ar)(v:Int)(ha:a.owner.length≤1048576):Fn Try.prog tyT 34 [.agg (dAr a), .c (.int .i64 v)] [.c (.bool (decide (0≤v∧v<a.owner.length)))]:=by
 unfold dAr
 refine yK (fn:=Try.f34) (ts:= [4]) Try.func34 (by kernel_rfl) rfl rfl (by rw [Try.ntmps34];exact Nat.le_of_ble_eq_true rfl) rfl (by simp only [szA,List.mem_cons,List.not_mem_nil,or_false,forall_eq_or_imp,forall_eq,VT.cells,szL];try decide) ?_
 rw [Try.ntmps34]
 push_cast [↓zK,↓zJ]
 refine zL fun K hK=> ?_
 refine zM zQ zO [] rfl ?_
 push_cast [↓zK,↓zJ]
 repeat' apply And.intro
 all_goals try exact gB
 all_goals first|(refine hK _ ?_;clear hK K)|(simp only [push_cast];done)
 refine zL fun K hK=> ?_
 refine zM zQ zO [] rfl ?_
 all_goals refine yz 6 fun K9 hK9=> ?_
 all_goals push_cast [↓zK,↓zJ]
 all_goals repeat'(first|(apply zP<;>(intro hg;(try simp only [push_cast]at hg)))|(refine⟨_,yk _ _ _,?_⟩;push_cast [↓zK,↓zJ])|apply And.intro|(intro hg;(try simp only [push_cast]at hg)))
 all_goals try exact gA
 all_goals first|(refine hK9 _ ?_;clear hK9 K9)|(simp only [push_cast];done)
 all_goals push_cast [↓zK,↓zJ]
 all_goals repeat'(first|(apply zP<;>(intro hg;(try simp only [push_cast]at hg)))|(refine⟨_,yk _ _ _,?_⟩;push_cast [↓zK,↓zJ])|apply And.intro|(intro hg;(try simp only [push_cast]at hg)))
 all_goals try exact gA
 all_goals first|(refine hK _ ?_;clear hK K)|(simp only [push_cast];done)
 refine zc ?_
 (try simp only [zR,zS])
 refine⟨Or.inl rfl,?_⟩
 push_cast [zi,↓zK,↓zJ]
 rw [decide_eq_decide];omega
set_option maxRecDepth 20000 in
set_option maxHeartbeats 4000000 in
theorem WT (xs:List Int)(hl:xs.length≤1048576):Fn Try.prog tyT 78 [.c (DI xs)] [.c (DI xs)]:=by
 refine yK (fn:=Try.f78) (ts:= [2]) Try.func78 (by kernel_rfl) rfl rfl (by rw [Try.ntmps78];exact Nat.le_of_ble_eq_true rfl) rfl (by simp only [szA,List.mem_cons,List.not_mem_nil,or_false,forall_eq_or_imp,forall_eq,VT.cells,szL];try decide) ?_
 rw [Try.ntmps78]
 push_cast [↓zK,↓zJ]
 refine zL fun K hK=> ?_
 refine zM zQ zO [] rfl ?_
 push_cast [↓zK,↓zJ]
 repeat' apply And.intro
 all_goals try exact gB
 all_goals first|(refine hK _ ?_;clear hK K)|(simp only [push_cast];done)
 refine zL fun K hK=> ?_
 refine zM zQ zO [] rfl ?_
 push_cast [↓zK,↓zJ]
 repeat' apply And.intro
 all_goals try exact gB
 all_goals first|(refine hK _ ?_;clear hK K)|(simp only [push_cast];done)
 refine zc ?_
 (try simp only [zR,zS])
 refine⟨Or.inl rfl,?_⟩
 push_cast [zi,↓zK,↓zJ]
theorem VQ {a:Ar}{l:Ls}:vN a l=true↔(l.stem.length≤256∧1≤l.loop.length∧l.loop.length≤256)∧(∀j,j<(xV l).length→0≤gi (xV l) j∧gi (xV l) j<a.owner.length)∧∀j,1≤j→j<(xV l).length→zn (gl a.next (gi (xV l) (j - 1)).toNat) (gi (xV l) j)=true:=by
 constructor
 ·intro h
  refine⟨zB5 h,fun j hj=> ?_,fun j h1 hj=>(uf h hj).2 (by omega)⟩
  have :=(uf h hj).1
  rw [UD,decide_eq_true_eq]at this
  exact this
 ·rintro⟨h1,h2,h3⟩
  refine zFW h1 fun k hk=> ?_
  unfold Qe Vl
  rw [Bool.and_eq_true,Bool.or_eq_true,decide_eq_true_eq,UD,decide_eq_true_eq]
  refine⟨h2 k hk,?_⟩
  by_cases h0:k=0
  ·exact .inl h0
  ·exact .inr (h3 k (by omega) hk)
set_option maxRecDepth 20000 in
set_option maxHeartbeats 4000000 in
theorem zBm (a:Ar)(l:Ls)(ha:a.Ln 1048576)(hl:l.Ln 1048576):Fn Try.prog tyT 61 [.agg (dAr a), .agg (dLs l)] [.c (.bool (zu a&&vN a l))]:=by
 have hr: ∀v,(gl a.next v).length≤1048576:=fun v=>wu ha.next v
 have hno:=ha.owner
 have hnn:=ha.next.1
 have hst:=hl.stem
 have hlp:=hl.loop
 unfold LnI at hno hst hlp
 have hwl:=zHu l
 have hw0:(l.stem++l.loop).length=l.stem.length+l.loop.length:=List.length_append
 have hA:=Xu a ha
 have hV:=fun v=>zD2 a v hno
 have hS:=WT l.stem hst
 unfold dAr at hA hV⊢
 unfold dLs
 refine yK (fn:=Try.f61) (ts:= [4]) Try.func61 (by kernel_rfl) rfl rfl (by rw [Try.ntmps61];exact Nat.le_of_ble_eq_true rfl) rfl (by simp only [szA,List.mem_cons,List.not_mem_nil,or_false,forall_eq_or_imp,forall_eq,VT.cells,szL];try decide) ?_
 rw [Try.ntmps61]
 push_cast [↓zK,↓zJ]
 refine zL fun K hK=> ?_
 refine zM zQ zO [] rfl ?_
 all_goals push_cast [↓zK,↓zJ]
 all_goals repeat'(first|(apply zP<;>(intro hg;(try simp only [push_cast]at hg)))|(refine⟨_,hA,?_⟩;push_cast [↓zK,↓zJ])|(refine⟨_,hS,?_⟩;push_cast [↓zK,↓zJ])|(refine⟨_,hV _,?_⟩;push_cast [↓zK,↓zJ])|(refine⟨_,yO (gl a.next _) _ (hr _),?_⟩;push_cast [↓zK,↓zJ])|apply And.intro|(intro hg;(try simp only [push_cast]at hg)))
 all_goals first|exact gA|(exact zN (by omega))|skip
 all_goals first|(refine hK _ ?_;clear hK K)|(simp only [push_cast];done)
 refine zL fun K1 hK1=> ?_
 refine zL fun K hK=> ?_
 refine za false zQ zO ?_ rfl ?_
 ·kernel_rfl
 all_goals refine zo 2 fun K9 hK9=> ?_
 all_goals push_cast [↓zK,↓zJ]
 all_goals repeat'(first|(apply zP<;>(intro hg;(try simp only [push_cast]at hg)))|(refine⟨_,hA,?_⟩;push_cast [↓zK,↓zJ])|(refine⟨_,hS,?_⟩;push_cast [↓zK,↓zJ])|(refine⟨_,hV _,?_⟩;push_cast [↓zK,↓zJ])|(refine⟨_,yO (gl a.next _) _ (hr _),?_⟩;push_cast [↓zK,↓zJ])|apply And.intro|(intro hg;(try simp only [push_cast]at hg)))
 all_goals first|exact gA|(exact zN (by omega))|skip
 all_goals first|(refine hK9 _ ?_;clear hK9 K9)|(simp only [push_cast];done)
 all_goals push_cast [↓zK,↓zJ]
 all_goals repeat'(first|(apply zP<;>(intro hg;(try simp only [push_cast]at hg)))|(refine⟨_,hA,?_⟩;push_cast [↓zK,↓zJ])|(refine⟨_,hS,?_⟩;push_cast [↓zK,↓zJ])|(refine⟨_,hV _,?_⟩;push_cast [↓zK,↓zJ])|(refine⟨_,yO (gl a.next _) _ (hr _),?_⟩;push_cast [↓zK,↓zJ])|apply And.intro|(intro hg;(try simp only [push_cast]at hg)))
 all_goals first|exact gA|(exact zN (by omega))|skip
 all_goals first|(refine hK _ ?_;clear hK K)|(simp only [push_cast];done)
 all_goals refine zU rfl (fun hc=> ?_) (fun hc=> ?_)
 all_goals(first|(cases hc;done)|skip)
 all_goals(try simp only [push_cast]at hc)
 all_goals try(
   refine zL fun K hK=> ?_
   refine zM zQ zO [] rfl ?_
   all_goals push_cast [↓zK,↓zJ]
   all_goals repeat'(first|(apply zP<;>(intro hg;(try simp only [push_cast]at hg)))|(refine⟨_,hA,?_⟩;push_cast [↓zK,↓zJ])|(refine⟨_,hS,?_⟩;push_cast [↓zK,↓zJ])|(refine⟨_,hV _,?_⟩;push_cast [↓zK,↓zJ])|(refine⟨_,yO (gl a.next _) _ (hr _),?_⟩;push_cast [↓zK,↓zJ])|apply And.intro|(intro hg;(try simp only [push_cast]at hg)))
   all_goals first|exact gA|(exact zN (by omega))|skip
   all_goals first|(refine hK _ ?_;clear hK K)|(simp only [push_cast];done)
   refine zc ?_
   (try simp only [zR,zS])
   refine⟨Or.inl rfl,?_⟩
   push_cast [zi,↓zK,↓zJ]
   symm
   rw [Bool.eq_false_iff,ne_eq,Bool.and_eq_true,VQ]
   rintro⟨h0,h1,h2,h3⟩
   first|omega|exact absurd (h0.symm.trans (show zu a=false by assumption)) (by decide)
   done)
 refine zV ?_
 (try simp only [zR,zS,reduceIte,zF]);refine hK1 _ ?_
 have hok:zu a=true:=by with_reducible assumption
 have hlen:=zl hok
 refine zL fun K hK=> ?_
 refine yB false zQ zO xW ?_ rfl ?_
 ·kernel_rfl
 intro E hE
 all_goals refine yP 3 (by decide) fun K9 hK9=> ?_
 all_goals push_cast [↓zK,↓zJ]
 all_goals repeat'(first|(apply zP<;>(intro hg;(try simp only [push_cast]at hg)))|(refine⟨_,hA,?_⟩;push_cast [↓zK,↓zJ])|(refine⟨_,hS,?_⟩;push_cast [↓zK,↓zJ])|(refine⟨_,hV _,?_⟩;push_cast [↓zK,↓zJ])|(refine⟨_,yO (gl a.next _) _ (hr _),?_⟩;push_cast [↓zK,↓zJ])|apply And.intro|(intro hg;(try simp only [push_cast]at hg)))
 all_goals first|exact gA|(exact zN (by omega))|skip
 all_goals first|(refine hK9 _ _ ?_;clear hK9 K9)|(simp only [push_cast];done)
 all_goals push_cast [↓zK,↓zJ]
 all_goals repeat'(first|(apply zP<;>(intro hg;(try simp only [push_cast]at hg)))|(refine⟨_,hA,?_⟩;push_cast [↓zK,↓zJ])|(refine⟨_,hS,?_⟩;push_cast [↓zK,↓zJ])|(refine⟨_,hV _,?_⟩;push_cast [↓zK,↓zJ])|(refine⟨_,yO (gl a.next _) _ (hr _),?_⟩;push_cast [↓zK,↓zJ])|apply And.intro|(intro hg;(try simp only [push_cast]at hg)))
 all_goals first|exact gA|(refine hE _ _ ?_ ?_;kernel_rfl)|(exact zN (by omega))|skip
 all_goals clear hE E
 all_goals first|(refine hK _ ?_;clear hK K)|(simp only [push_cast];done)
 refine zL fun K2 hK2=> ?_
 refine zL fun K hK=> ?_
 refine zM zQ zO [] rfl ?_
 all_goals push_cast [↓zK,↓zJ]
 all_goals repeat'(first|(apply zP<;>(intro hg;(try simp only [push_cast]at hg)))|(refine⟨_,hA,?_⟩;push_cast [↓zK,↓zJ])|(refine⟨_,hS,?_⟩;push_cast [↓zK,↓zJ])|(refine⟨_,hV _,?_⟩;push_cast [↓zK,↓zJ])|(refine⟨_,yO (gl a.next _) _ (hr _),?_⟩;push_cast [↓zK,↓zJ])|apply And.intro|(intro hg;(try simp only [push_cast]at hg)))
 all_goals first|exact gA|(exact zN (by omega))|skip
 all_goals first|(refine hK _ ?_;clear hK K)|(simp only [push_cast];done)
 refine zT ?_
 rw [List.take_of_length_le (by omega),show l.stem++l.loop++ [gi l.loop 0]=xV l from rfl]
 refine zh [4,6,10,16,22,40,41,42,43,44,45,46,47,48,49,50,51,52,53,54,55,56,57,58,59,60,61,62,63,64,65,66,67,68,69,70,71,72,73] [] (fun(k:Nat)=> [(6, .int .i64 k)]) (fun k=> []) (fun k=> []) (fun k=>k≤(xV l).length∧(∀j,j<k→0≤gi (xV l) j∧gi (xV l) j<a.owner.length)∧∀j,1≤j→j<k→zn (gl a.next (gi (xV l) (j - 1)).toNat) (gi (xV l) j)=true) (fun k=>(xV l).length - k) 0 ?_ ⟨by omega,fun j hj=>by omega,fun j h1 hj=>by omega⟩ ?_
 ·
  refine zX rfl ?_ ?_ ?_<;>push_cast [zg,zf,↓zK,↓zJ]
 ·rintro k ⟨hk,hall,hall2⟩ KL0 hL0
  have hb1:1≤k→_:=fun h=>hall (k - 1) (by omega)
  push_cast [↓zK,↓zJ]
  refine zL fun K3 hK3=> ?_
  refine zL fun K hK=> ?_
  refine zM zQ zO [] rfl ?_
  all_goals push_cast [↓zK,↓zJ]
  all_goals repeat'(first|(apply zP<;>(intro hg;(try simp only [push_cast]at hg)))|(refine⟨_,hA,?_⟩;push_cast [↓zK,↓zJ])|(refine⟨_,hS,?_⟩;push_cast [↓zK,↓zJ])|(refine⟨_,hV _,?_⟩;push_cast [↓zK,↓zJ])|(refine⟨_,yO (gl a.next _) _ (hr _),?_⟩;push_cast [↓zK,↓zJ])|apply And.intro|(intro hg;(try simp only [push_cast]at hg)))
  all_goals first|exact gA|(exact zN (by omega))|skip
  all_goals first|(refine hK _ ?_;clear hK K)|(simp only [push_cast];done)
  refine zU rfl (fun hc=> ?_) (fun hc=> ?_)<;>(try simp only [push_cast]at hc)
  ·
   refine zV ?_
   (try simp only [zR,zS,reduceIte,zF]);refine hK3 _ ?_
   refine zL fun K4 hK4=> ?_
   refine zT ?_
   refine zL fun K hK=> ?_
   refine yB false zQ zO xW ?_ rfl ?_
   ·kernel_rfl
   intro E hE
   all_goals refine yP 6 (by decide) fun K9 hK9=> ?_
   all_goals push_cast [↓zK,↓zJ]
   all_goals repeat'(first|(apply zP<;>(intro hg;(try simp only [push_cast]at hg)))|(refine⟨_,hA,?_⟩;push_cast [↓zK,↓zJ])|(refine⟨_,hS,?_⟩;push_cast [↓zK,↓zJ])|(refine⟨_,hV _,?_⟩;push_cast [↓zK,↓zJ])|(refine⟨_,yO (gl a.next _) _ (hr _),?_⟩;push_cast [↓zK,↓zJ])|apply And.intro|(intro hg;(try simp only [push_cast]at hg)))
   all_goals first|exact gA|(exact zN (by omega))|skip
   all_goals first|(refine hK9 _ _ ?_;clear hK9 K9)|(simp only [push_cast];done)
   all_goals refine yP 19 (by decide) fun K9 hK9=> ?_
   all_goals push_cast [↓zK,↓zJ]
   all_goals repeat'(first|(apply zP<;>(intro hg;(try simp only [push_cast]at hg)))|(refine⟨_,hA,?_⟩;push_cast [↓zK,↓zJ])|(refine⟨_,hS,?_⟩;push_cast [↓zK,↓zJ])|(refine⟨_,hV _,?_⟩;push_cast [↓zK,↓zJ])|(refine⟨_,yO (gl a.next _) _ (hr _),?_⟩;push_cast [↓zK,↓zJ])|apply And.intro|(intro hg;(try simp only [push_cast]at hg)))
   all_goals first|exact gA|(exact zN (by omega))|skip
   all_goals first|(refine hK9 _ _ ?_;clear hK9 K9)|(simp only [push_cast];done)
   all_goals push_cast [↓zK,↓zJ]
   all_goals repeat'(first|(apply zP<;>(intro hg;(try simp only [push_cast]at hg)))|(refine⟨_,hA,?_⟩;push_cast [↓zK,↓zJ])|(refine⟨_,hS,?_⟩;push_cast [↓zK,↓zJ])|(refine⟨_,hV _,?_⟩;push_cast [↓zK,↓zJ])|(refine⟨_,yO (gl a.next _) _ (hr _),?_⟩;push_cast [↓zK,↓zJ])|apply And.intro|(intro hg;(try simp only [push_cast]at hg)))
   all_goals first|exact gA|(refine hE _ _ ?_ ?_;kernel_rfl)|(exact zN (by omega))|skip
   all_goals clear hE E
   all_goals first|(refine hK _ ?_;clear hK K)|(simp only [push_cast];done)
   all_goals refine zU rfl (fun hc=> ?_) (fun hc=> ?_)
   all_goals(first|(cases hc;done)|skip)
   all_goals(try simp only [push_cast]at hc)
   all_goals first
    |(
      refine zV ?_
      (try simp only [zR,zS,reduceIte,zF]);refine hK4 _ ?_
      refine zM zQ zO [] rfl ?_
      all_goals push_cast [↓zK,↓zJ]
      all_goals repeat'(first|(apply zP<;>(intro hg;(try simp only [push_cast]at hg)))|(refine⟨_,hA,?_⟩;push_cast [↓zK,↓zJ])|(refine⟨_,hS,?_⟩;push_cast [↓zK,↓zJ])|(refine⟨_,hV _,?_⟩;push_cast [↓zK,↓zJ])|(refine⟨_,yO (gl a.next _) _ (hr _),?_⟩;push_cast [↓zK,↓zJ])|apply And.intro|(intro hg;(try simp only [push_cast]at hg)))
      all_goals first|exact gA|(exact zN (by omega))|skip
      refine hL0 _ ⟨k+1,⟨by omega,fun j hj=>(by
        by_cases hjk:j=k
        ·subst hjk;omega
        ·exact hall j (by omega)),fun j h1 hj=>(by
        by_cases hjk:j=k
        ·subst hjk;first|assumption|(exfalso;omega)
        ·exact hall2 j h1 (by omega))⟩,by omega,?_⟩
      refine zX rfl ?_ ?_ ?_<;>push_cast [zg,zf,↓zK,↓zJ]
      done)
    |(
      refine zL fun K hK=> ?_
      refine zM zQ zO [] rfl ?_
      all_goals push_cast [↓zK,↓zJ]
      all_goals repeat'(first|(apply zP<;>(intro hg;(try simp only [push_cast]at hg)))|(refine⟨_,hA,?_⟩;push_cast [↓zK,↓zJ])|(refine⟨_,hS,?_⟩;push_cast [↓zK,↓zJ])|(refine⟨_,hV _,?_⟩;push_cast [↓zK,↓zJ])|(refine⟨_,yO (gl a.next _) _ (hr _),?_⟩;push_cast [↓zK,↓zJ])|apply And.intro|(intro hg;(try simp only [push_cast]at hg)))
      all_goals first|exact gA|(exact zN (by omega))|skip
      all_goals first|(refine hK _ ?_;clear hK K)|(simp only [push_cast];done)
      refine zc ?_
      (try simp only [zR,zS])
      refine⟨Or.inl rfl,?_⟩
      push_cast [zi,↓zK,↓zJ]
      symm
      rw [Bool.eq_false_iff,ne_eq,Bool.and_eq_true,VQ]
      rintro⟨h0,h1,h2,h3⟩
      first|(have :=h2 k (by omega);omega)|(have :=h3 k (by omega) (by omega);rw [show zn _ _=false from by assumption]at this;cases this)
      done)
  ·
   refine zm ?_
   (try simp only [zR,zS,reduceIte,zF]);refine hK2 _ ?_
   refine zL fun K hK=> ?_
   refine zM zQ zO [] rfl ?_
   all_goals push_cast [↓zK,↓zJ]
   all_goals repeat'(first|(apply zP<;>(intro hg;(try simp only [push_cast]at hg)))|(refine⟨_,hA,?_⟩;push_cast [↓zK,↓zJ])|(refine⟨_,hS,?_⟩;push_cast [↓zK,↓zJ])|(refine⟨_,hV _,?_⟩;push_cast [↓zK,↓zJ])|(refine⟨_,yO (gl a.next _) _ (hr _),?_⟩;push_cast [↓zK,↓zJ])|apply And.intro|(intro hg;(try simp only [push_cast]at hg)))
   all_goals first|exact gA|(exact zN (by omega))|skip
   all_goals first|(refine hK _ ?_;clear hK K)|(simp only [push_cast];done)
   refine zc ?_
   (try simp only [zR,zS])
   refine⟨Or.inl rfl,?_⟩
   push_cast [zi,↓zK,↓zJ]
   symm
   rw [hok,Bool.true_and]
   exact VQ.2 ⟨by omega,fun j hj=>hall j (by omega),fun j h1 hj=>hall2 j h1 (by omega)⟩
def stepC (w:Wt)(v u:Int):Int:=if zn (gl w.a.next v.toNat) u=true then zHi w v.toNat u else 0
def zKr (xs:List Int)(t:Int)(i:Nat):Int:=if i+1<xs.length then gi xs (i+1)else t
def along (w:Wt)(xs:List Int)(t:Int):List Int:=(List.range xs.length).map fun i=>stepC w (gi xs i) (zKr xs t i)
end Go.Proofs.Ytggpbepdeilpgaa
