/- a play of a memory strategy: plain -/
import Derived.Test.YthepmdkpbjfdcaaB7ztm
import Derived.Test.YthepmdkpbjfdcaaGDztm
import Derived.Test.YthepmdkpbjfdcaaB6ztm
import Derived.Shelf.SortG.Plain
import Derived.Shelf.SortG.SortNone
import Derived.Test.YthepmdkpbjfdcaaProg
import Derived.Sort.OwnSortedInts
import Derived.Test.YthepmdkpbjfdcaaGEztm
import Derived.Lib.SliceRun
import Derived.ArgAppend
import Derived.MapKept
namespace Go.Proofs.Ythepmdkpbjfdcaa
open Go.RowKit
set_option linter.unusedVariables false
set_option linter.unusedSimpArgs false
structure uZ (a:Ar)(m:Me)(path st:List Int)(v s:Int):Prop where
 len:st.length=path.length
 rg: ∀j,j<path.length→(0≤gi path j∧gi path j<a.owner.length)∧0≤gi st j∧gi st j<m.next.length
 ne: ∀j,j<path.length→∀i,i<j→¬(gi path i=gi path j∧gi st i=gi st j)
 hv:0≤v∧v<a.owner.length
 hs:0≤s∧s<m.next.length
theorem uZ.next {a:Ar}{m:Me}{path st:List Int}{v s:Int}(h:uZ a m path st v s)(hno: ∀j,j<path.length→¬(gi path j=v∧gi st j=s)){v' s':Int}(hv:0≤v'∧v'<a.owner.length)(hs:0≤s'∧s'<m.next.length):uZ a m (path++ [v]) (st++ [s]) v' s':=by
 have hl:=h.len
 refine⟨by simp [hl],fun j hj=> ?_,fun j hj i hi=> ?_,hv,hs⟩
 ·rw [List.length_append]at hj
  have hj:j<path.length+1:=hj
  rw [vK hj,vK (by omega),hl]
  split
  ·exact⟨h.hv,h.hs⟩
  ·exact h.rg j (by omega)
 ·rw [List.length_append]at hj
  have hj:j<path.length+1:=hj
  have e1:gi (path++ [v]) i=gi path i:=we (by omega)
  have e2:gi (st++ [s]) i=gi st i:=we (by omega)
  rw [e1,e2]
  by_cases e:j=path.length
  ·subst e
   rw [Zi]
   have e3:gi (st++ [s]) path.length=s:=by rw [←hl];exact Zi
   rw [e3]
   exact hno i (by omega)
  ·have e3:gi (path++ [v]) j=gi path j:=we (by omega)
   have e4:gi (st++ [s]) j=gi st j:=we (by omega)
   rw [e3,e4]
   exact h.ne j (by omega) i hi
theorem xg {a:Ar}{m:Me}(h:vU a m=true):(1≤m.next.length∧m.next.length≤24∧m.choice.length=m.next.length)∧∀s,s<m.next.length→(gl m.next s).length=a.owner.length∧vO a 0 (gl m.choice s)=true∧∀v,v<(gl m.next s).length→0≤gi (gl m.next s) v∧gi (gl m.next s) v<m.next.length:=by
 unfold vU at h
 rw [Bool.and_eq_true,decide_eq_true_eq]at h
 refine⟨h.1,fun s hs=> ?_⟩
 have h2:=vi (p:=fun s=>qL a (gl m.next s) (gl m.choice s) m.next.length) h.2 hs
 unfold qL at h2
 rw [Bool.and_eq_true,Bool.and_eq_true,decide_eq_true_eq]at h2
 exact⟨h2.1,h2.2.1,fun v hv=>of_decide_eq_true (vi (p:=fun v=>decide (0≤gi (gl m.next s) v∧gi (gl m.next s) v<(m.next.length:Int))) h2.2.2 hv)⟩
structure Plc where
 at_:Int
 record:List Int
 deriving DecidableEq
def dPlc (x:Plc):List D:= [.int .i64 x.at_,DI x.record]
def Plc.tot (x:Plc):Nat:=x.record.length
structure Plc.Ln (B:Nat)(x:Plc):Prop where
 record:LnI B x.record
theorem Plc.ln_of {B:Nat}{x:Plc}(h:x.tot≤B):x.Ln B:=by
 unfold Plc.tot at h
 exact⟨wZ (by omega)⟩
def yd (ps:List Plc):List D:=ps.flatMap dPlc
def gq (ps:List Plc)(k:Nat):Plc:=ps.getD k ⟨0,[]⟩
theorem qw (p:Plc)(ps:List Plc):yd (p::ps)= .int .i64 p.at_::DI p.record::yd ps:=rfl
theorem m2q (n:Nat):n*2 / 2=n:=by omega
theorem jY (ps:List Plc):(yd ps).length=ps.length*2:=by
 induction ps with
 |nil=>rfl
 |cons p ps ih=>rw [qw,List.length_cons,List.length_cons,ih,List.length_cons];omega
theorem zAz (ps qs:List Plc):yd (ps++qs)=yd ps++yd qs:=List.flatMap_append ..
theorem JS (ps:List Plc)(x:Int)(r:List Int):yd ps++ [D.int .i64 x,D.lst 2 (dI r)]=yd (ps++ [⟨x,r⟩]):=by rw [zAz];rfl
theorem UU (ps:List Plc):(yd ps).take (ps.length*2)=yd ps:=List.take_of_length_le (by rw [jY];exact Nat.le_refl _)
theorem WA {ps:List Plc}{k:Nat}(h:k<ps.length):ps[k]? =some (gq ps k):=by
 unfold gq
 rw [List.getD_eq_getElem?_getD,List.getElem?_eq_getElem h]
 rfl
theorem zBr {ps:List Plc}{k:Nat}(h:ps.length≤k):gq ps k=⟨0,[]⟩:=by
 unfold gq
 rw [List.getD_eq_getElem?_getD,List.getElem?_eq_none h]
 rfl
theorem qC {ps:List Plc}{k:Nat}(h:k<ps.length):gq ps k∈ps:=List.mem_of_getElem? (WA h)
theorem VX {ps:List Plc}{k:Nat}(h:k<ps.length):ps.take (k+1)=ps.take k++ [gq ps k]:=by rw [List.take_add_one,WA h];rfl
theorem jH (ps:List Plc)(k:Nat):(yd ps)[k*2]? =if k<ps.length then some (.int .i64 (gq ps k).at_)else none:=by
 induction ps generalizing k with
 |nil=>rfl
 |cons p ps ih=>
  cases k with
  |zero=>rfl
  |succ k=>
   rw [show(k+1)*2=k*2+1+1 from by omega,qw,List.getElem?_cons_succ,List.getElem?_cons_succ,ih,List.length_cons]
   simp only [gq,List.getD_cons_succ]
   split<;>split<;>first|rfl|omega
theorem Yt (ps:List Plc)(k:Nat):(yd ps)[k*2+1]? =if k<ps.length then some (DI (gq ps k).record)else none:=by
 induction ps generalizing k with
 |nil=>rfl
 |cons p ps ih=>
  cases k with
  |zero=>rfl
  |succ k=>
   rw [show(k+1)*2+1=k*2+1+1+1 from by omega,qw,List.getElem?_cons_succ,List.getElem?_cons_succ,ih,List.length_cons]
   simp only [gq,List.getD_cons_succ]
   split<;>split<;>first|rfl|omega
theorem Uz (ps:List Plc)(k:Nat):Yw (yd ps) (k*2)=(gq ps k).at_:=by
 unfold Yw
 rw [jH]
 by_cases h:k<ps.length
 ·rw [if_pos h]
 ·rw [if_neg h,zBr (by omega)]
theorem zAA (ps:List Plc)(k:Nat):yq (yd ps) (k*2+1)=dI (gq ps k).record:=by
 unfold yq
 rw [Yt]
 by_cases h:k<ps.length
 ·rw [if_pos h]
 ·rw [if_neg h,zBr (by omega)];rfl
theorem zR {ps:List Plc}{k:Nat}(h:k<ps.length):xv (yd ps) (k*2+1)=2:=by
 unfold xv
 rw [Yt,if_pos h]
theorem uX (ps:List Plc)(k:Nat):xE (.int .i64) (yd ps) (k*2)=(k<ps.length):=by
 unfold xE
 rw [jH]
 apply propext
 constructor
 ·rintro⟨n,h⟩;split at h;assumption;cases h
 ·intro h;rw [if_pos h];exact⟨_,rfl⟩
theorem uY (ps:List Plc)(k:Nat):xE (.sl 2) (yd ps) (k*2+1)=(k<ps.length):=by
 unfold xE
 rw [Yt]
 apply propext
 constructor
 ·rintro⟨n,h⟩;split at h;assumption;cases h
 ·intro h;rw [if_pos h];exact⟨_,rfl⟩
theorem kc (ps:List Plc)(k:Nat):zf (yd ps) [k*2+1]=(k<ps.length):=by
 unfold zf
 rw [Yt]
 apply propext
 constructor
 ·rintro⟨e,ys,h,-⟩;split at h;assumption;cases h
 ·intro h;rw [if_pos h];exact⟨_,_,rfl,trivial⟩
theorem zAY (ps:List Plc)(k:Nat)(n:Int):(yd ps).set (k*2) (.int .i64 n)=yd (ps.set k ⟨n,(gq ps k).record⟩):=by
 induction ps generalizing k with
 |nil=>simp [yd]
 |cons p ps ih=>
  cases k with
  |zero=>rfl
  |succ k=>rw [show(k+1)*2=k*2+1+1 from by omega,qw,List.set_cons_succ,List.set_cons_succ,ih,List.set_cons_succ,qw];rfl
theorem zAZ (ps:List Plc)(k:Nat)(r:List Int):(yd ps).set (k*2+1) (.lst 2 (dI r))=yd (ps.set k ⟨(gq ps k).at_,r⟩):=by
 induction ps generalizing k with
 |nil=>simp [yd]
 |cons p ps ih=>
  cases k with
  |zero=>rfl
  |succ k=>rw [show(k+1)*2+1=k*2+1+1+1 from by omega,qw,List.set_cons_succ,List.set_cons_succ,ih,List.set_cons_succ,qw];rfl
attribute [push_cast] m2q jY UU JS Uz zAA uX uY kc zAY zAZ
def QLn (B:Nat)(ps:List Plc):Prop:=ps.length≤B∧∀p∈ps,p.record.length≤B
theorem zBQ :min 1 64=1:=rfl
theorem pow_1 :(2:Int)^1=2:=rfl
attribute [push_cast] zBQ pow_1
theorem zBk {xs:List Int}{k:Nat}(h:k<xs.length):xs.take (k+1)=xs.take k++ [gi xs k]:=by rw [List.take_add_one,vJ h];rfl
theorem zAB {xs:List Int}{k:Nat}(h:k<xs.length):gi xs k∈xs:=List.mem_of_getElem? (vJ h)
open Nat renaming reduceMod → zA, reduceMul → zB, reduceDiv → zC, reduceAdd → zD, reduceSub → zE, reduceEqDiff → zF, reduceBEq → zG, reduceLT → zH, reduceLeDiff → zI
open Go.Shelf
open Go Go.RowKit Go.Sort
def yO (u:Int)(r:List Int)(p:Plc):Bool:=decide (p.at_=u)&&decide (p.record=r)
theorem Jx {u:Int}{r:List Int}{p:Plc}(h: ¬p.at_=u):yO u r p=false:=by unfold yO;rw [decide_eq_false h];rfl
theorem Jy {u:Int}{r:List Int}{p:Plc}(h: ¬p.record=r):yO u r p=false:=by unfold yO;rw [decide_eq_false h,Bool.and_false]
theorem Zp {u:Int}{r:List Int}{p:Plc}(h:p.at_=u)(h2:p.record=r):yO u r p=true:=by unfold yO;rw [decide_eq_true h,decide_eq_true h2];rfl
def ixQ (p:Plc→Bool)(ps:List Plc):Int:=if ps.findIdx p<ps.length then ps.findIdx p else -1
theorem zDh {ps:List Plc}{k:Nat}(h:k<ps.length):ps[k]=gq ps k:=by
 have :=WA h
 rw [List.getElem?_eq_getElem h]at this
 exact Option.some.inj this
def KX (r:List Int)(s:List Plc×List Int)(u:Int):List Plc×List Int:=if ixQ (yO u r) s.1<0 then(s.1++ [⟨u,r⟩],s.2++ [(s.1.length:Int)])else(s.1,s.2++ [ixQ (yO u r) s.1])
def zi (r us:List Int)(ps:List Plc)(k:Nat):List Plc×List Int:=(us.take k).foldl (KX r) (ps,[])
theorem Xx (r us:List Int)(ps:List Plc):zi r us ps 0=(ps,[]):=rfl
theorem zAV {r us:List Int}{ps:List Plc}{k:Nat}(h:k<us.length):zi r us ps (k+1)=KX r (zi r us ps k) (gi us k):=by
 unfold zi
 rw [zBk h,List.foldl_append]
 rfl
theorem vA {r us:List Int}{ps:List Plc}{k:Nat}(h:k<us.length)(h2:ixQ (yO (gi us k) r) (zi r us ps k).1<0):zi r us ps (k+1)=((zi r us ps k).1++ [⟨gi us k,r⟩],(zi r us ps k).2++ [((zi r us ps k).1.length:Int)]):=by
 rw [zAV h];unfold KX;rw [if_pos h2]
theorem vB {r us:List Int}{ps:List Plc}{k:Nat}(h:k<us.length)(h2: ¬ixQ (yO (gi us k) r) (zi r us ps k).1<0):zi r us ps (k+1)=((zi r us ps k).1,(zi r us ps k).2++ [ixQ (yO (gi us k) r) (zi r us ps k).1]):=by
 rw [zAV h];unfold KX;rw [if_neg h2]
theorem ZW {r us:List Int}{ps:List Plc}: ∀{k:Nat},k≤us.length→(zi r us ps k).2.length=k∧ps.length≤(zi r us ps k).1.length∧(zi r us ps k).1.length≤ps.length+k
 |0,_=>by rw [Xx];exact⟨rfl,Nat.le_refl _,Nat.le_refl _⟩
 |k+1,h=>by
  have h1:=ZW (r:=r) (us:=us) (ps:=ps) (k:=k) (by omega)
  by_cases h2:ixQ (yO (gi us k) r) (zi r us ps k).1<0
  ·rw [vA (by omega) h2];simp only [List.length_append,List.length_cons,List.length_nil];omega
  ·rw [vB (by omega) h2];simp only [List.length_append,List.length_cons,List.length_nil];omega
theorem zAE (p:Plc→Bool)(ps:List Plc): -1≤ixQ p ps∧ixQ p ps<ps.length:=by unfold ixQ;split<;>omega
theorem XN {r us:List Int}{ps:List Plc}{O:Plc→Prop}(h0: ∀p∈ps,O p)(h1: ∀u∈us,O ⟨u,r⟩): ∀{k:Nat},k≤us.length→∀p∈(zi r us ps k).1,O p
 |0,_,p,hp=>h0 p hp
 |k+1,h,p,hp=>by
  by_cases h2:ixQ (yO (gi us k) r) (zi r us ps k).1<0
  ·rw [vA (by omega) h2,List.mem_append]at hp
   rcases hp with hp|hp
   ·exact XN h0 h1 (by omega) p hp
   ·rw [List.mem_singleton]at hp;subst hp;exact h1 _ (zAB (by omega))
  ·rw [vB (by omega) h2]at hp
   exact XN h0 h1 (by omega) p hp
section
variable (us rc:Plc→List Int) (p0:Plc)
def stQ :Nat→List Plc
 |0=> [p0]
 |i+1=>if i<(stQ i).length then(zi (rc (gq (stQ i) i)) (us (gq (stQ i) i)) (stQ i) (us (gq (stQ i) i)).length).1 else stQ i
def rowQ (i k:Nat):List Plc×List Int:=zi (rc (gq (stQ us rc p0 i) i)) (us (gq (stQ us rc p0 i) i)) (stQ us rc p0 i) k
def plQ (i:Nat):Plc:=gq (stQ us rc p0 i) i
end
variable {us rc:Plc→List Int} {p0:Plc}
theorem US {i:Nat}(h:i<(stQ us rc p0 i).length):stQ us rc p0 (i+1)=(rowQ us rc p0 i (us (plQ us rc p0 i)).length).1:=by
 show(if i<(stQ us rc p0 i).length then _ else _)=_
 rw [if_pos h];rfl
theorem VV {i:Nat}(h: ¬i<(stQ us rc p0 i).length):stQ us rc p0 (i+1)=stQ us rc p0 i:=by
 show(if i<(stQ us rc p0 i).length then _ else _)=_
 rw [if_neg h]
theorem zBd {i:Nat}(h: ¬i<(stQ us rc p0 i).length){j:Nat}(hj:i≤j):stQ us rc p0 j=stQ us rc p0 i:=by
 induction j with
 |zero=>
      have :i=0:=by omega
      subst this;rfl
 |succ j ih=>
  rcases Nat.lt_or_ge j i with h1|h1
  ·have :i=j+1:=by omega
   subst this;rfl
  ·have h2:=ih h1
   rw [VV (by rw [h2];omega),h2]
theorem QX {O:Plc→Prop}(h0:O p0)(h1: ∀p,O p→∀u∈us p,O ⟨u,rc p⟩): ∀i,∀p∈stQ us rc p0 i,O p
 |0,p,hp=>by rw [show stQ us rc p0 0= [p0]from rfl,List.mem_singleton]at hp;subst hp;exact h0
 |i+1,p,hp=>by
  by_cases h:i<(stQ us rc p0 i).length
  ·rw [US h]at hp
   refine XN (O:=O) (QX h0 h1 i) (fun u hu=>h1 _ (QX h0 h1 i _ (qC h)) u hu) (Nat.le_refl _) p hp
  ·rw [VV h]at hp
   exact QX h0 h1 i p hp
section
variable {P:Program} {τ:Ty} {lo:Nat} {w0:Fz} {st:St} {a:Act} {w:World}
end
section
variable {P:Program} {τ:Ty} {lo:Nat} {w0:Fz} {st:St} {w:World} {rr:List (Nat×zn)} {bb bb':List (Nat×List AV)} {hd:Nat→Value} {bk bk':Nat→Nat} {t T:Nat}
end
section
variable {P:Program} {np:Bool} {τ:Ty} {lo:Nat} {w0:Fz} {ow:Nat→Option Pl} {hd:Nat→Value} {bk:Nat→Nat} {st:St} {a:Act} {w:World}
end
section
variable {P:Program} {np:Bool} {τ:Ty} {lo:Nat} {w0:Fz} {ow:Nat→Option Pl} {hd:Nat→Value} {bk:Nat→Nat} {st:St} {a:Act} {w:World}
end
attribute [push_cast] ZX
section
variable {P:Program} {all:List Oper} {T:List (List Nat)} {c:Nat} {Q':Exit→Act→World→Prop}
end
section
variable {P:Program} {τ:Ty} {lo:Nat} {w0:Fz} {st:St} {a:Act} {w:World}
variable {np:Bool} {ow:Nat→Option Pl} {hd:Nat→Value} {bk:Nat→Nat} {st':St}
end
section
variable {P:Program} {τ:Ty} {lo:Nat} {w0:Fz} {ow:Nat→Option Pl} {hd:Nat→Value} {bk:Nat→Nat} {st:St} {a:Act} {w:World}
end
section
variable {P:Program} {τ:Ty} {lo:Nat} {w0:Fz} {ow:Nat→Option Pl} {hd:Nat→Value} {bk:Nat→Nat} {st:St} {a:Act} {w:World}
end
section
variable {P:Program} {τ:Ty} {lo:Nat} {w0:Fz} {ow:Nat→Option Pl} {hd:Nat→Value} {bk:Nat→Nat} {st:St} {a:Act} {w:World}
end
abbrev MD :=List ((Int×Int)×Int)
def mapE (x:(Int×Int)×Int)(i:Nat):MapEntry:={key:= .agg #[.int .i64 x.1.1, .int .i64 x.1.2],val:= .int .i64 x.2,born:=i}
def wn :MD→Nat→List MapEntry
 | [],_=> []
 |x::xs,i=>mapE x i::wn xs (i+1)
def qf (m:MD):Obj:= .map (wn m 0).toArray m.length
theorem jf : ∀(m:MD) (x:(Int×Int)×Int) (i:Nat),wn (m++ [x]) i=wn m i++ [mapE x (i+m.length)]
 | [],x,i=>rfl
 |y::m,x,i=>by
  simp only [List.cons_append,wn,jf m x (i+1),List.length_cons,List.cons.injEq,true_and]
  rw [show i+1+m.length=i+(m.length+1) by omega]
def lkM :MD→Int×Int→Option Int
 | [],_=>none
 |x::m,k=>if k=x.1 then some x.2 else lkM m k
def ixM :MD→Int×Int→Nat→Nat
 | [],_,i=>i
 |x::m,k,i=>if k=x.1 then i else ixM m k (i+1)
structure ya (P:Program)(ta te tm:TypeId):Prop where
 ua:P.underlying ta=some (.array 2 te)
 ue:P.underlying te=some (.int .i64)
 um:P.underlying tm=some (.map ta te)
 ia: ∃i,P.info? ta=some i∧i.size=2∧i.zero=some (.agg #[.int .i64 0, .int .i64 0])
 ie: ∃i,P.info? te=some i∧i.size=1∧i.zero=some (.int .i64 0)
section
variable {P:Program} {ta te tm:TypeId} {w:World}
theorem ya.agg (h:ya P ta te tm):(isAgg ta).run P w= .ok true w:=by
 unfold isAgg
 rw [Sem.run_bind,run_underlying h.ua,Result.andThen_ok]
 simp
theorem ya.eagg (h:ya P ta te tm):(isAgg te).run P w= .ok false w:=by
 unfold isAgg
 rw [Sem.run_bind,run_underlying h.ue,Result.andThen_ok]
 simp
theorem ya.size (h:ya P ta te tm):(sizeOf ta).run P w= .ok 2 w:=by
 obtain⟨i,hi,h1,-⟩:=h.ia
 simp [sizeOf,typeInfo,hi,h1]
theorem ya.esize (h:ya P ta te tm):(sizeOf te).run P w= .ok 1 w:=by
 obtain⟨i,hi,h1,-⟩:=h.ie
 simp [sizeOf,typeInfo,hi,h1]
theorem ya.zero (h:ya P ta te tm):(zeroValue ta).run P w= .ok (.agg #[.int .i64 0, .int .i64 0]) w:=by
 obtain⟨i,hi,-,h1⟩:=h.ia
 simp [zeroValue,typeInfo,hi,h1]
theorem ya.ezero (h:ya P ta te tm):(zeroValue te).run P w= .ok (.int .i64 0) w:=by
 obtain⟨i,hi,-,h1⟩:=h.ie
 simp [zeroValue,typeInfo,hi,h1]
theorem ya.part (h:ya P ta te tm){xs:Array Value}{i:Nat}{v:Value}(hx:xs[i]? =some v):(part te xs i).run P w= .ok v w:=by
 unfold Go.part
 rw [Sem.run_bind,h.eagg,Result.andThen_ok]
 simp [hx]
theorem ya.echeck (h:ya P ta te tm)(em:Bool)(n:Nat)(k:IntKind)(x:Int):(Instr.checkKey em (n+1) te (.int k x)).run P w= .ok () w:=by
 unfold Instr.checkKey
 rw [Sem.run_bind,run_underlying h.ue,Result.andThen_ok]
 simp
theorem ya.check (h:ya P ta te tm)(em:Bool)(a b:Int):(Instr.checkKey em 10000 ta (.agg #[.int .i64 a, .int .i64 b])).run P w= .ok () w:=by
 rw [show(10000:Nat)=9999+1 from rfl]
 unfold Instr.checkKey
 rw [Sem.run_bind,run_underlying h.ua,Result.andThen_ok]
 have p0:=h.part (w:=w) (i:=0) (v:= .int .i64 a) (xs:= #[.int .i64 a, .int .i64 b]) rfl
 have p1:=h.part (w:=w) (i:=1) (v:= .int .i64 b) (xs:= #[.int .i64 a, .int .i64 b]) rfl
 have c0:=h.echeck (w:=w) em 9998 .i64 a
 have c1:=h.echeck (w:=w) em 9998 .i64 b
 have es:=h.esize (w:=w)
 simp [show List.range' 0 2= [0,1]from rfl,Sem.run_bind,es,p0,p1,c0,c1,Result.andThen]
theorem ya.eq (h:ya P ta te tm)(a b c d:Int):(Op.equal ta (.agg #[.int .i64 a, .int .i64 b]) (.agg #[.int .i64 c, .int .i64 d])).run P w= .ok (decide ((a,b)=(c,d))) w:=by
 unfold Op.equal
 rw [show Op.maxDepth=9998+1+1 from rfl]
 unfold Op.equalIn
 rw [Sem.run_bind,run_underlying h.ua,Result.andThen_ok]
 have h1: ∀x y:Int,(Op.equalIn (9998+1) te (.int .i64 x) (.int .i64 y)).run P w= .ok (x==y) w:=fun x y=>run_equalIn_int w 9998 te .i64 .i64 x y h.ue
 simp [h.esize,h.part (i:=0) (v:= .int .i64 a) (xs:= #[.int .i64 a, .int .i64 b]) rfl,h.part (i:=1) (v:= .int .i64 b) (xs:= #[.int .i64 a, .int .i64 b]) rfl,h.part (i:=0) (v:= .int .i64 c) (xs:= #[.int .i64 c, .int .i64 d]) rfl,h.part (i:=1) (v:= .int .i64 d) (xs:= #[.int .i64 c, .int .i64 d]) rfl,h1,Result.andThen,show List.range' 0 2= [0,1]from rfl]
 have p1:=h.part (w:=w) (i:=1) (v:= .int .i64 b) (xs:= #[.int .i64 a, .int .i64 b]) rfl
 have p2:=h.part (w:=w) (i:=1) (v:= .int .i64 d) (xs:= #[.int .i64 c, .int .i64 d]) rfl
 have h2:(Op.equalIn 9999 te (.int .i64 b) (.int .i64 d)).run P w= .ok (b==d) w:=h1 b d
 by_cases hac:a=c
 ·subst hac
  by_cases hbd:b=d
  ·subst hbd
   rw [beq_self_eq_true]at h2
   simp [Sem.run_bind,p1,h2,Result.andThen]
  ·rw [beq_eq_false_iff_ne.2 hbd]at h2
   simp [Sem.run_bind,p1,p2,h2,hbd,Result.andThen]
 ·simp [hac,Sem.run_bind,Result.andThen]
theorem ya.asks (h:ya P ta te tm)(k:Int×Int): ∀(m:MD) (i j:Nat),(Instr.findAsking ta (.agg #[.int .i64 k.1, .int .i64 k.2]) (wn m j) i).run P w= .ok ((lkM m k).map fun v=>(ixM m k i, .int .i64 v)) w
 | [],i,j=>by simp [Instr.findAsking,wn,lkM]
 |x::m,i,j=>by
  simp only [wn,Instr.findAsking,mapE]
  rw [Sem.run_bind,h.eq,Result.andThen_ok]
  simp only [lkM,ixM]
  by_cases e:k=x.1
  ·have :((k.1,k.2):Int×Int)=(x.1.1,x.1.2):=e
   rw [decide_eq_true this,if_pos e,if_pos e]
   simp
  ·have : ¬((k.1,k.2):Int×Int)=(x.1.1,x.1.2):=e
   rw [decide_eq_false this,if_neg e,if_neg e]
   simp only [Bool.false_eq_true,if_false]
   exact h.asks k m (i+1) (j+1)
theorem ya.finds (h:ya P ta te tm)(k:Int×Int)(m:MD)(j:Nat):(Instr.findKey ta (.agg #[.int .i64 k.1, .int .i64 k.2]) (wn m j)).run P w= .ok ((lkM m k).map fun v=>(ixM m k 0, .int .i64 v)) w:=by
 unfold Instr.findKey
 rw [Sem.run_bind,run_underlying h.ua,Result.andThen_ok]
 cases m with
 |nil=>simp [wn,Instr.findNow,lkM]
 |cons x m=>
  have :=h.asks (w:=w) k (x::m) 0 j
  simp only [wn,Instr.findNow,Instr.sameNow]at this⊢
  exact this
theorem ya.look (h:ya P ta te tm){r:Nat}{m:MD}(hr:w.heap[r]? =some (qf m))(k:Int×Int):
  (Instr.lookup tm (.map (some r)) (.agg #[.int .i64 k.1, .int .i64 k.2]) true).run P w= .ok (.tuple #[.int .i64 ((lkM m k).getD 0), .bool (lkM m k).isSome]) w:=by
 have hf:=h.finds (w:=w) k m 0
 have hg:=MapKept.run_getObj_map (P:=P) hr
 have hc:=h.check (w:=w) (wn m 0).toArray.isEmpty k.1 k.2
 unfold Instr.lookup
 rw [Sem.run_bind,run_underlying h.um,Result.andThen_ok]
 simp only [Sem.run_bind,hg,Result.andThen_ok,Sem.run_pure,hc,hf]
 cases hl:lkM m k with
 |none=>simp [h.ezero,Sem.run_bind,Result.andThen]
 |some v=>simp [Sem.run_bind,Result.andThen]
theorem ya.upd (h:ya P ta te tm){r:Nat}{m:MD}(hr:w.heap[r]? =some (qf m))(k:Int×Int)(v:Int)(hk:lkM m k=none):
  (Instr.mapUpdate tm (.map (some r)) (.agg #[.int .i64 k.1, .int .i64 k.2]) (.int .i64 v)).run P w= .ok () {w with heap:=w.heap.setIfInBounds r (qf (m++ [(k,v)]))}:=by
 have hf:=h.finds (w:=w) k m 0
 have hg:=MapKept.run_getObj_map (P:=P) hr
 have hc:=h.check (w:=w) false k.1 k.2
 have hs:=fun o=>MapKept.run_setObj_map (P:=P) o hr
 unfold Instr.mapUpdate
 rw [Sem.run_bind,run_underlying h.um,Result.andThen_ok]
 simp only [Sem.run_bind,hg,Result.andThen_ok,hc,hf,hk,Option.map_none]
 rw [hs]
 simp [qf,jf,mapE]
end
def chM (a:Ar)(m:Me)(p:Plc):Int:=gi (gl m.choice (gi p.record 0).toNat) p.at_.toNat
def usM (a:Ar)(m:Me)(p:Plc):List Int:=if gi a.owner p.at_.toNat=0 then(if chM a m p<0 then []else [chM a m p])else gl a.next p.at_.toNat
def ntM (m:Me)(p:Plc):Int:=gi (gl m.next (gi p.record 0).toNat) p.at_.toNat
def rcM (m:Me)(p:Plc):List Int:= [ntM m p]
theorem WY {a:Ar}{m:Me}{p:Plc}(h:gi a.owner p.at_.toNat=0)(h2:chM a m p<0):usM a m p= []:=by unfold usM;rw [if_pos h,if_pos h2]
theorem Qb {a:Ar}{m:Me}{p:Plc}(h:gi a.owner p.at_.toNat=0)(h2: ¬chM a m p<0):usM a m p= [chM a m p]:=by unfold usM;rw [if_pos h,if_neg h2]
theorem Qa {a:Ar}{m:Me}{p:Plc}(h: ¬gi a.owner p.at_.toNat=0):usM a m p=gl a.next p.at_.toNat:=by unfold usM;rw [if_neg h]
def stM (a:Ar)(m:Me)(s:Int)(i:Nat):List Plc:=stQ (usM a m) (rcM m) ⟨s,[0]⟩ i
def rwM (a:Ar)(m:Me)(s:Int)(i:Nat):List Int:=(zi (rcM m (gq (stM a m s i) i)) (usM a m (gq (stM a m s i) i)) (stM a m s i) (usM a m (gq (stM a m s i) i)).length).2
def rsM (a:Ar)(m:Me)(s:Int)(n:Nat):List (List Int):=(List.range n).map (rwM a m s)
theorem uT (a:Ar)(m:Me)(s:Int)(n:Nat):(rsM a m s n).length=n:=by simp [rsM]
theorem zBx (a:Ar)(m:Me)(s:Int):rsM a m s 0= []:=rfl
theorem KV (a:Ar)(m:Me)(s:Int)(n:Nat):rsM a m s (n+1)=rsM a m s n++ [rwM a m s n]:=by simp [rsM,List.range_succ]
def mmB (a:Ar)(m:Me)(s:Int):Bool:=yn a&&vU a m&&decide (0≤s∧s<a.owner.length)
structure MmI (a:Ar)(m:Me)(s:Int):Prop where
 ar:yn a=true
 mem:vU a m=true
 st:0≤s∧s<a.owner.length
theorem zDs {a:Ar}{m:Me}{s:Int}(h:yn a=false):mmB a m s=false:=by unfold mmB;rw [h];rfl
theorem zDt {a:Ar}{m:Me}{s:Int}(h:vU a m=false):mmB a m s=false:=by unfold mmB;rw [h,Bool.and_false];rfl
theorem zAL {a:Ar}{m:Me}{s:Int}(h: ¬(0≤s∧s<a.owner.length)):mmB a m s=false:=by unfold mmB;rw [decide_eq_false h,Bool.and_false]
theorem zAM {a:Ar}{m:Me}{s:Int}(h1:yn a=true)(h2:vU a m=true)(h3:0≤s∧s<a.owner.length):mmB a m s=true:=by unfold mmB;rw [h1,h2,decide_eq_true h3];rfl
theorem WG {a:Ar}{m:Me}{s:Int}(h:mmB a m s=true):MmI a m s:=by
 unfold mmB at h
 rw [Bool.and_eq_true,Bool.and_eq_true,decide_eq_true_eq]at h
 exact⟨h.1.1,h.1.2,h.2⟩
def OkM (a:Ar)(m:Me)(p:Plc):Prop:=0≤p.at_∧p.at_<a.owner.length∧p.record= [gi p.record 0]∧0≤gi p.record 0∧gi p.record 0<m.next.length
section
variable {a:Ar} {m:Me} {s:Int}
theorem uS {xs:List Int}{n:Int}(h:vX xs n=true){u:Int}(hu:u∈xs):0≤u∧u<n:=by
 obtain⟨j,hj,rfl⟩:=List.mem_iff_getElem.1 hu
 have :=vi h hj
 unfold qz at this
 have :=of_decide_eq_true this
 have e:gi xs j=xs[j]:=by
  unfold gi
  rw [List.getD_eq_getElem?_getD,List.getElem?_eq_getElem hj]
  rfl
 rw [e]at this
 exact⟨this.1,this.2.1⟩
theorem WZ (h:MmI a m s){p:Plc}(hp:OkM a m p):(usM a m p).length≤16∧(∀u∈usM a m p,0≤u∧u<a.owner.length)∧0≤ntM m p∧ntM m p<m.next.length:=by
 obtain⟨k1,k2⟩:=xg h.mem
 obtain⟨p1,p2,p3,p4,p5⟩:=hp
 obtain⟨k3,k4,k5⟩:=k2 (gi p.record 0).toNat (by omega)
 have hv:p.at_.toNat<a.owner.length:=by omega
 obtain⟨h1,h2,h3,h4,h5⟩:=JT h.ar hv
 have h6:=k5 p.at_.toNat (by omega)
 have k7:=ZV k4
 refine⟨?_,?_,h6.1,h6.2⟩
 ·by_cases e:gi a.owner p.at_.toNat=0
  ·by_cases e2:chM a m p<0
   ·rw [WY e e2];simp
   ·rw [Qb e e2];simp
  ·rw [Qa e];exact h4
 ·intro u hu
  by_cases e:gi a.owner p.at_.toNat=0
  ·by_cases e2:chM a m p<0
   ·rw [WY e e2]at hu;cases hu
   ·rw [Qb e e2]at hu
    have hu:u=chM a m p:=by simpa using hu
    subst hu
    rcases k7.2 p.at_.toNat (by omega)with h7|⟨h7,h8⟩
    ·unfold chM at e2;omega
    ·exact uS h5 ((qX _ _).1 h8)
  ·rw [Qa e]at hu
   exact uS h5 hu
theorem qj (h:MmI a m s): ∀i,∀p∈stM a m s i,OkM a m p:=
 QX (O:=OkM a m) ⟨h.st.1,h.st.2,rfl,(by show(0:Int)≤0;decide),(by show(0:Int)<m.next.length;have :=(xg h.mem).1;omega)⟩ fun p hp u hu=>by
  obtain⟨h1,h2,h3,h4⟩:=WZ h hp
  have :=h2 u hu
  exact⟨this.1,this.2,rfl,h3,h4⟩
theorem QV (h:MmI a m s){i k:Nat}(hi:i<(stM a m s i).length)(hk:k≤(usM a m (gq (stM a m s i) i)).length): ∀p∈(zi (rcM m (gq (stM a m s i) i)) (usM a m (gq (stM a m s i) i)) (stM a m s i) k).1,OkM a m p:=
 XN (O:=OkM a m) (qj h i) (fun u hu=>by
  obtain⟨h1,h2,h3,h4⟩:=WZ h (qj h i _ (qC hi))
  have :=h2 u hu
  exact⟨this.1,this.2,rfl,h3,h4⟩) hk
theorem zCZ {p:Plc→Bool}{ps:List Plc}(h:ixQ p ps<0): ∀q∈ps,p q=false:=by
 unfold ixQ at h
 split at h
 ·omega
 ·rename_i h1
  intro q hq
  cases hb:p q with
  |false=>rfl
  |true=>exact absurd (List.findIdx_lt_length.2 ⟨q,hq,hb⟩) h1
theorem VQ {r us:List Int}{ps:List Plc}(h:ps.Nodup): ∀{k:Nat},k≤us.length→(zi r us ps k).1.Nodup
 |0,_=>h
 |k+1,hk=>by
  have ih:=VQ (r:=r) (us:=us) h (k:=k) (by omega)
  by_cases h2:ixQ (yO (gi us k) r) (zi r us ps k).1<0
  ·rw [vA (by omega) h2]
   show((zi r us ps k).1++ [_]).Nodup
   rw [List.nodup_append]
   refine⟨ih,by simp,fun x hx y hy e=> ?_⟩
   have hy2:y=⟨gi us k,r⟩:=by simpa using hy
   have h3:=zCZ h2 x hx
   rw [e,hy2,Zp (p:=⟨gi us k,r⟩) (u:=gi us k) (r:=r) rfl rfl]at h3
   cases h3
  ·rw [vB (by omega) h2];exact ih
theorem Yh {us rc:Plc→List Int}{p0:Plc}: ∀i,(stQ us rc p0 i).Nodup
 |0=>by show [p0].Nodup;simp
 |i+1=>by
  have ih:=Yh (us:=us) (rc:=rc) (p0:=p0) i
  by_cases h:i<(stQ us rc p0 i).length
  ·rw [US h];exact VQ ih (Nat.le_refl _)
  ·rw [VV h];exact ih
theorem few8 {ps:List Plc}(h:MmI a m s)(hn:ps.Nodup)(ho: ∀p∈ps,OkM a m p):ps.length≤6144:=by
 have hal:=yc h.ar
 have k1:=(xg h.mem).1
 have hl:(ps.map fun p=>p.at_.toNat*24+(gi p.record 0).toNat).length≤6144:=by
  refine VO _ _ (List.pairwise_map.2 (List.Pairwise.imp_of_mem (fun{p q} hp hq hne e=> ?_) hn)) fun x hx=> ?_
  ·apply hne
   obtain⟨p1,p2,p3,p4,p5⟩:=ho p hp
   obtain⟨q1,q2,q3,q4,q5⟩:=ho q hq
   have e1:gi p.record 0=gi q.record 0:=by omega
   have e2:p.at_=q.at_:=by omega
   have e3:p.record=q.record:=by rw [p3,q3,e1]
   obtain⟨pa,pr⟩:=p
   obtain⟨qa,qr⟩:=q
   simp only at e2 e3
   rw [e2,e3]
  ·obtain⟨p,hp,rfl⟩:=List.mem_map.1 hx
   obtain⟨p1,p2,p3,p4,p5⟩:=ho p hp
   show p.at_.toNat*24+(gi p.record 0).toNat<6144
   omega
 simpa using hl
theorem KO (h:MmI a m s)(i:Nat):(stM a m s i).length≤6144:=few8 h (Yh i) (qj h i)
theorem Vx (h:MmI a m s){i k:Nat}(hi:i<(stM a m s i).length)(hk:k≤(usM a m (gq (stM a m s i) i)).length):(zi (rcM m (gq (stM a m s i) i)) (usM a m (gq (stM a m s i) i)) (stM a m s i) k).1.length≤6144:=few8 h (VQ (Yh i) hk) (QV h hi hk)
theorem zBq (h:MmI a m s){i:Nat}(hi:i≤6145)(h2: ¬i<(stM a m s i).length):stM a m s 6145=stM a m s i:=zBd h2 hi
theorem KW {i:Nat}(h:i<(stM a m s i).length):stM a m s (i+1)=(zi (rcM m (gq (stM a m s i) i)) (usM a m (gq (stM a m s i) i)) (stM a m s i) (usM a m (gq (stM a m s i) i)).length).1:=US h
end
def mdF :List Plc→Nat→MD
 | [],_=> []
 |p::ps,i=>((p.at_,gi p.record 0),(i:Int))::mdF ps (i+1)
theorem Wv : ∀(ps:List Plc) (p:Plc) (i:Nat),mdF (ps++ [p]) i=mdF ps i++ [((p.at_,gi p.record 0),((i+ps.length:Nat):Int))]
 | [],p,i=>rfl
 |q::ps,p,i=>by
  simp only [List.cons_append,mdF,Wv ps p (i+1),List.length_cons]
  rw [show i+1+ps.length=i+(ps.length+1) by omega]
theorem Wn (f:Plc→Bool):ixQ f []= -1:=rfl
theorem zBG (f:Plc→Bool)(p:Plc)(ps:List Plc):ixQ f (p::ps)=if f p then 0 else if ixQ f ps<0 then -1 else ixQ f ps+1:=by
 unfold ixQ
 rw [List.findIdx_cons]
 cases f p with
 |true=>simp
 |false=>
  simp only [List.length_cons,cond_false]
  by_cases e:List.findIdx f ps<ps.length
  ·rw [if_pos (by omega),if_pos e];simp;omega
  ·rw [if_neg (by omega),if_neg e];simp
theorem Wr (u t:Int): ∀(ps:List Plc) (i:Nat),(∀p∈ps,p.record= [gi p.record 0])→lkM (mdF ps i) (u,t)=if ixQ (yO u [t]) ps<0 then none else some (ixQ (yO u [t]) ps+i)
 | [],i,_=>by rw [Wn];rfl
 |p::ps,i,h=>by
  have ih:=Wr u t ps (i+1) fun q hq=>h q (List.mem_cons_of_mem _ hq)
  have hp:=h p List.mem_cons_self
  have hr:=zAE (yO u [t]) ps
  rw [zBG]
  simp only [mdF,lkM]
  by_cases e:(u,t)=(p.at_,gi p.record 0)
  ·have e1:u=p.at_:=congrArg Prod.fst e
   have e2:t=gi p.record 0:=congrArg Prod.snd e
   rw [if_pos e,Zp e1.symm (by rw [e2];exact hp)]
   simp
  ·have :yO u [t] p=false:=by
    by_cases e1:p.at_=u
    ·refine Jy fun e2=>e ?_
     have :gi p.record 0=t:=by rw [e2];rfl
     rw [this,e1]
    ·exact Jx e1
   rw [if_neg e,ih,this]
   simp only [Bool.false_eq_true,if_false]
   by_cases e3:ixQ (yO u [t]) ps<0
   ·rw [if_pos e3,if_pos e3];rfl
   ·rw [if_neg e3,if_neg e3,if_neg (by omega)]
    congr 1
    push_cast
    omega
theorem zBu {ps:List Plc}{u t:Int}(h: ∀p∈ps,p.record= [gi p.record 0])(h2:ixQ (yO u [t]) ps<0):lkM (mdF ps 0) (u,t)=none:=by rw [Wr u t ps 0 h,if_pos h2]
theorem zAI {ps:List Plc}{u t:Int}(h: ∀p∈ps,p.record= [gi p.record 0])(h2: ¬ixQ (yO u [t]) ps<0):lkM (mdF ps 0) (u,t)=some (ixQ (yO u [t]) ps):=by rw [Wr u t ps 0 h,if_neg h2];simp
def whV (n k:Nat)(ps:List Plc):List Int:=(List.range (n*k)).map fun j=>ixQ (yO ((j%n:Nat):Int) [((j / n:Nat):Int)]) ps
theorem Qc (n k:Nat)(ps:List Plc):(whV n k ps).length=n*k:=by simp [whV]
theorem Wa {n k:Nat}{ps:List Plc}{u t:Int}(hu:0≤u∧u<n)(ht:0≤t∧t<k):(t*n+u).toNat<n*k∧gi (whV n k ps) (t*n+u).toNat=ixQ (yO u [t]) ps:=by
 obtain⟨u,rfl⟩:=Int.eq_ofNat_of_zero_le hu.1
 obtain⟨t,rfl⟩:=Int.eq_ofNat_of_zero_le ht.1
 have e:((t:Int)*n+u).toNat=t*n+u:=by
  rw [show(t:Int)*n+u=((t*n+u:Nat):Int) by push_cast];exact Int.toNat_natCast _
 have h1:u<n:=by omega
 have h2:t<k:=by omega
 have h3:t*n+u<n*k:=by
  have :(t+1)*n≤k*n:=Nat.mul_le_mul_right n (by omega)
  rw [Nat.add_mul,Nat.one_mul]at this
  rw [Nat.mul_comm n k]
  omega
 rw [e]
 refine⟨h3,?_⟩
 unfold gi whV
 rw [List.getD_eq_getElem?_getD,List.getElem?_map,List.getElem?_range h3]
 show ixQ _ ps=_
 rw [show(t*n+u)%n=u by rw [Nat.mul_comm,Nat.mul_add_mod,Nat.mod_eq_of_lt h1],show(t*n+u) / n=t by rw [Nat.mul_comm,Nat.mul_add_div (by omega),Nat.div_eq_of_lt h1,Nat.add_zero]]
theorem jW (f:Plc→Bool)(p:Plc)(ps:List Plc):ixQ f (ps++ [p])=if ixQ f ps<0 then(if f p then(ps.length:Int)else -1)else ixQ f ps:=by
 unfold ixQ
 rw [List.findIdx_append,List.length_append,List.length_singleton]
 by_cases e:List.findIdx f ps<ps.length
 ·rw [if_pos e,if_pos (by omega),if_pos e,if_neg (by omega)]
 ·rw [if_neg e,if_neg e,if_pos (show(-1:Int)<0 by omega),List.findIdx_singleton]
  cases hf:f p with
  |true=>simp
  |false=>simp;omega
theorem uV {n k:Nat}{ps:List Plc}{u t:Int}(hu:0≤u∧u<n)(ht:0≤t∧t<k)(h:ixQ (yO u [t]) ps<0):(whV n k ps).set (t*n+u).toNat ps.length=whV n k (ps++ [⟨u,[t]⟩]):=by
 have hb:=(Wa (k:=k) (ps:=ps) hu ht).1
 obtain⟨u,rfl⟩:=Int.eq_ofNat_of_zero_le hu.1
 obtain⟨t,rfl⟩:=Int.eq_ofNat_of_zero_le ht.1
 have e:((t:Int)*n+u).toNat=t*n+u:=by
  rw [show(t:Int)*n+u=((t*n+u:Nat):Int) by push_cast];exact Int.toNat_natCast _
 have h1:u<n:=by omega
 rw [e]at hb⊢
 refine List.ext_getElem? fun j=> ?_
 rw [List.getElem?_set]
 unfold whV
 rw [List.length_map,List.length_range,List.getElem?_map,List.getElem?_map]
 by_cases hj:j<n*k
 ·rw [List.getElem?_range hj]
  simp only [Option.map_some,jW]
  by_cases e2:t*n+u=j
  ·subst e2
   rw [if_pos rfl,if_pos hj,show(t*n+u)%n=u by rw [Nat.mul_comm,Nat.mul_add_mod,Nat.mod_eq_of_lt h1],show(t*n+u) / n=t by rw [Nat.mul_comm,Nat.mul_add_div (by omega),Nat.div_eq_of_lt h1,Nat.add_zero]]
   rw [if_pos h,Zp (p:=⟨(u:Int),[(t:Int)]⟩) rfl rfl]
   simp
  ·rw [if_neg e2]
   have :yO ((j%n:Nat):Int) [((j / n:Nat):Int)] ⟨(u:Int),[(t:Int)]⟩=false:=by
    by_cases e3:(u:Int)=((j%n:Nat):Int)
    ·refine Jy fun e4=>e2 ?_
     have e4: [(t:Int)]= [((j / n:Nat):Int)]:=e4
     have e5:(t:Int)=((j / n:Nat):Int):=by injection e4
     have :=Nat.div_add_mod j n
     rw [Nat.mul_comm]at this
     have e6:t=j / n:=by omega
     have e7:u=j%n:=by omega
     rw [e6,e7];exact this
    ·exact Jx e3
   rw [this]
   simp only [Bool.false_eq_true,if_false]
   have :=zAE (yO ((j%n:Nat):Int) [((j / n:Nat):Int)]) ps
   split
   ·rw [show ixQ (yO ((j%n:Nat):Int) [((j / n:Nat):Int)]) ps= -1 by omega]
   ·rfl
 ·rw [List.getElem?_eq_none (l:=List.range (n*k)) (by simp;omega)]
  rw [if_neg (by omega)]
  rfl
theorem Uk (ps:List Plc)(x t:Int):yd ps++ [D.int .i64 x,D.lst 2 [D.int .i64 t]]=yd (ps++ [⟨x,[t]⟩]):=JS ps x [t]
attribute [push_cast] Uk
theorem zCW {c:List Int}{v u:Nat}{x:Int}(hv:v<c.length):gi (c.set v x) u=if u=v then x else gi c u:=by
 unfold gi
 rw [List.getD_eq_getElem?_getD,List.getD_eq_getElem?_getD,List.getElem?_set]
 by_cases e:v=u
 ·subst e;simp [hv]
 ·rw [if_neg e,if_neg (fun h=>e h.symm)]
theorem uG {c:List (List Int)}{v u:Nat}{x:List Int}(hv:v<c.length):gl (c.set v x) u=if u=v then x else gl c u:=by
 unfold gl
 rw [List.getD_eq_getElem?_getD,List.getD_eq_getElem?_getD,List.getElem?_set]
 by_cases e:v=u
 ·subst e;simp [hv]
 ·rw [if_neg e,if_neg (fun h=>e h.symm)]
theorem zBC {c:List Int}{v:Nat}(hv:v<c.length):c.set v (gi c v)=c:=by
 refine List.ext_getElem? fun i=> ?_
 rw [List.getElem?_set]
 by_cases e:v=i
 ·subst e;rw [if_pos rfl,if_pos hv,vJ hv]
 ·rw [if_neg e]
theorem zBD {c:List (List Int)}{v:Nat}(hv:v<c.length):c.set v (gl c v)=c:=by
 refine List.ext_getElem? fun i=> ?_
 rw [List.getElem?_set]
 by_cases e:v=i
 ·subst e;rw [if_pos rfl,if_pos hv,vL hv]
 ·rw [if_neg e]
theorem zCV (n:Nat)(x:Int){v:Nat}(h:v<n):gi (List.replicate n x) v=x:=by
 unfold gi;rw [List.getD_eq_getElem?_getD,List.getElem?_replicate,if_pos h];rfl
theorem uF (n:Nat)(x:List Int){v:Nat}(h:v<n):gl (List.replicate n x) v=x:=by
 unfold gl;rw [List.getD_eq_getElem?_getD,List.getElem?_replicate,if_pos h];rfl
def VA (o:List Int)(t:Int):List Int:=if yL o t then o else o++ [t]
theorem QG {o:List Int}{t:Int}(h:yL o t=true):VA o t=o:=by unfold VA;rw [h];rfl
theorem QH {o:List Int}{t:Int}(h:yL o t=false):VA o t=o++ [t]:=by unfold VA;rw [h];rfl
def tO (p:Plc):Int:=gi p.record 0
def yZ (ps:List Plc)(j:Nat):List Int:=(ps.take j).foldl (fun o p=>VA o (tO p)) []
theorem WJ (ps:List Plc):yZ ps 0= []:=rfl
theorem Ye {ps:List Plc}{j:Nat}(h:j<ps.length):yZ ps (j+1)=VA (yZ ps j) (tO (gq ps j)):=by
 unfold yZ;rw [VX h,List.foldl_append];rfl
theorem zAr {o:List Int}{t x:Int}:x∈VA o t↔x∈o∨x=t:=by
 cases h:yL o t with
 |true=>
  rw [QG h]
  have :=(qX _ _).1 h
  constructor
  ·exact Or.inl
  ·rintro(h1|rfl)
   ·exact h1
   ·exact this
 |false=>rw [QH h];simp
theorem wP {ps:List Plc}: ∀{j:Nat},j≤ps.length→∀x,x∈yZ ps j↔∃q,q<j∧tO (gq ps q)=x
 |0,_,x=>by simp [WJ]
 |j+1,h,x=>by
  rw [Ye (by omega),zAr,wP (j:=j) (by omega) x]
  constructor
  ·rintro(⟨q,h1,h2⟩|rfl)
   ·exact⟨q,by omega,h2⟩
   ·exact⟨j,by omega,rfl⟩
  ·rintro⟨q,h1,h2⟩
   rcases Nat.lt_or_ge q j with h3|h3
   ·exact .inl ⟨q,h3,h2⟩
   ·have :q=j:=by omega
    subst this;exact .inr h2.symm
theorem Wz {ps:List Plc}: ∀{j:Nat},j≤ps.length→(yZ ps j).Nodup
 |0,_=>by rw [WJ];simp
 |j+1,h=>by
  have ih:=Wz (ps:=ps) (j:=j) (by omega)
  rw [Ye (by omega)]
  cases hb:yL (yZ ps j) (tO (gq ps j))with
  |true=>rw [QG hb];exact ih
  |false=>
   rw [QH hb,List.nodup_append]
   refine⟨ih,by simp,fun x hx y hy e=> ?_⟩
   have hy:y=tO (gq ps j):=by simpa using hy
   subst hy
   have :=(qX _ _).2 (e ▸ hx)
   rw [hb]at this;cases this
theorem Yd {ps:List Plc}{j:Nat}{k:Nat}(h:j≤ps.length)(hb: ∀p∈ps,0≤tO p∧tO p<k):(yZ ps j).length≤k:=by
 have h1:=Wz h
 have h2:((yZ ps j).map Int.toNat).length≤k:=by
  refine VO _ _ (List.pairwise_map.2 (List.Pairwise.imp_of_mem (fun{x y} hx hy hne e=>hne ?_) h1)) fun x hx=> ?_
  ·obtain⟨y,hy,rfl⟩:=List.mem_map.1 hx
   obtain⟨q,q1,q2⟩:=(wP h y).1 hy
   have b1:=hb _ (qC (ps:=ps) (k:=q) (by omega))
   omega
  ·obtain⟨q,q1,q2⟩:=(wP h x).1 hx
   obtain⟨r,r1,r2⟩:=(wP h y).1 hy
   have b1:=hb _ (qC (ps:=ps) (k:=q) (by omega))
   have b2:=hb _ (qC (ps:=ps) (k:=r) (by omega))
   omega
 simpa using h2
def wO (o:List Int)(t:Int):Int:=if zz o t<o.length then zz o t else -1
theorem QR {o:List Int}{t:Int}(h:yL o t=true):wO o t=zz o t:=if_pos (of_decide_eq_true h)
theorem QS {o:List Int}{t:Int}(h:yL o t=false):wO o t= -1:=if_neg (of_decide_eq_false h)
theorem uz {o:List Int}{t u:Int}(h:yL o t=false):wO (o++ [t]) u=if u=t then(o.length:Int)else wO o u:=by
 by_cases e:u=t
 ·subst e
  rw [if_pos rfl]
  have h1:zz (o++ [u]) u=o.length:=YX (by simp) (fun j hj e2=>by
   have hj':j<o.length:=hj
   rw [we hj']at e2
   have :yL o u=true:=(qX _ _).2 (e2 ▸ List.mem_of_getElem? (vJ hj'))
   rw [h]at this;cases this) Zi
  unfold wO
  rw [h1,if_pos (by simp)]
 ·rw [if_neg e]
  cases hb:yL o u with
  |true=>
   have h0:zz o u<o.length:=of_decide_eq_true hb
   have h1:zz (o++ [t]) u=zz o u:=YX (by simp;omega) (fun j hj e2=>by
    rw [we (by omega)]at e2
    exact kT hj e2) (by rw [we h0];exact wd h0)
   rw [QR hb]
   unfold wO
   rw [h1,if_pos (by simp;omega)]
  |false=>
   have :yL (o++ [t]) u=false:=by
    cases h9:yL (o++ [t]) u with
    |false=>rfl
    |true=>
     have :=(qX _ _).1 h9
     rw [List.mem_append,List.mem_singleton]at this
     rcases this with h8|h8
     ·rw [(qX _ _).2 h8]at hb;cases hb
     ·exact absurd h8 e
   rw [QS hb,QS this]
def nbV (k:Nat)(o:List Int):List Int:=(List.range k).map fun(i:Nat)=>wO o (i:Int)
theorem uO (k:Nat)(o:List Int):(nbV k o).length=k:=by simp [nbV]
theorem nbV_0 (k:Nat):nbV k []=List.replicate k (-1):=by
 unfold nbV
 rw [List.eq_replicate_iff]
 refine⟨by simp,fun b hb=> ?_⟩
 obtain⟨i,-,rfl⟩:=List.mem_map.1 hb
 rfl
theorem ji {k:Nat}{o:List Int}{t:Int}(h:0≤t∧t<k):gi (nbV k o) t.toNat=wO o t:=by
 unfold gi nbV
 rw [List.getD_eq_getElem?_getD,List.getElem?_map,List.getElem?_range (by omega)]
 show wO o ((t.toNat:Nat):Int)=_
 rw [Int.toNat_of_nonneg h.1]
theorem zCl {k:Nat}{o:List Int}{t:Int}(h:0≤t∧t<k)(h2:yL o t=false):(nbV k o).set t.toNat o.length=nbV k (o++ [t]):=by
 refine List.ext_getElem? fun j=> ?_
 rw [List.getElem?_set]
 unfold nbV
 rw [List.length_map,List.length_range,List.getElem?_map,List.getElem?_map]
 by_cases hj:j<k
 ·rw [List.getElem?_range hj]
  simp only [Option.map_some,uz h2]
  by_cases e:t.toNat=j
  ·rw [if_pos e,if_pos (by omega),if_pos (by omega)]
  ·rw [if_neg e,if_neg (by omega)]
 ·rw [List.getElem?_eq_none (l:=List.range k) (by simp;omega),if_neg (by omega)]
  rfl
def Xy (O:List Int)(N:List (List Int))(p:Plc)(x:Int):List (List Int):=N.set (zz O (tO p)) ((gl N (zz O (tO p))).set p.at_.toNat x)
def nxT (m:Me)(O:List Int)(p:Plc):Int:=if wO O (ntM m p)>0 then wO O (ntM m p)else 0
theorem zDw {m:Me}{O:List Int}{p:Plc}(h:yL O (ntM m p)=true):nxT m O p=(zz O (ntM m p):Int):=by
 unfold nxT;rw [QR h];split<;>omega
theorem zDx {m:Me}{O:List Int}{p:Plc}(h:yL O (ntM m p)=false):nxT m O p=0:=by
 unfold nxT;rw [QS h];rfl
def trN (m:Me)(O:List Int)(n:Nat)(ps:List Plc)(j:Nat):List (List Int):=(ps.take j).foldl (fun N p=>Xy O N p (nxT m O p)) (List.replicate O.length (List.replicate n 0))
def trC (a:Ar)(m:Me)(O:List Int)(n:Nat)(ps:List Plc)(j:Nat):List (List Int):=(ps.take j).foldl (fun N p=>Xy O N p (chM a m p)) (List.replicate O.length (List.replicate n (-1)))
theorem KZ {m:Me}{O:List Int}{n:Nat}{ps:List Plc}{j:Nat}(h:j<ps.length):trN m O n ps (j+1)=Xy O (trN m O n ps j) (gq ps j) (nxT m O (gq ps j)):=by
 unfold trN;rw [VX h,List.foldl_append];rfl
theorem UX {a:Ar}{m:Me}{O:List Int}{n:Nat}{ps:List Plc}{j:Nat}(h:j<ps.length):trC a m O n ps (j+1)=Xy O (trC a m O n ps j) (gq ps j) (chM a m (gq ps j)):=by
 unfold trC;rw [VX h,List.foldl_append];rfl
theorem UY (m:Me)(O:List Int)(n:Nat)(ps:List Plc):trN m O n ps 0=List.replicate O.length (List.replicate n 0):=rfl
theorem zBz (a:Ar)(m:Me)(O:List Int)(n:Nat)(ps:List Plc):trC a m O n ps 0=List.replicate O.length (List.replicate n (-1)):=rfl
def SqN (c n:Nat)(N:List (List Int)):Prop:=N.length=c∧∀i,i<c→(gl N i).length=n
theorem kx (c n:Nat)(x:Int):SqN c n (List.replicate c (List.replicate n x)):=⟨by simp,fun i hi=>by rw [uF c _ hi];simp⟩
theorem ky {c n:Nat}{N:List (List Int)}(h:SqN c n N)(i v:Nat)(x:Int):SqN c n (N.set i ((gl N i).set v x)):=by
 refine⟨by rw [List.length_set];exact h.1,fun j hj=> ?_⟩
 by_cases hi:i<N.length
 ·rw [uG hi]
  split
  ·rename_i e;subst e;rw [List.length_set];exact h.2 _ hj
  ·exact h.2 j hj
 ·rw [List.set_eq_of_length_le (by omega)];exact h.2 j hj
theorem wk {m:Me}{O:List Int}{n:Nat}{ps:List Plc}: ∀{j:Nat},j≤ps.length→SqN O.length n (trN m O n ps j)
 |0,_=>kx _ _ _
 |j+1,h=>by rw [KZ (by omega)];exact ky (wk (by omega)) _ _ _
theorem Yj {a:Ar}{m:Me}{O:List Int}{n:Nat}{ps:List Plc}: ∀{j:Nat},j≤ps.length→SqN O.length n (trC a m O n ps j)
 |0,_=>kx _ _ _
 |j+1,h=>by rw [UX (by omega)];exact ky (Yj (by omega)) _ _ _
theorem Uw {o:List Int}{t u:Int}(h1:yL o t=true)(h2:yL o u=true)(e:zz o t=zz o u):t=u:=by
 have k1:=wd (xs:=o) (x:=t) (of_decide_eq_true h1)
 have k2:=wd (xs:=o) (x:=u) (of_decide_eq_true h2)
 rw [←k1,←k2,e]
theorem kC {m:Me}{O:List Int}{n:Nat}{ps:List Plc}{p:Plc}(hO: ∀q∈ps,yL O (tO q)=true∧0≤q.at_∧q.at_<n∧q.record= [tO q])(hp:yL O (tO p)=true∧0≤p.at_∧p.at_<n∧p.record= [tO p]): ∀{j:Nat},j≤ps.length→(∀q,q<j→gq ps q≠p)→gi (gl (trN m O n ps j) (zz O (tO p))) p.at_.toNat=0
 |0,_,_=>by
  rw [UY,uF _ _ (of_decide_eq_true hp.1),zCV _ _ (by omega)]
 |j+1,h,hne=>by
  have ih:=kC (m:=m) hO hp (j:=j) (by omega) fun q hq=>hne q (by omega)
  have hs:=wk (m:=m) (O:=O) (n:=n) (ps:=ps) (j:=j) (by omega)
  have hq:=hO (gq ps j) (qC (by omega))
  have hi:zz O (tO (gq ps j))<O.length:=of_decide_eq_true hq.1
  rw [KZ (by omega)]
  unfold Xy
  rw [uG (by rw [hs.1];exact hi)]
  split
  ·rename_i e
   have e2:=Uw hp.1 hq.1 e
   rw [zCW (by rw [hs.2 _ hi];omega)]
   split
   ·rename_i e3
    refine absurd ?_ (hne j (by omega))
    have e4:(gq ps j).at_=p.at_:=by omega
    have e5:(gq ps j).record=p.record:=by rw [hq.2.2.2,hp.2.2.2,e2]
    generalize gq ps j=q at e4 e5
    obtain⟨x,y⟩:=q
    obtain⟨x2,y2⟩:=p
    simp only at e4 e5
    rw [e4,e5]
   ·rw [←e];exact ih
  ·exact ih
theorem zAa {N:List (List Int)}{i v:Nat}(hi:i<N.length)(hv:v<(gl N i).length)(h:gi (gl N i) v=0):N.set i ((gl N i).set v 0)=N:=by
 have e:(gl N i).set v 0=gl N i:=by
  have :=zBC hv
  rw [h]at this
  exact this
 rw [e];exact zBD hi
section
variable {P:Program} {np:Bool} {τ:Ty} {lo:Nat} {w0:Fz} {ow:Nat→Option Pl} {hd:Nat→Value} {bk:Nat→Nat} {st:St} {a:Act} {w:World}
def FnE (P:Program)(τ:Ty)(f:FuncId)(args:List VT)(res:D):Prop:=
 vc P f∧∀(lo:Nat) (w:World) (ow:Nat→Option Pl) (cargs:List Value),lo≤w.heap.size→(∀b,w.heap.size≤b→ow b=none)→xZ (sz τ) lo w ow args cargs→
  Calls P f cargs.toArray w fun e w'=> ∃v,e= .returned v∧Below w.heap.size w w'∧Rp (sz τ) lo w' ow .sh res v
def wb (τ:Ty)(st:St):List AV→Option (List VT×Prop)
 | []=>some ([],True)
 | .agg us::vs=>match yP τ st us,wb τ st vs with
  |some (ds,p),some (as9,q)=>some (.agg ds::as9,p∧q)
  |_,_=>none
 |v::vs=>match cellsOf τ st v,wb τ st vs with
  |some (d,p),some (as9,q)=>some (.c d::as9,p∧q)
  |_,_=>none
def jt (st:St)(ns:List Nat):Bool:=ns.all fun n=>(n%2==0)&&(match lk st.r (n / 2)with|some R=>R.o.isSh|none=>false)
theorem UQ {ns:List Nat}(h:jt st ns=true){d:Nat}{R:zn}(hd:2*d∈ns)(hR:lk st.r d=some R):R.o= .sh:=by
 have :=List.all_eq_true.1 h _ hd
 rw [Bool.and_eq_true,show 2*d / 2=d by omega,hR]at this
 have h2:R.o.isSh=true:=this.2
 cases ho:R.o<;>rw [ho]at h2<;>first|rfl|cases h2
theorem Zg (h:zb τ lo w0 ow hd bk st a w){ow':Nat→Option Pl}(lo':Nat): ∀{vs:List AV} {xs:List Value} {ds:List D} {ob:Prop},(∀d R,2*d∈AV.nmL vs→lk st.r d=some R→∀b,b<w.heap.size→rel (md R.o d) (ow b)→ow' b=none)→zW τ w st.r st.b hd bk vs xs→yP τ st vs=some (ds,ob)→ob→RpS (sz τ) lo' w ow' ds xs
 | [],xs,ds,ob,_,hv,he,hob=>by
  simp only [yP,Option.some.injEq,Prod.mk.injEq]at he
  obtain⟨rfl,rfl⟩:=he
  simpa only [zW,RpS]using hv
 |v::vs,xs,ds,ob,hs,hv,he,hob=>by
  simp only [zW]at hv
  obtain⟨x,xs',rfl,h1,h2⟩:=hv
  simp only [yP]at he
  split at he
  ·rename_i d p ds' q e1 e2
   simp only [Option.some.injEq,Prod.mk.injEq]at he
   obtain⟨rfl,rfl⟩:=he
   simp only [RpS]
   exact⟨x,xs',rfl,qP h (fun d R hd=>hs d R (by simp only [AV.nmL,List.mem_append];exact .inl hd)) h1 e1 hob.1 lo',Zg h lo' (fun d R hd=>hs d R (by simp only [AV.nmL,List.mem_append];exact .inr hd)) h2 e2 hob.2⟩
  ·cases he
theorem ZO (h:zb τ lo w0 ow hd bk st a w){ow':Nat→Option Pl}(lo':Nat): ∀{vs:List AV} {xs:List Value} {as9:List VT} {ob:Prop},(∀d R,2*d∈AV.nmL vs→lk st.r d=some R→∀b,b<w.heap.size→rel (md R.o d) (ow b)→ow' b=none)→zW τ w st.r st.b hd bk vs xs→wb τ st vs=some (as9,ob)→ob→xZ (sz τ) lo' w ow' as9 xs
 | [],xs,as9,ob,_,hv,he,hob=>by
  simp only [wb,Option.some.injEq,Prod.mk.injEq]at he
  obtain⟨rfl,rfl⟩:=he
  simpa only [zW,xZ]using hv
 |v::vs,xs,as9,ob,hs,hv,he,hob=>by
  simp only [zW]at hv
  obtain⟨x,xs',rfl,h1,h2⟩:=hv
  have hs1: ∀d R,2*d∈v.nm→lk st.r d=some R→∀b,b<w.heap.size→rel (md R.o d) (ow b)→ow' b=none:=fun d R hd=>hs d R (by simp only [AV.nmL,List.mem_append];exact .inl hd)
  have hs2: ∀d R,2*d∈AV.nmL vs→lk st.r d=some R→∀b,b<w.heap.size→rel (md R.o d) (ow b)→ow' b=none:=fun d R hd=>hs d R (by simp only [AV.nmL,List.mem_append];exact .inr hd)
  have one:(match cellsOf τ st v,wb τ st vs with
    |some (d,p),some (as9,q)=>some (VT.c d::as9,p∧q)
    |_,_=>none)=some (as9,ob)→xZ (sz τ) lo' w ow' as9 (x::xs'):=fun he=>by
   split at he
   ·rename_i d p as9' q e1 e2
    simp only [Option.some.injEq,Prod.mk.injEq]at he
    obtain⟨rfl,rfl⟩:=he
    simp only [xZ,wG]
    exact⟨x,xs',rfl,qP h hs1 h1 e1 hob.1 lo',ZO h lo' hs2 h2 e2 hob.2⟩
   ·cases he
  cases v with
  |agg us=>
   simp only [wb]at he
   split at he
   ·rename_i ds p as9' q e1 e2
    simp only [Option.some.injEq,Prod.mk.injEq]at he
    obtain⟨rfl,rfl⟩:=he
    simp only [AvR]at h1
    obtain⟨cs,rfl,h3⟩:=h1
    simp only [xZ,wG]
    exact⟨_,xs',rfl,⟨cs,rfl,Zg h lo' (fun d R hd=>hs1 d R (by simp only [AV.nm];exact hd)) h3 e1 hob.1⟩,ZO h lo' hs2 h2 e2 hob.2⟩
   ·cases he
  |int k n=>exact one he
  |bool b=>exact one he
  |sl d p off len e=>exact one he
  |nil=>exact one he
  |ep d p i=>exact one he
  |bp t i=>exact one he
  |tup us=>exact one he
  |fn f us=>exact one he
  |dead=>exact one he
  |raw u=>exact one he
def Ve (P:Program)(τ:Ty)(o:Oper)(K:St→Prop)(st:St):Prop:=
 match zv o with
 |some (f,args,ts)=>
  match wb τ st (args.toList.map (ev st))with
  |some (as9,ob)=>ob∧jt st (AV.nmL (args.toList.map (ev st)))=true∧∃e xs,FnE P τ f as9 (.lst e xs)∧sz τ e≠0∧K ((st.addR (zX (zq o) 0) ⟨.sh,e,xs,none⟩).put o.dst (.sl (zX (zq o) 0) [] 0 (xs.length / sz τ e) e))
  |none=>False
 |none=>False
theorem Ko {o:Oper}{K:St→Prop}{Q:Exit→Act→World→Prop}{K':Act→World→Prop}(hd: ∀k,o.dst=some k→k<a.tmps.size)(h:Rel τ lo w0 st a w)(ha:Ve P τ o K st)
  (hK: ∀st' x w',K st'→Rel τ lo w0 st' (a.put o.dst x) w'→K' (a.put o.dst x) w'):o.wp P a w K' Q:=by
 obtain⟨ow,hd',bk,hr⟩:=h
 unfold Ve at ha
 split at ha
 rotate_left
 ·exact ha.elim
 rename_i f args ts hc
 split at ha
 rotate_left
 ·exact ha.elim
 rename_i as9 ob hargs
 obtain⟨hob,hsh,e,xs,⟨hcl,hcall⟩,hz,hK1⟩:=ha
 have hev:zW τ w st.r st.b hd' bk (args.toList.map (ev st)) (args.toList.map a.eval):=zj.2 ⟨by simp,fun i v x hv hx=>by
  rw [List.getElem?_map]at hv hx
  cases hk:args.toList[i]? with
  |none=>rw [hk]at hv;cases hv
  |some p=>rw [hk]at hv hx;cases hv;cases hx;exact zY hr p⟩
 have hA:=ZO hr (ow':=ow) lo (fun d R hd hR b _ hrel=>by
  rw [UQ hsh hd hR]at hrel
  exact hrel) hev hargs hob
 have hC:=hcall lo w ow _ hr.low hr.new hA
 unfold Oper.wp
 rw [Vs hr hc hcl]
 simp only [Oper.upon]
 refine hC.mono fun e' w' hpost=> ?_
 obtain⟨v,he,hbl,hrp⟩:=hpost
 subst he
 have hgrow:=Xa hr (w':=w') (ow':=ow) hbl.size (fun b hb=>⟨hbl.block b hb,rfl⟩) (hr.below.below hbl) (fun b p hle hp hne=>by rw [hr.new b hle]at hp;cases hp) (fun b hle=>hr.new b (by have :=hbl.size;omega))
 have hadd:=xN hgrow (zX (zq o) 0) ⟨.sh,e,xs,none⟩ v hrp
 refine hK _ _ w' hK1 (yj hadd hd ?_)
 have :=vQ (τ:=τ) (lo:=lo) (w:=w') (ow:=ow) (hd:=upd hd' (zX (zq o) 0) v) (bk:=bk) (rr:=(st.addR (zX (zq o) 0) ⟨.sh,e,xs,none⟩).r) (bb:=(st.addR (zX (zq o) 0) ⟨.sh,e,xs,none⟩).b) (zq o) [.lst e xs] 0 [v] rfl ⟨hz,trivial⟩ (fun i d c h1 h2=>by
  cases i with
  |zero=>simp at h1 h2;subst h1;subst h2;exact⟨_,hrp⟩
  |succ i=>simp at h1) (fun i e' xs' c h1 h2=>by
  cases i with
  |zero=>simp at h1 h2;subst h2;exact yD _ _ _
  |succ i=>simp at h1)
 simp only [yH,zW]at this
 obtain⟨x,ys,e1,h4,-⟩:=this
 cases e1
 exact h4
def QI (P:Program)(τ:Ty)(al:List Nat)(t:Nat)(K:St→Prop):List Oper→St→Prop
 | [],st=>K st
 |o::os,st=>
  match o.guard with
  |none=>if o.dst=some t then Ve P τ o (QI P τ al t K os) st else aop P τ al o (QI P τ al t K os) st
  |some (j,want)=>False
theorem Zs (hτ:zu P τ)(hpos:yR τ){al:List Nat}{t:Nat}{all:List Oper}{K:St→Prop}{Q:Exit→Act→World→Prop}(hQ: ∀st a w,K st→Rel τ lo w0 st a w→Q .normal a w):
  ∀(os:List Oper) (st:St) (a:Act) (w:World),yw a.tmps.size os=true→Rel τ lo w0 st a w→QI P τ al t K os st→wpList P all.toArray Q os a w
 | [],st,a,w,_,h,ha=>wpList_nil (hQ st a w ha h)
 |o::os,st,a,w,hd,h,ha=>by
  have hd1: ∀k,o.dst=some k→k<a.tmps.size:=fun k hk=>by
   have :=List.all_eq_true.1 hd o (by simp)
   rw [hk]at this
   simpa using this
  have hd2:yw a.tmps.size os=true:=List.all_eq_true.2 fun x hx=>List.all_eq_true.1 hd x (by simp [hx])
  refine wpList_step fun K' hK'=> ?_
  simp only [QI]at ha
  split at ha
  ·rename_i hg
   rw [if_pos (by simp [Region.wanted,hg])]
   split at ha
   ·exact Ko hd1 h ha fun st' x w' h2 h3=>hK' _ _ (Zs hτ hpos hQ os st' _ w' (by rw [xX];exact hd2) h3 h2)
   ·exact wa hτ hpos hd1 h ha fun st' x w' h2 h3=>hK' _ _ (Zs hτ hpos hQ os st' _ w' (by rw [xX];exact hd2) h3 h2)
  ·exact ha.elim
end
theorem kQ {P:Program}{τ:Ty}{Q:Exit→St→Prop}{st:St}(t:Nat)(hτ:zu P τ)(hpos:yR τ)(al:List Nat){id:Nat}{ops:List Oper}(hd:yw st.n ops=true)(h:QI P τ al t (Q .normal) ops st):awp P τ (.region id ops.toArray false) Q st:=fun lo w0 a w hr=>by
 have hn:a.tmps.size=st.n:=by obtain⟨ow,hd,bk,h⟩:=hr;exact h.size
 refine wp_region_lit (Zs hτ hpos (fun st a w h1 h2=>⟨st,h2,h1⟩) ops st a w (by rw [hn];exact hd) hr h)
attribute [push_cast] Ve QI wb jt
theorem WX (w:World)(o1 o2 o3:Obj):(((w.alloc o1).alloc o2).alloc o3).heap[w.heap.size+1+1]? =some o3:=by
 rw [show w.heap.size+1+1=((w.alloc o1).alloc o2).heap.size by simp];exact heap_alloc_new _ _
theorem QW {lo:Nat}{w:World}{ow:Nat→Option Pl}{e:TypeId}(he:sz tyT e=1){xs:List D}{v:Value}(h:Rp (sz tyT) lo w ow .sh (.lst e xs) v)(h0:xs.length≠0):
  ∃(b o c:Nat) (vs:List Value),v= .slice (some ⟨b,o,none⟩) xs.length c∧vs.length=xs.length∧b<w.heap.size∧(∀(i:Nat) (u:Value),vs[i]? =some u→w.cell? ⟨b,o+i,none⟩=some u)∧∀(i:Nat) (x:D) (u:Value),xs[i]? =some x→vs[i]? =some u→Rp (sz tyT) lo w ow .sh x u:=by
 obtain⟨vs,⟨h1,n,h2,A,c,hv,h3,h4,h5⟩,h6⟩:=(zt _ _).1 h
 rw [he,Nat.mul_one]at h2
 subst h2
 obtain⟨b,o,rfl,hb,ho,hc⟩:=h5 h0
 exact⟨b,o,c,vs,hv,h1,hb,hc,h6⟩
def GoesR (N:Nat)(w:World)(own cho:Int)(A:Option Addr)(ln cn:Nat)(e:Ending)(w':World):Prop:=Below N w w'∧
   ((own=1∧e= .returned (.slice A ln cn))∨(own≠1∧cho<0∧∃g,N≤g∧e= .returned (.slice (some ⟨g,0,none⟩) 0 0)∧w'.heap[g]? =some (.cells #[] 2 (0,0)))∨(own≠1∧¬cho<0∧∃g,N≤g∧e= .returned (.slice (some ⟨g,0,none⟩) 1 1)∧w'.heap[g]? =some (.cells #[.int .i64 cho] 2 (0,0))))
set_option maxHeartbeats 1000000 in
theorem kY {w:World}{n ns:Nat}{v s:Nat}(hv:v<n)(hn:n≤256)(hs:s<ns)(hns:ns≤24){M:Value}{b1 o1 c1 b2 o2 c2 b3 o3 c3 b4 o4 c4:Nat}{own cho:Int}{A:Option Addr}{ln cn:Nat}
  (hb1:b1<w.heap.size) (hc1:w.cell? ⟨b1,o1+v,none⟩=some (.int .i64 own)) (hb2:b2<w.heap.size) (hc2:w.cell? ⟨b2,o2+v,none⟩=some (.slice A ln cn))
  (hb3:b3<w.heap.size) (hc3:w.cell? ⟨b3,o3+s,none⟩=some (.slice (some ⟨b4,o4,none⟩) n c4)) (hb4:b4<w.heap.size) (hc4:w.cell? ⟨b4,o4+v,none⟩=some (.int .i64 cho)):
  Calls Try.prog 114 #[.agg #[.slice (some ⟨b1,o1,none⟩) n c1, .slice (some ⟨b2,o2,none⟩) n c2], .agg #[M, .slice (some ⟨b3,o3,none⟩) ns c3], .int .i64 v, .int .i64 s] w (GoesR w.heap.size w own cho A ln cn):=by
 go_enter Try.func114,Try.ntmps114
 by_cases h1:own=1
 ·subst h1
  go_wp2_with fail
  go_ret
  exact⟨by repeat(first|(with_reducible exact Below.refl _ _)|(with_reducible assumption)|(with_reducible refine Below.drew ?_)|(with_reducible refine Zx ?_ _)|((with_reducible refine Below.setCell ?_ ?_ _);rotate_left;(focus first|omega|(simp;done)|(simp;omega)))|((with_reducible refine Below.alloc ?_ ?_ _);rotate_left;(focus first|omega|(simp;done)|(simp;omega)))|(refine Below.trans ?_ (Below.mono (by assumption) (by first|omega|(simp;done)|(simp;omega))))), .inl ⟨rfl,rfl⟩⟩
 ·by_cases h2:cho<0
  ·go_wp2_with fail
   go_ret
   exact⟨by repeat(first|(with_reducible exact Below.refl _ _)|(with_reducible assumption)|(with_reducible refine Below.drew ?_)|(with_reducible refine Zx ?_ _)|((with_reducible refine Below.setCell ?_ ?_ _);rotate_left;(focus first|omega|(simp;done)|(simp;omega)))|((with_reducible refine Below.alloc ?_ ?_ _);rotate_left;(focus first|omega|(simp;done)|(simp;omega)))|(refine Below.trans ?_ (Below.mono (by assumption) (by first|omega|(simp;done)|(simp;omega))))), .inr (.inl ⟨h1,h2,_,by omega,rfl,WX _ _ _ _⟩)⟩
  ·go_wp2_with fail
   go_ret
   exact⟨by repeat(first|(with_reducible exact Below.refl _ _)|(with_reducible assumption)|(with_reducible refine Below.drew ?_)|(with_reducible refine Zx ?_ _)|((with_reducible refine Below.setCell ?_ ?_ _);rotate_left;(focus first|omega|(simp;done)|(simp;omega)))|((with_reducible refine Below.alloc ?_ ?_ _);rotate_left;(focus first|omega|(simp;done)|(simp;omega)))|(refine Below.trans ?_ (Below.mono (by assumption) (by first|omega|(simp;done)|(simp;omega))))), .inr (.inr ⟨h1,by omega,_,by omega,rfl,WX _ _ _ _⟩)⟩
theorem kX (a:Ar)(m:Me)(st:Int)(h:MmI a m st)(p:Plc)(hp:OkM a m p):FnE Try.prog tyT 114 [.agg (dAr a), .agg (dMe m), .c (.int .i64 p.at_), .c (.int .i64 (gi p.record 0))] (DI (usM a m p)):=by
 refine⟨⟨Try.f114,Try.func114,by kernel_rfl,by kernel_rfl⟩,fun lo w ow cargs hlo hnew hargs=> ?_⟩
 obtain⟨hp1,hp2,hp3,hp4,hp5⟩:=hp
 obtain⟨v,hv⟩:=Int.eq_ofNat_of_zero_le hp1
 obtain⟨s,hs⟩:=Int.eq_ofNat_of_zero_le hp4
 have hal:=yc h.ar
 obtain⟨k1,k2⟩:=xg h.mem
 obtain⟨k3,k4,k5⟩:=k2 s (by omega)
 have k6:=(ZV k4).1
 obtain⟨q1,q2,q3,q4,q5⟩:=JT h.ar (v:=v) (by omega)
 unfold dAr dMe at hargs
 simp only [xZ,wG,RpS]at hargs
 obtain⟨v0,vs0,rfl,⟨cs,rfl,c0,cs0,rfl,how,c1,cs1,rfl,hnx,rfl⟩,v1,vs1,rfl,⟨ds,rfl,d0,ds0,rfl,hmn,d1,ds1,rfl,hmc,rfl⟩,v2,vs2,rfl,hv2,v3,vs3,rfl,hv3,rfl⟩:=hargs
 simp only [Rp]at hv2 hv3
 subst hv2 hv3
 have l0:(dI a.owner).length=a.owner.length:=jX _
 have l1:(dII a.next).length=a.next.length:=Wp _
 have l2:(dII m.choice).length=m.choice.length:=Wp _
 obtain⟨b1,o1,e1,us1,rfl,hu1,hb1,hc1,hk1⟩:=QW (by decide) how (by omega)
 obtain⟨b2,o2,e2,us2,rfl,hu2,hb2,hc2,hk2⟩:=QW (by decide) hnx (by omega)
 obtain⟨b3,o3,e3,us3,rfl,hu3,hb3,hc3,hk3⟩:=QW (by decide) hmc (by omega)
 have g1:us1[v]? =some us1[v]:=List.getElem?_eq_getElem (by omega)
 have g2:us2[v]? =some us2[v]:=List.getElem?_eq_getElem (by omega)
 have g3:us3[s]? =some us3[s]:=List.getElem?_eq_getElem (by omega)
 have r1:=hk1 v (.int .i64 (gi a.owner v)) _ (by unfold dI;rw [List.getElem?_map,vJ (by omega)];rfl) g1
 have r2:=hk2 v (DI (gl a.next v)) _ (by unfold dII;rw [List.getElem?_map,vL (by omega)];rfl) g2
 have r3:=hk3 s (DI (gl m.choice s)) _ (by unfold dII;rw [List.getElem?_map,vL (by omega)];rfl) g3
 simp only [Rp]at r1
 have l4:(dI (gl m.choice s)).length=(gl m.choice s).length:=jX _
 obtain⟨b4,o4,e4,us4,er3,hu4,hb4,hc4,hk4⟩:=QW (by decide) r3 (by omega)
 have g4:us4[v]? =some us4[v]:=List.getElem?_eq_getElem (by omega)
 have r4:=hk4 v (.int .i64 (gi (gl m.choice s) v)) _ (by unfold dI;rw [List.getElem?_map,vJ (by omega)];rfl) g4
 simp only [Rp]at r4
 obtain⟨A,ln,cn,er2,-⟩:=xS r2
 have hrun:=kY (w:=w) (n:=a.owner.length) (ns:=m.choice.length) (v:=v) (s:=s) (by omega) (by omega) (by omega) (by omega) (M:=d0) (c1:=e1) (c2:=e2) (c3:=e3) (c4:=e4) hb1 (by rw [hc1 v _ g1,r1]) hb2 (by rw [hc2 v _ g2,er2]) hb3 (by rw [hc3 s _ g3,er3,l4,k6]) hb4 (by rw [hc4 v _ g4,r4])
 rw [l0,l1,l2,hal.2.2,hv,hs]
 refine hrun.mono fun e w' hpost=> ?_
 obtain⟨hbl,hq⟩:=hpost
 have eU:usM a m p=if gi a.owner v=1 then gl a.next v else if gi (gl m.choice s) v<0 then []else [gi (gl m.choice s) v]:=by
  have e5:p.at_.toNat=v:=by omega
  have e6:(gi p.record 0).toNat=s:=by omega
  by_cases e7:gi a.owner v=1
  ·rw [if_pos e7,Qa (by rw [e5];omega),e5]
  ·by_cases e8:gi (gl m.choice s) v<0
   ·rw [if_neg e7,if_pos e8,WY (by rw [e5];omega) (by unfold chM;rw [e5,e6];exact e8)]
   ·rw [if_neg e7,if_neg e8,Qb (by rw [e5];omega) (by unfold chM;rw [e5,e6];exact e8)]
    unfold chM
    rw [e5,e6]
 rcases hq with⟨e7,he⟩|⟨e7,e8,g,hg1,he,hg2⟩|⟨e7,e8,g,hg1,he,hg2⟩
 ·refine⟨_,he,hbl,?_⟩
  rw [eU,if_pos e7,←er2]
  exact yC _ _ hbl.size _ _ _ (fun b hb _=>⟨hbl.block b hb,rfl⟩) r2
 ·refine⟨_,he,hbl,?_⟩
  rw [eU,if_neg e7,if_pos e8]
  exact(zt _ _).2 ⟨[],⟨rfl,0,rfl,_,_,rfl,Nat.le_refl _,by unfold maxLen;omega,fun hh=>absurd rfl hh⟩,fun j y z hy hz=>by simp at hz⟩
 ·refine⟨_,he,hbl,?_⟩
  rw [eU,if_neg e7,if_neg e8]
  refine(zt _ _).2 ⟨[.int .i64 (gi (gl m.choice s) v)],⟨rfl,1,rfl,_,_,rfl,Nat.le_refl _,by unfold maxLen;omega,fun _=>⟨g,0,rfl,(Array.getElem?_eq_some_iff.1 hg2).1,hnew g hg1,fun j y hy=> ?_⟩⟩,fun j y z hy hz=> ?_⟩
  ·cases j with
   |zero=>simp at hy;subst hy;unfold World.cell?;rw [Nat.zero_add];simp [hg2]
   |succ j=>simp at hy
  ·cases j with
   |zero=>simp [dI]at hy hz;subst hy;subst hz;simp only [Rp]
   |succ j=>simp at hz
end Go.Proofs.Ythepmdkpbjfdcaa
