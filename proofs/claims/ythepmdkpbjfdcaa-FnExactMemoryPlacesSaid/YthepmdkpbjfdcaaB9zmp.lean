/- lists of places: the data, the laws' helpers -/
import Derived.Test.YthepmdkpbjfdcaaB6zmp
import Derived.Test.YthepmdkpbjfdcaaB8zmp
import Derived.Test.YthepmdkpbjfdcaaGDzmp
import Derived.Shelf.SortG.Plain
import Derived.Shelf.SortG.SortNone
import Derived.Test.YthepmdkpbjfdcaaProg
import Derived.Sort.OwnSortedInts
import Derived.Test.YthepmdkpbjfdcaaB7zmp
namespace Go.Proofs.Ythepmdkpbjfdcaa
open Nat renaming reduceMod → zA, reduceMul → zB, reduceDiv → zC, reduceAdd → zD, reduceSub → zE, reduceEqDiff → zF, reduceBEq → zG, reduceLT → zH, reduceLeDiff → zI
open Go.RowKit
set_option linter.unusedVariables false
set_option linter.unusedSimpArgs false
def yF (ps:List Plc):List D:=ps.flatMap KU
def gq (ps:List Plc)(k:Nat):Plc:=ps.getD k ⟨0,[]⟩
theorem qj (p:Plc)(ps:List Plc):yF (p::ps)= .int .i64 p.at_::DI p.record::yF ps:=rfl
theorem m2q (n:Nat):n*2 / 2=n:=by omega
theorem Qi (ps:List Plc):(yF ps).length=ps.length*2:=by
 induction ps with
 |nil=>rfl
 |cons p ps ih=>rw [qj,List.length_cons,List.length_cons,ih,List.length_cons];omega
theorem zAI (ps qs:List Plc):yF (ps++qs)=yF ps++yF qs:=List.flatMap_append ..
theorem Wi (ps:List Plc)(x:Int)(r:List Int):yF ps++ [D.int .i64 x,D.lst 2 (dI r)]=yF (ps++ [⟨x,r⟩]):=by rw [zAI];rfl
theorem uW (ps:List Plc):(yF ps).take (ps.length*2)=yF ps:=List.take_of_length_le (by rw [Qi];exact Nat.le_refl _)
theorem uC {ps:List Plc}{k:Nat}(h:k<ps.length):ps[k]? =some (gq ps k):=by
 unfold gq
 rw [List.getD_eq_getElem?_getD,List.getElem?_eq_getElem h]
 rfl
theorem uB {ps:List Plc}{k:Nat}(h:ps.length≤k):gq ps k=⟨0,[]⟩:=by
 unfold gq
 rw [List.getD_eq_getElem?_getD,List.getElem?_eq_none h]
 rfl
theorem XR {ps:List Plc}{k:Nat}(h:k<ps.length):gq ps k∈ps:=List.mem_of_getElem? (uC h)
theorem jL {ps:List Plc}{k:Nat}(h:k<ps.length):ps.take (k+1)=ps.take k++ [gq ps k]:=by rw [List.take_add_one,uC h];rfl
theorem KV (ps:List Plc)(k:Nat):(yF ps)[k*2]? =if k<ps.length then some (.int .i64 (gq ps k).at_)else none:=by
 induction ps generalizing k with
 |nil=>rfl
 |cons p ps ih=>
  cases k with
  |zero=>rfl
  |succ k=>
   rw [show(k+1)*2=k*2+1+1 from by omega,qj,List.getElem?_cons_succ,List.getElem?_cons_succ,ih,List.length_cons]
   simp only [gq,List.getD_cons_succ]
   split<;>split<;>first|rfl|omega
theorem YY (ps:List Plc)(k:Nat):(yF ps)[k*2+1]? =if k<ps.length then some (DI (gq ps k).record)else none:=by
 induction ps generalizing k with
 |nil=>rfl
 |cons p ps ih=>
  cases k with
  |zero=>rfl
  |succ k=>
   rw [show(k+1)*2+1=k*2+1+1+1 from by omega,qj,List.getElem?_cons_succ,List.getElem?_cons_succ,ih,List.length_cons]
   simp only [gq,List.getD_cons_succ]
   split<;>split<;>first|rfl|omega
theorem UH (ps:List Plc)(k:Nat):Yb (yF ps) (k*2)=(gq ps k).at_:=by
 unfold Yb
 rw [KV]
 by_cases h:k<ps.length
 ·rw [if_pos h]
 ·rw [if_neg h,uB (by omega)]
theorem UI (ps:List Plc)(k:Nat):yk (yF ps) (k*2+1)=dI (gq ps k).record:=by
 unfold yk
 rw [YY]
 by_cases h:k<ps.length
 ·rw [if_pos h]
 ·rw [if_neg h,uB (by omega)];rfl
theorem zQ {ps:List Plc}{k:Nat}(h:k<ps.length):xm (yF ps) (k*2+1)=2:=by
 unfold xm
 rw [YY,if_pos h]
theorem kb (ps:List Plc)(k:Nat):yy (.int .i64) (yF ps) (k*2)=(k<ps.length):=by
 unfold yy
 rw [KV]
 apply propext
 constructor
 ·rintro⟨n,h⟩;split at h;assumption;cases h
 ·intro h;rw [if_pos h];exact⟨_,rfl⟩
theorem kc (ps:List Plc)(k:Nat):yy (.sl 2) (yF ps) (k*2+1)=(k<ps.length):=by
 unfold yy
 rw [YY]
 apply propext
 constructor
 ·rintro⟨n,h⟩;split at h;assumption;cases h
 ·intro h;rw [if_pos h];exact⟨_,rfl⟩
theorem jl (ps:List Plc)(k:Nat):ze (yF ps) [k*2+1]=(k<ps.length):=by
 unfold ze
 rw [YY]
 apply propext
 constructor
 ·rintro⟨e,ys,h,-⟩;split at h;assumption;cases h
 ·intro h;rw [if_pos h];exact⟨_,_,rfl,trivial⟩
theorem Ui (ps:List Plc)(k:Nat)(n:Int):(yF ps).set (k*2) (.int .i64 n)=yF (ps.set k ⟨n,(gq ps k).record⟩):=by
 induction ps generalizing k with
 |nil=>simp [yF]
 |cons p ps ih=>
  cases k with
  |zero=>rfl
  |succ k=>rw [show(k+1)*2=k*2+1+1 from by omega,qj,List.set_cons_succ,List.set_cons_succ,ih,List.set_cons_succ,qj];rfl
theorem Uj (ps:List Plc)(k:Nat)(r:List Int):(yF ps).set (k*2+1) (.lst 2 (dI r))=yF (ps.set k ⟨(gq ps k).at_,r⟩):=by
 induction ps generalizing k with
 |nil=>simp [yF]
 |cons p ps ih=>
  cases k with
  |zero=>rfl
  |succ k=>rw [show(k+1)*2+1=k*2+1+1+1 from by omega,qj,List.set_cons_succ,List.set_cons_succ,ih,List.set_cons_succ,qj];rfl
attribute [push_cast] m2q Qi uW Wi UH UI kb kc jl Ui Uj
def cQ (ps:List Plc):Nat:=(ps.map fun p=>1+p.record.length).sum
theorem zBO (ps:List Plc)(p:Plc):cQ (ps++ [p])=cQ ps+(1+p.record.length):=by simp [cQ]
theorem kJ {ps:List Plc}{k:Nat}(h:k<ps.length):cQ (ps.take (k+1))=cQ (ps.take k)+1+(gq ps k).record.length:=by rw [jL h,zBO];omega
theorem zCU (a b:List Plc):cQ (a++b)=cQ a+cQ b:=by simp [cQ]
theorem wj (ps:List Plc)(k:Nat):cQ (ps.take k)≤cQ ps:=by
 have h:=List.take_append_drop k ps
 have h2:=zCU (ps.take k) (ps.drop k)
 rw [h]at h2
 omega
def mkQ :Int→List Plc→List Plc
 |_,[]=> []
 |k,p::ps=>⟨k,iot (k+1) p.record.length⟩::mkQ (k+1+p.record.length) ps
theorem ve : ∀(k:Int) (ps:List Plc),(mkQ k ps).length=ps.length
 |_,[]=>rfl
 |k,p::ps=>by rw [mkQ,List.length_cons,ve,List.length_cons]
theorem Ku : ∀(k:Int) (ps:List Plc) (p:Plc),mkQ k (ps++ [p])=mkQ k ps++ [⟨k+cQ ps,iot (k+cQ ps+1) p.record.length⟩]
 |k,[],p=>by simp [mkQ,cQ]
 |k,q::ps,p=>by
  rw [List.cons_append,mkQ,Ku,mkQ,List.cons_append]
  have e:k+1+(q.record.length:Int)+(cQ ps:Int)=k+cQ (q::ps):=by simp [cQ];omega
  rw [e]
def mq (k:Int)(ps:List Plc)(j:Nat):List Plc:=mkQ k (ps.take j)++ps.drop j
theorem mq_0 (k:Int)(ps:List Plc):mq k ps 0=ps:=rfl
theorem zC6 (k:Int)(ps:List Plc):mq k ps ps.length=mkQ k ps:=by simp [mq]
theorem zC7 {k:Int}{ps:List Plc}{j:Nat}(h:j≤ps.length):(mq k ps j).length=ps.length:=by simp [mq,ve];omega
theorem mq_at {k:Int}{ps:List Plc}{j:Nat}(h:j<ps.length):gq (mq k ps j) j=gq ps j:=by
 have hl:(mkQ k (ps.take j)).length=j:=by rw [ve,List.length_take];omega
 unfold gq mq
 rw [List.getD_eq_getElem?_getD,List.getD_eq_getElem?_getD,List.getElem?_append_right (by omega),hl,Nat.sub_self,List.getElem?_drop]
 rfl
theorem zCu {ps:List Plc}{j:Nat}{p:Plc}(h:j<ps.length):gq (ps.set j p) j=p:=by
 unfold gq
 rw [List.getD_eq_getElem?_getD,List.getElem?_set_self h]
 rfl
theorem zC8 {k:Int}{ps:List Plc}{j:Nat}(h:j<ps.length):(mq k ps j).set j ⟨k+cQ (ps.take j),iot (k+cQ (ps.take j)+1) (gq ps j).record.length⟩=mq k ps (j+1):=by
 have hl:(mkQ k (ps.take j)).length=j:=by rw [ve,List.length_take];omega
 have hd:ps.drop j=gq ps j::ps.drop (j+1):=by
  rw [List.drop_eq_getElem_cons h]
  have :=uC h
  rw [List.getElem?_eq_getElem h]at this
  rw [Option.some.inj this]
 unfold mq
 rw [List.set_append_right _ _ (by omega),hl,Nat.sub_self,hd,List.set_cons_zero,jL h,Ku,List.append_assoc]
 rfl
theorem UV {k:Int}{ps:List Plc}{j:Nat}(h:j<ps.length):gq (mkQ k ps) j=⟨k+cQ (ps.take j),iot (k+cQ (ps.take j)+1) (gq ps j).record.length⟩:=by
 induction ps generalizing k j with
 |nil=>simp at h
 |cons p ps ih=>
  cases j with
  |zero=>simp [mkQ,gq,cQ]
  |succ j=>
   have h1:=ih (k:=k+1+p.record.length) (j:=j) (by simpa using h)
   rw [mkQ,show gq (⟨k,iot (k+1) p.record.length⟩::mkQ (k+1+p.record.length) ps) (j+1)=gq (mkQ (k+1+p.record.length) ps) j from rfl,h1,show gq (p::ps) (j+1)=gq ps j from rfl,List.take_succ_cons]
   have e:k+1+(p.record.length:Int)+(cQ (ps.take j):Int)=k+cQ (p::ps.take j):=by simp [cQ];omega
   rw [e]
def QLn (B:Nat)(ps:List Plc):Prop:=ps.length≤B∧∀p∈ps,p.record.length≤B
theorem gq_le {B:Nat}{ps:List Plc}(h:QLn B ps)(k:Nat):(gq ps k).record.length≤B:=by
 rcases Nat.lt_or_ge k ps.length with hk|hk
 ·exact h.2 _ (XR hk)
 ·rw [uB hk];exact Nat.zero_le _
theorem cQ_le {B:Nat}{ps:List Plc}(h: ∀p∈ps,p.record.length≤B):cQ ps≤ps.length*(B+1):=by
 induction ps with
 |nil=>exact Nat.zero_le _
 |cons p ps ih=>
  have h1:=ih fun q hq=>h q (List.mem_cons_of_mem _ hq)
  have h2:=h p List.mem_cons_self
  have e:cQ (p::ps)=1+p.record.length+cQ ps:=by simp [cQ]
  rw [e,List.length_cons,Nat.add_mul]
  omega
theorem zCl {ps:List Plc}(h:QLn 1048576 ps):cQ ps≤2199023255552∧ps.length≤1048576:=by
 have h1:=cQ_le h.2
 have h2:ps.length*(1048576+1)≤1048576*(1048576+1):=Nat.mul_le_mul_right _ h.1
 exact⟨by omega,h.1⟩
set_option maxRecDepth 20000 in
set_option maxHeartbeats 4000000 in
theorem WB (ps:List Plc)(ha:QLn 1048576 ps):Fn Try.prog tyT 21 [.c (.lst 102 (yF ps)), .c (.lst 102 (yF ps))] [.c (.bool true)]:=by
 have hl:=ha.1
 have hQ:=fun k=>zAT (gq ps k) ⟨gq_le ha k⟩
 unfold KU at hQ
 refine yM (fn:=Try.f21) (ts:= [4]) Try.func21 (by kernel_rfl) rfl rfl (by rw [Try.ntmps21];exact Nat.le_of_ble_eq_true rfl) rfl (by simp only [szA,List.mem_cons,List.not_mem_nil,or_false,forall_eq_or_imp,forall_eq,VT.cells,szL];try decide) ?_
 rw [Try.ntmps21]
 simp only [push_cast,↓zK,↓zJ,↓reduceIte,zA,zB,zC,zD,zE,zF,zG,zH,zI,reduceCtorEq]
 refine zL fun K hK=> ?_
 refine zM zO zN [] rfl ?_
 all_goals simp only [push_cast,↓zK,↓zJ,↓reduceIte,zA,zB,zC,zD,zE,zF,zG,zH,zI,reduceCtorEq]
 all_goals repeat'(first|(apply zP<;>(intro hg;(try simp only [push_cast]at hg)))|apply And.intro|(intro hg;(try simp only [push_cast]at hg)))
 all_goals first|exact gA|(exact zQ (by omega))|skip
 all_goals first|(refine hK _ ?_;clear hK K)|(simp only [push_cast];done)
 refine zL fun K1 hK1=> ?_
 refine zL fun K hK=> ?_
 refine zM zO zN [] rfl ?_
 all_goals simp only [push_cast,↓zK,↓zJ,↓reduceIte,zA,zB,zC,zD,zE,zF,zG,zH,zI,reduceCtorEq]
 all_goals repeat'(first|(apply zP<;>(intro hg;(try simp only [push_cast]at hg)))|apply And.intro|(intro hg;(try simp only [push_cast]at hg)))
 all_goals first|exact gA|(exact zQ (by omega))|skip
 all_goals first|(refine hK _ ?_;clear hK K)|(simp only [push_cast];done)
 refine zU rfl (fun hc=> ?_) (fun hc=> ?_)
 skip
 ·exfalso;first|(cases hc;done)|(simp only [push_cast]at hc;done)|(simp only [push_cast]at hc;omega)|omega
 refine zY ?_
 (try simp only [zR,zS,reduceIte,zF]);refine hK1 _ ?_
 refine zL fun K2 hK2=> ?_
 refine zL fun K hK=> ?_
 refine zM zO zN [] rfl ?_
 all_goals simp only [push_cast,↓zK,↓zJ,↓reduceIte,zA,zB,zC,zD,zE,zF,zG,zH,zI,reduceCtorEq]
 all_goals repeat'(first|(apply zP<;>(intro hg;(try simp only [push_cast]at hg)))|apply And.intro|(intro hg;(try simp only [push_cast]at hg)))
 all_goals first|exact gA|(exact zQ (by omega))|skip
 all_goals first|(refine hK _ ?_;clear hK K)|(simp only [push_cast];done)
 refine zd ?_
 refine zw [4,5,11,12,13,14,15,16,17,18,19,20,21,22,23,24,25,26] [] (fun(k:Nat)=> [(5, .int .i64 k)]) (fun k=> []) (fun k=> []) (fun k=>k≤ps.length) (fun k=>ps.length - k) 0 ?_ (by omega) ?_
 ·
  refine zg rfl ?_ ?_ ?_<;>simp only [zq,zp,push_cast,↓zK,↓zJ,↓reduceIte,zA,zB,zC,zD,zE,zF,zG,zH,zI,reduceCtorEq]
 ·rintro k hk KL0 hL0
  simp only [push_cast,↓zK,↓zJ,↓reduceIte,zA,zB,zC,zD,zE,zF,zG,zH,zI,reduceCtorEq]
  refine zL fun K3 hK3=> ?_
  refine zL fun K hK=> ?_
  refine zM zO zN [] rfl ?_
  all_goals simp only [push_cast,↓zK,↓zJ,↓reduceIte,zA,zB,zC,zD,zE,zF,zG,zH,zI,reduceCtorEq]
  all_goals repeat'(first|(apply zP<;>(intro hg;(try simp only [push_cast]at hg)))|apply And.intro|(intro hg;(try simp only [push_cast]at hg)))
  all_goals first|exact gA|(exact zQ (by omega))|skip
  all_goals first|(refine hK _ ?_;clear hK K)|(simp only [push_cast];done)
  refine zU rfl (fun hc=> ?_) (fun hc=> ?_)<;>(try simp only [push_cast]at hc)
  ·
   refine zY ?_
   (try simp only [zR,zS,reduceIte,zF]);refine hK3 _ ?_
   refine zL fun K4 hK4=> ?_
   refine zd ?_
   refine zL fun K hK=> ?_
   refine xk false zO zN qg ?_ rfl ?_
   ·kernel_rfl
   intro E hE
   all_goals refine Yi 9 (by decide) fun K9 hK9=> ?_
   all_goals simp only [push_cast,↓zK,↓zJ,↓reduceIte,zA,zB,zC,zD,zE,zF,zG,zH,zI,reduceCtorEq]
   all_goals repeat'(first|(apply zP<;>(intro hg;(try simp only [push_cast]at hg)))|(refine⟨_,hQ k,?_⟩;simp only [push_cast,↓zK,↓zJ,↓reduceIte,zA,zB,zC,zD,zE,zF,zG,zH,zI,reduceCtorEq])|apply And.intro|(intro hg;(try simp only [push_cast]at hg)))
   all_goals first|exact gA|(exact zQ (by omega))|skip
   all_goals first|(refine hK9 _ _ ?_;clear hK9 K9)|(simp only [push_cast];done)
   all_goals simp only [push_cast,↓zK,↓zJ,↓reduceIte,zA,zB,zC,zD,zE,zF,zG,zH,zI,reduceCtorEq]
   all_goals repeat'(first|(apply zP<;>(intro hg;(try simp only [push_cast]at hg)))|(refine⟨_,hQ k,?_⟩;simp only [push_cast,↓zK,↓zJ,↓reduceIte,zA,zB,zC,zD,zE,zF,zG,zH,zI,reduceCtorEq])|apply And.intro|(intro hg;(try simp only [push_cast]at hg)))
   all_goals first|exact gA|(refine hE _ _ ?_ ?_;kernel_rfl)|(exact zQ (by omega))|skip
   all_goals clear hE E
   all_goals first|(refine hK _ ?_;clear hK K)|(simp only [push_cast];done)
   refine zU rfl (fun hc=> ?_) (fun hc=> ?_)
   skip
   ·exfalso;first|(cases hc;done)|(simp only [push_cast]at hc;done)|(simp only [push_cast]at hc;omega)|omega
   refine zY ?_
   (try simp only [zR,zS,reduceIte,zF]);refine hK4 _ ?_
   refine zM zO zN [] rfl ?_
   all_goals simp only [push_cast,↓zK,↓zJ,↓reduceIte,zA,zB,zC,zD,zE,zF,zG,zH,zI,reduceCtorEq]
   all_goals repeat'(first|(apply zP<;>(intro hg;(try simp only [push_cast]at hg)))|apply And.intro|(intro hg;(try simp only [push_cast]at hg)))
   all_goals first|exact gA|(exact zQ (by omega))|skip
   refine hL0 _ ⟨k+1,by omega,by omega,?_⟩
   refine zg rfl ?_ ?_ ?_<;>simp only [zq,zp,push_cast,↓zK,↓zJ,↓reduceIte,zA,zB,zC,zD,zE,zF,zG,zH,zI,reduceCtorEq]
  ·
   refine yA ?_
   (try simp only [zR,zS,reduceIte,zF]);refine hK2 _ ?_
   refine zL fun K hK=> ?_
   refine zM zO zN [] rfl ?_
   all_goals simp only [push_cast,↓zK,↓zJ,↓reduceIte,zA,zB,zC,zD,zE,zF,zG,zH,zI,reduceCtorEq]
   all_goals repeat'(first|(apply zP<;>(intro hg;(try simp only [push_cast]at hg)))|apply And.intro|(intro hg;(try simp only [push_cast]at hg)))
   all_goals first|exact gA|(exact zQ (by omega))|skip
   all_goals first|(refine hK _ ?_;clear hK K)|(simp only [push_cast];done)
   refine zb ?_
   (try simp only [zR,zS])
   refine⟨Or.inl rfl,?_⟩
   simp only [zh,push_cast,↓zK,↓zJ,↓reduceIte,zA,zB,zC,zD,zE,zF,zG,zH,zI,reduceCtorEq]
set_option maxRecDepth 20000 in
set_option maxHeartbeats 4000000 in
theorem UU (ps:List Plc)(k:Int)(h0:0≤k)(h1:k+cQ ps≤4611686018427387904)(h2:ps.length≤1048576):FnG Try.prog tyT 25 [.c (.lst 102 (yF ps)), .c (.int .i64 k)] [0] [(0,102,yF (mkQ k ps))] [.c (.int .i64 (k+cQ ps))]:=by
 have hM:=fun r (m:Int) g0 g1=>wb r m g0 g1
 refine XB (fn:=Try.f25) (rs:= [.tmp 4]) (own:= [0]) (outs:= [(0,102,yF (mkQ k ps))]) zO zN Try.func25 (by kernel_rfl) rfl rfl (by rw [Try.ntmps25];exact Nat.le_of_ble_eq_true rfl) rfl (by simp only [szA,List.mem_cons,List.not_mem_nil,or_false,forall_eq_or_imp,forall_eq,VT.cells,szL];try decide) ?_
 rw [Try.ntmps25]
 simp only [push_cast,↓zK,↓zJ,↓reduceIte,zA,zB,zC,zD,zE,zF,zG,zH,zI,reduceCtorEq]
 refine zL fun K hK=> ?_
 refine zM zO zN [] rfl ?_
 all_goals simp only [push_cast,↓zK,↓zJ,↓reduceIte,zA,zB,zC,zD,zE,zF,zG,zH,zI,reduceCtorEq]
 all_goals repeat'(first|(apply zP<;>(intro hg;(try simp only [push_cast]at hg)))|apply And.intro|(intro hg;(try simp only [push_cast]at hg)))
 all_goals first|exact gA|(exact zQ (by omega))|skip
 all_goals first|(refine hK _ ?_;clear hK K)|(simp only [push_cast];done)
 refine zL fun K1 hK1=> ?_
 refine zL fun K hK=> ?_
 refine zM zO zN [] rfl ?_
 all_goals simp only [push_cast,↓zK,↓zJ,↓reduceIte,zA,zB,zC,zD,zE,zF,zG,zH,zI,reduceCtorEq]
 all_goals repeat'(first|(apply zP<;>(intro hg;(try simp only [push_cast]at hg)))|apply And.intro|(intro hg;(try simp only [push_cast]at hg)))
 all_goals first|exact gA|(exact zQ (by omega))|skip
 all_goals first|(refine hK _ ?_;clear hK K)|(simp only [push_cast];done)
 refine zd ?_
 refine zw [1,5,6,7,8,9,10,11,12,13,14,15,16,17,18,19,20,21,22,23,24,25] [0] (fun(j:Nat)=> [(5, .int .i64 j),(1, .int .i64 (k+cQ (ps.take j)))]) (fun j=> []) (fun j=> [(0,⟨.ex,102,yF (mq k ps j),some 0⟩)]) (fun j=>j≤ps.length) (fun j=>ps.length - j) 0 ?_ (by omega) ?_
 ·
  rw [mq_0,List.take_zero,show((cQ []:Nat):Int)=0 from rfl,Int.add_zero]
  refine zg rfl ?_ ?_ ?_<;>simp only [zq,zp,push_cast,↓zK,↓zJ,↓reduceIte,zA,zB,zC,zD,zE,zF,zG,zH,zI,reduceCtorEq]
 ·rintro j hj KL0 hL0
  have hl:=zC7 (k:=k) hj
  have hs:=wj ps j
  have hs1:=wj ps (j+1)
  simp only [push_cast,↓zK,↓zJ,↓reduceIte,zA,zB,zC,zD,zE,zF,zG,zH,zI,reduceCtorEq]
  refine zL fun K2 hK2=> ?_
  refine zL fun K hK=> ?_
  refine zM zO zN [] rfl ?_
  all_goals simp only [push_cast,↓zK,↓zJ,↓reduceIte,zA,zB,zC,zD,zE,zF,zG,zH,zI,reduceCtorEq]
  all_goals repeat'(first|(apply zP<;>(intro hg;(try simp only [push_cast]at hg)))|apply And.intro|(intro hg;(try simp only [push_cast]at hg)))
  all_goals first|exact gA|(exact zQ (by omega))|skip
  all_goals first|(refine hK _ ?_;clear hK K)|(simp only [push_cast];done)
  refine zU rfl (fun hc=> ?_) (fun hc=> ?_)<;>(try simp only [push_cast]at hc)
  ·
   refine zY ?_
   (try simp only [zR,zS,reduceIte,zF]);refine hK2 _ ?_
   refine zL fun K3 hK3=> ?_
   refine zd ?_
   have hst:=kJ (ps:=ps) (k:=j) (by omega)
   have hM0:=hM (gq ps j).record (k+cQ (ps.take j)+1) (by omega) (by omega)
   refine zL fun K hK=> ?_
   refine zM zO zN [] rfl ?_
   all_goals simp only [push_cast,↓zK,↓zJ,↓reduceIte,zA,zB,zC,zD,zE,zF,zG,zH,zI,reduceCtorEq]
   all_goals repeat'(first|(apply zP<;>(intro hg;(try simp only [push_cast]at hg)))|apply And.intro|(intro hg;(try simp only [push_cast]at hg)))
   all_goals first|exact gA|(exact zQ (by omega))|skip
   all_goals first|(refine hK _ ?_;clear hK K)|(simp only [push_cast];done)
   refine zL fun K hK=> ?_
   refine zM zO zN [] rfl ?_
   all_goals simp only [push_cast,↓zK,↓zJ,↓reduceIte,zA,zB,zC,zD,zE,zF,zG,zH,zI,reduceCtorEq]
   all_goals repeat'(first|(apply zP<;>(intro hg;(try simp only [push_cast]at hg)))|apply And.intro|(intro hg;(try simp only [push_cast]at hg)))
   all_goals first|exact gA|(exact zQ (by omega))|skip
   all_goals first|(refine hK _ ?_;clear hK K)|(simp only [push_cast];done)
   have hmq:=mq_at (k:=k) (ps:=ps) (j:=j) (by omega)
   rw [hmq]
   have hql:((mq k ps j).set j ⟨k+cQ (ps.take j),(gq ps j).record⟩).length=ps.length:=by rw [List.length_set];exact hl
   have hqg:=zCu (ps:=mq k ps j) (j:=j) (p:=⟨k+cQ (ps.take j),(gq ps j).record⟩) (by omega)
   generalize hqs:(mq k ps j).set j ⟨k+cQ (ps.take j),(gq ps j).record⟩=qs at hql hqg⊢
   rw [show DI (gq ps j).record=DI (gq qs j).record from by rw [hqg]]at hM0
   refine xG 25 [0] [(0,2,dI (iot (k+cQ (ps.take j)+1) (gq ps j).record.length))] zO zN [] rfl ?_
   simp only [push_cast,↓zK,↓zJ,↓reduceIte,zA,zB,zC,zD,zE,zF,zG,zH,zI,reduceCtorEq]
   all_goals repeat'(first|(apply zP<;>(intro hg;(try simp only [push_cast]at hg)))|(refine⟨_,hM0,?_⟩;simp only [push_cast,↓zK,↓zJ,↓reduceIte,zA,zB,zC,zD,zE,zF,zG,zH,zI,reduceCtorEq])|apply And.intro|(intro hg;(try simp only [push_cast]at hg)))
   all_goals first|exact gA|(exact zQ (by omega))|skip
   (try simp only [zR,zS,reduceIte,zF]);refine hK3 _ ?_
   refine zM zO zN [] rfl ?_
   all_goals simp only [push_cast,↓zK,↓zJ,↓reduceIte,zA,zB,zC,zD,zE,zF,zG,zH,zI,reduceCtorEq]
   all_goals repeat'(first|(apply zP<;>(intro hg;(try simp only [push_cast]at hg)))|apply And.intro|(intro hg;(try simp only [push_cast]at hg)))
   all_goals first|exact gA|(exact zQ (by omega))|skip
   refine hL0 _ ⟨j+1,by omega,by omega,?_⟩
   rw [hqg]
   subst hqs
   rw [List.set_set,zC8 (by omega)]
   refine zg rfl ?_ ?_ ?_<;>simp only [zq,zp,push_cast,↓zK,↓zJ,↓reduceIte,zA,zB,zC,zD,zE,zF,zG,zH,zI,reduceCtorEq]
   all_goals(try(refine congrArg (AV.int .i64) ?_;omega))
  ·
   refine yA ?_
   have hjj:j=ps.length:=by omega
   subst hjj
   rw [zC6,List.take_length]
   (try simp only [zR,zS,reduceIte,zF]);refine hK1 _ ?_
   refine zL fun K hK=> ?_
   refine zM zO zN [] rfl ?_
   all_goals simp only [push_cast,↓zK,↓zJ,↓reduceIte,zA,zB,zC,zD,zE,zF,zG,zH,zI,reduceCtorEq]
   all_goals repeat'(first|(apply zP<;>(intro hg;(try simp only [push_cast]at hg)))|apply And.intro|(intro hg;(try simp only [push_cast]at hg)))
   all_goals first|exact gA|(exact zQ (by omega))|skip
   all_goals first|(refine hK _ ?_;clear hK K)|(simp only [push_cast];done)
   refine zb ?_
   (try simp only [zR,zS])
   refine⟨Or.inl rfl,?_⟩
   simp only [wR,vP,xC,qn,push_cast,↓zK,↓zJ,↓reduceIte,zA,zB,zC,zD,zE,zF,zG,zH,zI,reduceCtorEq]
set_option maxRecDepth 20000 in
set_option maxHeartbeats 4000000 in
theorem Ww (ps:List Plc)(k:Int)(h0:0≤k)(h1:k+cQ ps≤4611686018427387904)(h2:ps.length≤1048576):Fn Try.prog tyT 26 [.c (.lst 102 (yF (mkQ k ps))), .c (.int .i64 k)] [.c (.int .i64 (k+cQ ps))]:=by
 have hn:=ve k ps
 have hM:=fun n (m:Int) g0 g1=>JU n m g0 g1
 refine yM (fn:=Try.f26) (ts:= [4]) Try.func26 (by kernel_rfl) rfl rfl (by rw [Try.ntmps26];exact Nat.le_of_ble_eq_true rfl) rfl (by simp only [szA,List.mem_cons,List.not_mem_nil,or_false,forall_eq_or_imp,forall_eq,VT.cells,szL];try decide) ?_
 rw [Try.ntmps26]
 simp only [push_cast,↓zK,↓zJ,↓reduceIte,zA,zB,zC,zD,zE,zF,zG,zH,zI,reduceCtorEq]
 refine zL fun K hK=> ?_
 refine zM zO zN [] rfl ?_
 all_goals simp only [push_cast,↓zK,↓zJ,↓reduceIte,zA,zB,zC,zD,zE,zF,zG,zH,zI,reduceCtorEq]
 all_goals repeat'(first|(apply zP<;>(intro hg;(try simp only [push_cast]at hg)))|apply And.intro|(intro hg;(try simp only [push_cast]at hg)))
 all_goals first|exact gA|(exact zQ (by omega))|skip
 all_goals first|(refine hK _ ?_;clear hK K)|(simp only [push_cast];done)
 refine zL fun K1 hK1=> ?_
 refine zL fun K hK=> ?_
 refine zM zO zN [] rfl ?_
 all_goals simp only [push_cast,↓zK,↓zJ,↓reduceIte,zA,zB,zC,zD,zE,zF,zG,zH,zI,reduceCtorEq]
 all_goals repeat'(first|(apply zP<;>(intro hg;(try simp only [push_cast]at hg)))|apply And.intro|(intro hg;(try simp only [push_cast]at hg)))
 all_goals first|exact gA|(exact zQ (by omega))|skip
 all_goals first|(refine hK _ ?_;clear hK K)|(simp only [push_cast];done)
 refine zd ?_
 refine zw [1,4,5,6,7,8,9,10,11,12,13,14,15,16,17,18,19,20,21,22,23,24,25,26,27,28,29] [] (fun(j:Nat)=> [(5, .int .i64 j),(1, .int .i64 (k+cQ (ps.take j)))]) (fun j=> []) (fun j=> []) (fun j=>j≤ps.length) (fun j=>ps.length - j) 0 ?_ (by omega) ?_
 ·
  rw [List.take_zero,show((cQ []:Nat):Int)=0 from rfl,Int.add_zero]
  refine zg rfl ?_ ?_ ?_<;>simp only [zq,zp,push_cast,↓zK,↓zJ,↓reduceIte,zA,zB,zC,zD,zE,zF,zG,zH,zI,reduceCtorEq]
 ·rintro j hj KL0 hL0
  have hs:=wj ps j
  have hs1:=wj ps (j+1)
  simp only [push_cast,↓zK,↓zJ,↓reduceIte,zA,zB,zC,zD,zE,zF,zG,zH,zI,reduceCtorEq]
  refine zL fun K2 hK2=> ?_
  refine zL fun K hK=> ?_
  refine zM zO zN [] rfl ?_
  all_goals simp only [push_cast,↓zK,↓zJ,↓reduceIte,zA,zB,zC,zD,zE,zF,zG,zH,zI,reduceCtorEq]
  all_goals repeat'(first|(apply zP<;>(intro hg;(try simp only [push_cast]at hg)))|apply And.intro|(intro hg;(try simp only [push_cast]at hg)))
  all_goals first|exact gA|(exact zQ (by omega))|skip
  all_goals first|(refine hK _ ?_;clear hK K)|(simp only [push_cast];done)
  refine zU rfl (fun hc=> ?_) (fun hc=> ?_)<;>(try simp only [push_cast]at hc)
  ·
   refine zY ?_
   (try simp only [zR,zS,reduceIte,zF]);refine hK2 _ ?_
   refine zL fun K3 hK3=> ?_
   refine zd ?_
   refine zL fun K4 hK4=> ?_
   have hst:=kJ (ps:=ps) (k:=j) (by omega)
   have hM0:=hM (gq ps j).record.length (k+cQ (ps.take j)+1) (by omega) (by omega)
   have hmk:=UV (k:=k) (ps:=ps) (j:=j) (by omega)
   rw [show DI (iot (k+cQ (ps.take j)+1) (gq ps j).record.length)=DI (gq (mkQ k ps) j).record from by rw [hmk]]at hM0
   refine zL fun K hK=> ?_
   refine zM zO zN [] rfl ?_
   all_goals simp only [push_cast,↓zK,↓zJ,↓reduceIte,zA,zB,zC,zD,zE,zF,zG,zH,zI,reduceCtorEq]
   all_goals repeat'(first|(apply zP<;>(intro hg;(try simp only [push_cast]at hg)))|apply And.intro|(intro hg;(try simp only [push_cast]at hg)))
   all_goals first|exact gA|(exact zQ (by omega))|skip
   all_goals first|(refine hK _ ?_;clear hK K)|(simp only [push_cast];done)
   refine zU rfl (fun hc=> ?_) (fun hc=> ?_)
   skip
   ·exfalso;(rw [UV (by omega)]at hc;simp at hc)
   refine zY ?_
   (try simp only [zR,zS,reduceIte,zF]);refine hK4 _ ?_
   refine zL fun K hK=> ?_
   refine zM zO zN [] rfl ?_
   all_goals simp only [push_cast,↓zK,↓zJ,↓reduceIte,zA,zB,zC,zD,zE,zF,zG,zH,zI,reduceCtorEq]
   all_goals repeat'(first|(apply zP<;>(intro hg;(try simp only [push_cast]at hg)))|apply And.intro|(intro hg;(try simp only [push_cast]at hg)))
   all_goals first|exact gA|(exact zQ (by omega))|skip
   all_goals first|(refine hK _ ?_;clear hK K)|(simp only [push_cast];done)
   refine zL fun K hK=> ?_
   refine zM zO zN [] rfl ?_
   all_goals refine vz 7 fun K9 hK9=> ?_
   all_goals simp only [push_cast,↓zK,↓zJ,↓reduceIte,zA,zB,zC,zD,zE,zF,zG,zH,zI,reduceCtorEq]
   all_goals repeat'(first|(apply zP<;>(intro hg;(try simp only [push_cast]at hg)))|(refine⟨_,hM0,?_⟩;simp only [push_cast,↓zK,↓zJ,↓reduceIte,zA,zB,zC,zD,zE,zF,zG,zH,zI,reduceCtorEq])|apply And.intro|(intro hg;(try simp only [push_cast]at hg)))
   all_goals first|exact gA|(exact zQ (by omega))|skip
   all_goals first|(refine hK9 _ ?_;clear hK9 K9)|(simp only [push_cast];done)
   all_goals simp only [push_cast,↓zK,↓zJ,↓reduceIte,zA,zB,zC,zD,zE,zF,zG,zH,zI,reduceCtorEq]
   all_goals repeat'(first|(apply zP<;>(intro hg;(try simp only [push_cast]at hg)))|(refine⟨_,hM0,?_⟩;simp only [push_cast,↓zK,↓zJ,↓reduceIte,zA,zB,zC,zD,zE,zF,zG,zH,zI,reduceCtorEq])|apply And.intro|(intro hg;(try simp only [push_cast]at hg)))
   all_goals first|exact gA|(exact zQ (by omega))|skip
   all_goals first|(refine hK _ ?_;clear hK K)|(simp only [push_cast];done)
   refine zL fun K hK=> ?_
   refine zM zO zN [] rfl ?_
   all_goals simp only [push_cast,↓zK,↓zJ,↓reduceIte,zA,zB,zC,zD,zE,zF,zG,zH,zI,reduceCtorEq]
   all_goals repeat'(first|(apply zP<;>(intro hg;(try simp only [push_cast]at hg)))|apply And.intro|(intro hg;(try simp only [push_cast]at hg)))
   all_goals first|exact gA|(exact zQ (by omega))|skip
   all_goals first|(refine hK _ ?_;clear hK K)|(simp only [push_cast];done)
   refine zU rfl (fun hc=> ?_) (fun hc=> ?_)
   skip
   ·exfalso;(simp at hc;omega)
   refine zY ?_
   (try simp only [zR,zS,reduceIte,zF]);refine hK3 _ ?_
   refine zM zO zN [] rfl ?_
   all_goals simp only [push_cast,↓zK,↓zJ,↓reduceIte,zA,zB,zC,zD,zE,zF,zG,zH,zI,reduceCtorEq]
   all_goals repeat'(first|(apply zP<;>(intro hg;(try simp only [push_cast]at hg)))|apply And.intro|(intro hg;(try simp only [push_cast]at hg)))
   all_goals first|exact gA|(exact zQ (by omega))|skip
   refine hL0 _ ⟨j+1,by omega,by omega,?_⟩
   refine zg rfl ?_ ?_ ?_<;>simp only [zq,zp,push_cast,↓zK,↓zJ,↓reduceIte,zA,zB,zC,zD,zE,zF,zG,zH,zI,reduceCtorEq]
   all_goals(try(refine congrArg (AV.int .i64) ?_;omega))
  ·
   refine yA ?_
   have hjj:j=ps.length:=by omega
   subst hjj
   rw [List.take_length]
   (try simp only [zR,zS,reduceIte,zF]);refine hK1 _ ?_
   refine zL fun K hK=> ?_
   refine zM zO zN [] rfl ?_
   all_goals simp only [push_cast,↓zK,↓zJ,↓reduceIte,zA,zB,zC,zD,zE,zF,zG,zH,zI,reduceCtorEq]
   all_goals repeat'(first|(apply zP<;>(intro hg;(try simp only [push_cast]at hg)))|apply And.intro|(intro hg;(try simp only [push_cast]at hg)))
   all_goals first|exact gA|(exact zQ (by omega))|skip
   all_goals first|(refine hK _ ?_;clear hK K)|(simp only [push_cast];done)
   refine zb ?_
   (try simp only [zR,zS])
   refine⟨Or.inl rfl,?_⟩
   simp only [zh,push_cast,↓zK,↓zJ,↓reduceIte,zA,zB,zC,zD,zE,zF,zG,zH,zI,reduceCtorEq]
theorem zAf :min 1 64=1:=rfl
theorem pow_1 :(2:Int)^1=2:=rfl
attribute [push_cast] zAf pow_1
theorem zA0 {xs:List Int}{k:Nat}(h:k<xs.length):xs.take (k+1)=xs.take k++ [gi xs k]:=by rw [List.take_add_one,ZR h];rfl
theorem UJ {xs:List Int}{k:Nat}(h:k<xs.length):gi xs k∈xs:=List.mem_of_getElem? (ZR h)
open Go.Shelf
open Go Go.RowKit Go.Sort
def yN (u:Int)(r:List Int)(p:Plc):Bool:=decide (p.at_=u)&&decide (p.record=r)
theorem JN {u:Int}{r:List Int}{p:Plc}(h: ¬p.at_=u):yN u r p=false:=by unfold yN;rw [decide_eq_false h];rfl
theorem JO {u:Int}{r:List Int}{p:Plc}(h: ¬p.record=r):yN u r p=false:=by unfold yN;rw [decide_eq_false h,Bool.and_false]
theorem ZY {u:Int}{r:List Int}{p:Plc}(h:p.at_=u)(h2:p.record=r):yN u r p=true:=by unfold yN;rw [decide_eq_true h,decide_eq_true h2];rfl
def ixQ (p:Plc→Bool)(ps:List Plc):Int:=if ps.findIdx p<ps.length then ps.findIdx p else -1
def Jl (r:List Int)(s:List Plc×List Int)(u:Int):List Plc×List Int:=if ixQ (yN u r) s.1<0 then(s.1++ [⟨u,r⟩],s.2++ [(s.1.length:Int)])else(s.1,s.2++ [ixQ (yN u r) s.1])
def zi (r us:List Int)(ps:List Plc)(k:Nat):List Plc×List Int:=(us.take k).foldl (Jl r) (ps,[])
theorem Xe (r us:List Int)(ps:List Plc):zi r us ps 0=(ps,[]):=rfl
theorem Ug {r us:List Int}{ps:List Plc}{k:Nat}(h:k<us.length):zi r us ps (k+1)=Jl r (zi r us ps k) (gi us k):=by
 unfold zi
 rw [zA0 h,List.foldl_append]
 rfl
theorem qp {r us:List Int}{ps:List Plc}{k:Nat}(h:k<us.length)(h2:ixQ (yN (gi us k) r) (zi r us ps k).1<0):zi r us ps (k+1)=((zi r us ps k).1++ [⟨gi us k,r⟩],(zi r us ps k).2++ [((zi r us ps k).1.length:Int)]):=by
 rw [Ug h];unfold Jl;rw [if_pos h2]
theorem qq {r us:List Int}{ps:List Plc}{k:Nat}(h:k<us.length)(h2: ¬ixQ (yN (gi us k) r) (zi r us ps k).1<0):zi r us ps (k+1)=((zi r us ps k).1,(zi r us ps k).2++ [ixQ (yN (gi us k) r) (zi r us ps k).1]):=by
 rw [Ug h];unfold Jl;rw [if_neg h2]
theorem ZI {r us:List Int}{ps:List Plc}: ∀{k:Nat},k≤us.length→(zi r us ps k).2.length=k∧ps.length≤(zi r us ps k).1.length∧(zi r us ps k).1.length≤ps.length+k
 |0,_=>by rw [Xe];exact⟨rfl,Nat.le_refl _,Nat.le_refl _⟩
 |k+1,h=>by
  have h1:=ZI (r:=r) (us:=us) (ps:=ps) (k:=k) (by omega)
  by_cases h2:ixQ (yN (gi us k) r) (zi r us ps k).1<0
  ·rw [qp (by omega) h2];simp only [List.length_append,List.length_cons,List.length_nil];omega
  ·rw [qq (by omega) h2];simp only [List.length_append,List.length_cons,List.length_nil];omega
theorem UM (p:Plc→Bool)(ps:List Plc): -1≤ixQ p ps∧ixQ p ps<ps.length:=by unfold ixQ;split<;>omega
theorem Yr {r us:List Int}{ps:List Plc}{O:Plc→Prop}(h0: ∀p∈ps,O p)(h1: ∀u∈us,O ⟨u,r⟩): ∀{k:Nat},k≤us.length→∀p∈(zi r us ps k).1,O p
 |0,_,p,hp=>h0 p hp
 |k+1,h,p,hp=>by
  by_cases h2:ixQ (yN (gi us k) r) (zi r us ps k).1<0
  ·rw [qp (by omega) h2,List.mem_append]at hp
   rcases hp with hp|hp
   ·exact Yr h0 h1 (by omega) p hp
   ·rw [List.mem_singleton]at hp;subst hp;exact h1 _ (UJ (by omega))
  ·rw [qq (by omega) h2]at hp
   exact Yr h0 h1 (by omega) p hp
section
variable (us rc:Plc→List Int) (p0:Plc)
def stQ :Nat→List Plc
 |0=> [p0]
 |i+1=>if i<(stQ i).length then(zi (rc (gq (stQ i) i)) (us (gq (stQ i) i)) (stQ i) (us (gq (stQ i) i)).length).1 else stQ i
def rowQ (i k:Nat):List Plc×List Int:=zi (rc (gq (stQ us rc p0 i) i)) (us (gq (stQ us rc p0 i) i)) (stQ us rc p0 i) k
def plQ (i:Nat):Plc:=gq (stQ us rc p0 i) i
end
variable {us rc:Plc→List Int} {p0:Plc}
theorem uU {i:Nat}(h:i<(stQ us rc p0 i).length):stQ us rc p0 (i+1)=(rowQ us rc p0 i (us (plQ us rc p0 i)).length).1:=by
 show(if i<(stQ us rc p0 i).length then _ else _)=_
 rw [if_pos h];rfl
theorem Qt {i:Nat}(h: ¬i<(stQ us rc p0 i).length):stQ us rc p0 (i+1)=stQ us rc p0 i:=by
 show(if i<(stQ us rc p0 i).length then _ else _)=_
 rw [if_neg h]
theorem zAt {i:Nat}(h: ¬i<(stQ us rc p0 i).length){j:Nat}(hj:i≤j):stQ us rc p0 j=stQ us rc p0 i:=by
 induction j with
 |zero=>
      have :i=0:=by omega
      subst this;rfl
 |succ j ih=>
  rcases Nat.lt_or_ge j i with h1|h1
  ·have :i=j+1:=by omega
   subst this;rfl
  ·have h2:=ih h1
   rw [Qt (by rw [h2];omega),h2]
theorem Xz {O:Plc→Prop}(h0:O p0)(h1: ∀p,O p→∀u∈us p,O ⟨u,rc p⟩): ∀i,∀p∈stQ us rc p0 i,O p
 |0,p,hp=>by rw [show stQ us rc p0 0= [p0]from rfl,List.mem_singleton]at hp;subst hp;exact h0
 |i+1,p,hp=>by
  by_cases h:i<(stQ us rc p0 i).length
  ·rw [uU h]at hp
   refine Yr (O:=O) (Xz h0 h1 i) (fun u hu=>h1 _ (Xz h0 h1 i _ (XR h)) u hu) (Nat.le_refl _) p hp
  ·rw [Qt h]at hp
   exact Xz h0 h1 i p hp
def chM (a:Ar)(m:Me)(p:Plc):Int:=gi (gl m.choice (gi p.record 0).toNat) p.at_.toNat
def usM (a:Ar)(m:Me)(p:Plc):List Int:=if gi a.owner p.at_.toNat=0 then(if chM a m p<0 then []else [chM a m p])else gl a.next p.at_.toNat
def ntM (m:Me)(p:Plc):Int:=gi (gl m.next (gi p.record 0).toNat) p.at_.toNat
def rcM (m:Me)(p:Plc):List Int:= [ntM m p]
theorem Vr {a:Ar}{m:Me}{p:Plc}(h:gi a.owner p.at_.toNat=0)(h2:chM a m p<0):usM a m p= []:=by unfold usM;rw [if_pos h,if_pos h2]
theorem QD {a:Ar}{m:Me}{p:Plc}(h:gi a.owner p.at_.toNat=0)(h2: ¬chM a m p<0):usM a m p= [chM a m p]:=by unfold usM;rw [if_pos h,if_neg h2]
theorem QC {a:Ar}{m:Me}{p:Plc}(h: ¬gi a.owner p.at_.toNat=0):usM a m p=gl a.next p.at_.toNat:=by unfold usM;rw [if_neg h]
def stM (a:Ar)(m:Me)(s:Int)(i:Nat):List Plc:=stQ (usM a m) (rcM m) ⟨s,[0]⟩ i
def rwM (a:Ar)(m:Me)(s:Int)(i:Nat):List Int:=(zi (rcM m (gq (stM a m s i) i)) (usM a m (gq (stM a m s i) i)) (stM a m s i) (usM a m (gq (stM a m s i) i)).length).2
def rsM (a:Ar)(m:Me)(s:Int)(n:Nat):List (List Int):=(List.range n).map (rwM a m s)
theorem kX (a:Ar)(m:Me)(s:Int)(n:Nat):(rsM a m s n).length=n:=by simp [rsM]
theorem zBC (a:Ar)(m:Me)(s:Int):rsM a m s 0= []:=rfl
theorem Jj (a:Ar)(m:Me)(s:Int)(n:Nat):rsM a m s (n+1)=rsM a m s n++ [rwM a m s n]:=by simp [rsM,List.range_succ]
def mmB (a:Ar)(m:Me)(s:Int):Bool:=yh a&&vL a m&&decide (0≤s∧s<a.owner.length)
structure MmI (a:Ar)(m:Me)(s:Int):Prop where
 ar:yh a=true
 mem:vL a m=true
 st:0≤s∧s<a.owner.length
def mmP (a:Ar)(m:Me)(s:Int):List Plc:=if mmB a m s then stM a m s 6145 else []
theorem zC4 {a:Ar}{m:Me}{s:Int}(h:yh a=false):mmB a m s=false:=by unfold mmB;rw [h];rfl
theorem zC5 {a:Ar}{m:Me}{s:Int}(h:vL a m=false):mmB a m s=false:=by unfold mmB;rw [h,Bool.and_false];rfl
theorem UW {a:Ar}{m:Me}{s:Int}(h: ¬(0≤s∧s<a.owner.length)):mmB a m s=false:=by unfold mmB;rw [decide_eq_false h,Bool.and_false]
theorem UX {a:Ar}{m:Me}{s:Int}(h1:yh a=true)(h2:vL a m=true)(h3:0≤s∧s<a.owner.length):mmB a m s=true:=by unfold mmB;rw [h1,h2,decide_eq_true h3];rfl
theorem Kv {a:Ar}{m:Me}{s:Int}(h:mmB a m s=false):mmP a m s= []:=by unfold mmP;rw [h];exact if_neg (by decide)
theorem WN {a:Ar}{m:Me}{s:Int}(h:mmB a m s=true):mmP a m s=stM a m s 6145:=by unfold mmP;rw [h];exact if_pos rfl
theorem XX {a:Ar}{m:Me}{s:Int}(h:mmB a m s=true):MmI a m s:=by
 unfold mmB at h
 rw [Bool.and_eq_true,Bool.and_eq_true,decide_eq_true_eq]at h
 exact⟨h.1.1,h.1.2,h.2⟩
def OkM (a:Ar)(m:Me)(p:Plc):Prop:=0≤p.at_∧p.at_<a.owner.length∧p.record= [gi p.record 0]∧0≤gi p.record 0∧gi p.record 0<m.next.length
section
variable {a:Ar} {m:Me} {s:Int}
theorem kW {xs:List Int}{n:Int}(h:vO xs n=true){u:Int}(hu:u∈xs):0≤u∧u<n:=by
 obtain⟨j,hj,rfl⟩:=List.mem_iff_getElem.1 hu
 have :=va h hj
 unfold qo at this
 have :=of_decide_eq_true this
 have e:gi xs j=xs[j]:=by
  unfold gi
  rw [List.getD_eq_getElem?_getD,List.getElem?_eq_getElem hj]
  rfl
 rw [e]at this
 exact⟨this.1,this.2.1⟩
theorem Vs (h:MmI a m s){p:Plc}(hp:OkM a m p):(usM a m p).length≤16∧(∀u∈usM a m p,0≤u∧u<a.owner.length)∧0≤ntM m p∧ntM m p<m.next.length:=by
 obtain⟨k1,k2⟩:=vD h.mem
 obtain⟨p1,p2,p3,p4,p5⟩:=hp
 obtain⟨k3,k4,k5⟩:=k2 (gi p.record 0).toNat (by omega)
 have hv:p.at_.toNat<a.owner.length:=by omega
 obtain⟨h1,h2,h3,h4,h5⟩:=Wj h.ar hv
 have h6:=k5 p.at_.toNat (by omega)
 have k7:=Qo k4
 refine⟨?_,?_,h6.1,h6.2⟩
 ·by_cases e:gi a.owner p.at_.toNat=0
  ·by_cases e2:chM a m p<0
   ·rw [Vr e e2];simp
   ·rw [QD e e2];simp
  ·rw [QC e];exact h4
 ·intro u hu
  by_cases e:gi a.owner p.at_.toNat=0
  ·by_cases e2:chM a m p<0
   ·rw [Vr e e2]at hu;cases hu
   ·rw [QD e e2]at hu
    have hu:u=chM a m p:=by simpa using hu
    subst hu
    rcases k7.2 p.at_.toNat (by omega)with h7|⟨h7,h8⟩
    ·unfold chM at e2;omega
    ·exact kW h5 ((Kf _ _).1 h8)
  ·rw [QC e]at hu
   exact kW h5 hu
theorem vc (h:MmI a m s): ∀i,∀p∈stM a m s i,OkM a m p:=
 Xz (O:=OkM a m) ⟨h.st.1,h.st.2,rfl,(by show(0:Int)≤0;decide),(by show(0:Int)<m.next.length;have :=(vD h.mem).1;omega)⟩ fun p hp u hu=>by
  obtain⟨h1,h2,h3,h4⟩:=Vs h hp
  have :=h2 u hu
  exact⟨this.1,this.2,rfl,h3,h4⟩
theorem Xx (h:MmI a m s){i k:Nat}(hi:i<(stM a m s i).length)(hk:k≤(usM a m (gq (stM a m s i) i)).length): ∀p∈(zi (rcM m (gq (stM a m s i) i)) (usM a m (gq (stM a m s i) i)) (stM a m s i) k).1,OkM a m p:=
 Yr (O:=OkM a m) (vc h i) (fun u hu=>by
  obtain⟨h1,h2,h3,h4⟩:=Vs h (vc h i _ (XR hi))
  have :=h2 u hu
  exact⟨this.1,this.2,rfl,h3,h4⟩) hk
theorem zBm {p:Plc→Bool}{ps:List Plc}(h:ixQ p ps<0): ∀q∈ps,p q=false:=by
 unfold ixQ at h
 split at h
 ·omega
 ·rename_i h1
  intro q hq
  cases hb:p q with
  |false=>rfl
  |true=>exact absurd (List.findIdx_lt_length.2 ⟨q,hq,hb⟩) h1
theorem Qq {r us:List Int}{ps:List Plc}(h:ps.Nodup): ∀{k:Nat},k≤us.length→(zi r us ps k).1.Nodup
 |0,_=>h
 |k+1,hk=>by
  have ih:=Qq (r:=r) (us:=us) h (k:=k) (by omega)
  by_cases h2:ixQ (yN (gi us k) r) (zi r us ps k).1<0
  ·rw [qp (by omega) h2]
   show((zi r us ps k).1++ [_]).Nodup
   rw [List.nodup_append]
   refine⟨ih,by simp,fun x hx y hy e=> ?_⟩
   have hy2:y=⟨gi us k,r⟩:=by simpa using hy
   have h3:=zBm h2 x hx
   rw [e,hy2,ZY (p:=⟨gi us k,r⟩) (u:=gi us k) (r:=r) rfl rfl]at h3
   cases h3
  ·rw [qq (by omega) h2];exact ih
theorem WR {us rc:Plc→List Int}{p0:Plc}: ∀i,(stQ us rc p0 i).Nodup
 |0=>by show [p0].Nodup;simp
 |i+1=>by
  have ih:=WR (us:=us) (rc:=rc) (p0:=p0) i
  by_cases h:i<(stQ us rc p0 i).length
  ·rw [uU h];exact Qq ih (Nat.le_refl _)
  ·rw [Qt h];exact ih
theorem few8 {ps:List Plc}(h:MmI a m s)(hn:ps.Nodup)(ho: ∀p∈ps,OkM a m p):ps.length≤6144:=by
 have hal:=xE h.ar
 have k1:=(vD h.mem).1
 have hl:(ps.map fun p=>p.at_.toNat*24+(gi p.record 0).toNat).length≤6144:=by
  refine Kx _ _ (List.pairwise_map.2 (List.Pairwise.imp_of_mem (fun{p q} hp hq hne e=> ?_) hn)) fun x hx=> ?_
  ·apply hne
   obtain⟨p1,p2,p3,p4,p5⟩:=ho p hp
   obtain⟨q1,q2,q3,q4,q5⟩:=ho q hq
   have e1:gi p.record 0=gi q.record 0:=by omega
   have e2:p.at_=q.at_:=by omega
   have e3:p.record=q.record:=by rw [p3,q3,e1]
   obtain⟨pa,pr⟩:=p
   obtain⟨qa,qr⟩:=q
   simp only at e2 e3
   rw [e2,e3]
  ·obtain⟨p,hp,rfl⟩:=List.mem_map.1 hx
   obtain⟨p1,p2,p3,p4,p5⟩:=ho p hp
   show p.at_.toNat*24+(gi p.record 0).toNat<6144
   omega
 simpa using hl
theorem uA (h:MmI a m s)(i:Nat):(stM a m s i).length≤6144:=few8 h (WR i) (vc h i)
theorem VS (h:MmI a m s){i k:Nat}(hi:i<(stM a m s i).length)(hk:k≤(usM a m (gq (stM a m s i) i)).length):(zi (rcM m (gq (stM a m s i) i)) (usM a m (gq (stM a m s i) i)) (stM a m s i) k).1.length≤6144:=few8 h (Qq (WR i) hk) (Xx h hi hk)
theorem zA6 (h:MmI a m s){i:Nat}(hi:i≤6145)(h2: ¬i<(stM a m s i).length):stM a m s 6145=stM a m s i:=zAt h2 hi
theorem Jk {i:Nat}(h:i<(stM a m s i).length):stM a m s (i+1)=(zi (rcM m (gq (stM a m s i) i)) (usM a m (gq (stM a m s i) i)) (stM a m s i) (usM a m (gq (stM a m s i) i)).length).1:=uU h
end
def mdF :List Plc→Nat→MD
 | [],_=> []
 |p::ps,i=>((p.at_,gi p.record 0),(i:Int))::mdF ps (i+1)
theorem WL : ∀(ps:List Plc) (p:Plc) (i:Nat),mdF (ps++ [p]) i=mdF ps i++ [((p.at_,gi p.record 0),((i+ps.length:Nat):Int))]
 | [],p,i=>rfl
 |q::ps,p,i=>by
  simp only [List.cons_append,mdF,WL ps p (i+1),List.length_cons]
  rw [show i+1+ps.length=i+(ps.length+1) by omega]
theorem WE (f:Plc→Bool):ixQ f []= -1:=rfl
theorem zAY (f:Plc→Bool)(p:Plc)(ps:List Plc):ixQ f (p::ps)=if f p then 0 else if ixQ f ps<0 then -1 else ixQ f ps+1:=by
 unfold ixQ
 rw [List.findIdx_cons]
 cases f p with
 |true=>simp
 |false=>
  simp only [List.length_cons,cond_false]
  by_cases e:List.findIdx f ps<ps.length
  ·rw [if_pos (by omega),if_pos e];simp;omega
  ·rw [if_neg (by omega),if_neg e];simp
theorem WI (u t:Int): ∀(ps:List Plc) (i:Nat),(∀p∈ps,p.record= [gi p.record 0])→lkM (mdF ps i) (u,t)=if ixQ (yN u [t]) ps<0 then none else some (ixQ (yN u [t]) ps+i)
 | [],i,_=>by rw [WE];rfl
 |p::ps,i,h=>by
  have ih:=WI u t ps (i+1) fun q hq=>h q (List.mem_cons_of_mem _ hq)
  have hp:=h p List.mem_cons_self
  have hr:=UM (yN u [t]) ps
  rw [zAY]
  simp only [mdF,lkM]
  by_cases e:(u,t)=(p.at_,gi p.record 0)
  ·have e1:u=p.at_:=congrArg Prod.fst e
   have e2:t=gi p.record 0:=congrArg Prod.snd e
   rw [if_pos e,ZY e1.symm (by rw [e2];exact hp)]
   simp
  ·have :yN u [t] p=false:=by
    by_cases e1:p.at_=u
    ·refine JO fun e2=>e ?_
     have :gi p.record 0=t:=by rw [e2];rfl
     rw [this,e1]
    ·exact JN e1
   rw [if_neg e,ih,this]
   simp only [Bool.false_eq_true,if_false]
   by_cases e3:ixQ (yN u [t]) ps<0
   ·rw [if_pos e3,if_pos e3];rfl
   ·rw [if_neg e3,if_neg e3,if_neg (by omega)]
    congr 1
    push_cast
    omega
theorem zA9 {ps:List Plc}{u t:Int}(h: ∀p∈ps,p.record= [gi p.record 0])(h2:ixQ (yN u [t]) ps<0):lkM (mdF ps 0) (u,t)=none:=by rw [WI u t ps 0 h,if_pos h2]
theorem UQ {ps:List Plc}{u t:Int}(h: ∀p∈ps,p.record= [gi p.record 0])(h2: ¬ixQ (yN u [t]) ps<0):lkM (mdF ps 0) (u,t)=some (ixQ (yN u [t]) ps):=by rw [WI u t ps 0 h,if_neg h2];simp
def whV (n k:Nat)(ps:List Plc):List Int:=(List.range (n*k)).map fun j=>ixQ (yN ((j%n:Nat):Int) [((j / n:Nat):Int)]) ps
theorem QE (n k:Nat)(ps:List Plc):(whV n k ps).length=n*k:=by simp [whV]
theorem Vt {n k:Nat}{ps:List Plc}{u t:Int}(hu:0≤u∧u<n)(ht:0≤t∧t<k):(t*n+u).toNat<n*k∧gi (whV n k ps) (t*n+u).toNat=ixQ (yN u [t]) ps:=by
 obtain⟨u,rfl⟩:=Int.eq_ofNat_of_zero_le hu.1
 obtain⟨t,rfl⟩:=Int.eq_ofNat_of_zero_le ht.1
 have e:((t:Int)*n+u).toNat=t*n+u:=by
  rw [show(t:Int)*n+u=((t*n+u:Nat):Int) by push_cast];exact Int.toNat_natCast _
 have h1:u<n:=by omega
 have h2:t<k:=by omega
 have h3:t*n+u<n*k:=by
  have :(t+1)*n≤k*n:=Nat.mul_le_mul_right n (by omega)
  rw [Nat.add_mul,Nat.one_mul]at this
  rw [Nat.mul_comm n k]
  omega
 rw [e]
 refine⟨h3,?_⟩
 unfold gi whV
 rw [List.getD_eq_getElem?_getD,List.getElem?_map,List.getElem?_range h3]
 show ixQ _ ps=_
 rw [show(t*n+u)%n=u by rw [Nat.mul_comm,Nat.mul_add_mod,Nat.mod_eq_of_lt h1],show(t*n+u) / n=t by rw [Nat.mul_comm,Nat.mul_add_div (by omega),Nat.div_eq_of_lt h1,Nat.add_zero]]
theorem Kj (f:Plc→Bool)(p:Plc)(ps:List Plc):ixQ f (ps++ [p])=if ixQ f ps<0 then(if f p then(ps.length:Int)else -1)else ixQ f ps:=by
 unfold ixQ
 rw [List.findIdx_append,List.length_append,List.length_singleton]
 by_cases e:List.findIdx f ps<ps.length
 ·rw [if_pos e,if_pos (by omega),if_pos e,if_neg (by omega)]
 ·rw [if_neg e,if_neg e,if_pos (show(-1:Int)<0 by omega),List.findIdx_singleton]
  cases hf:f p with
  |true=>simp
  |false=>simp;omega
theorem kZ {n k:Nat}{ps:List Plc}{u t:Int}(hu:0≤u∧u<n)(ht:0≤t∧t<k)(h:ixQ (yN u [t]) ps<0):(whV n k ps).set (t*n+u).toNat ps.length=whV n k (ps++ [⟨u,[t]⟩]):=by
 have hb:=(Vt (k:=k) (ps:=ps) hu ht).1
 obtain⟨u,rfl⟩:=Int.eq_ofNat_of_zero_le hu.1
 obtain⟨t,rfl⟩:=Int.eq_ofNat_of_zero_le ht.1
 have e:((t:Int)*n+u).toNat=t*n+u:=by
  rw [show(t:Int)*n+u=((t*n+u:Nat):Int) by push_cast];exact Int.toNat_natCast _
 have h1:u<n:=by omega
 rw [e]at hb⊢
 refine List.ext_getElem? fun j=> ?_
 rw [List.getElem?_set]
 unfold whV
 rw [List.length_map,List.length_range,List.getElem?_map,List.getElem?_map]
 by_cases hj:j<n*k
 ·rw [List.getElem?_range hj]
  simp only [Option.map_some,Kj]
  by_cases e2:t*n+u=j
  ·subst e2
   rw [if_pos rfl,if_pos hj,show(t*n+u)%n=u by rw [Nat.mul_comm,Nat.mul_add_mod,Nat.mod_eq_of_lt h1],show(t*n+u) / n=t by rw [Nat.mul_comm,Nat.mul_add_div (by omega),Nat.div_eq_of_lt h1,Nat.add_zero]]
   rw [if_pos h,ZY (p:=⟨(u:Int),[(t:Int)]⟩) rfl rfl]
   simp
  ·rw [if_neg e2]
   have :yN ((j%n:Nat):Int) [((j / n:Nat):Int)] ⟨(u:Int),[(t:Int)]⟩=false:=by
    by_cases e3:(u:Int)=((j%n:Nat):Int)
    ·refine JO fun e4=>e2 ?_
     have e4: [(t:Int)]= [((j / n:Nat):Int)]:=e4
     have e5:(t:Int)=((j / n:Nat):Int):=by injection e4
     have :=Nat.div_add_mod j n
     rw [Nat.mul_comm]at this
     have e6:t=j / n:=by omega
     have e7:u=j%n:=by omega
     rw [e6,e7];exact this
    ·exact JN e3
   rw [this]
   simp only [Bool.false_eq_true,if_false]
   have :=UM (yN ((j%n:Nat):Int) [((j / n:Nat):Int)]) ps
   split
   ·rw [show ixQ (yN ((j%n:Nat):Int) [((j / n:Nat):Int)]) ps= -1 by omega]
   ·rfl
 ·rw [List.getElem?_eq_none (l:=List.range (n*k)) (by simp;omega)]
  rw [if_neg (by omega)]
  rfl
theorem un (ps:List Plc)(x t:Int):yF ps++ [D.int .i64 x,D.lst 2 [D.int .i64 t]]=yF (ps++ [⟨x,[t]⟩]):=Wi ps x [t]
attribute [push_cast] un
end Go.Proofs.Ythepmdkpbjfdcaa
