/- The statements' arguments, read as data. -/
import Derived.Test.YtggpbepdeilpgaaGWzmt
import Derived.Test.YtggpbepdeilpgaaB4zmt
import Derived.Deep.Slices
import Derived.Test.YtggpbepdeilpgaaGEzmt
namespace Go.Proofs.Ytggpbepdeilpgaa
open Go.ChangeShapes Go.WideShapes Go.ChangeAt Go.RowKit Go.Deep Go.Joins
set_option linter.unusedVariables false
set_option linter.unusedSimpArgs false
theorem Yf {α:Type}{k:Nat}(hk:0<k): ∀{ls:List (List α)},(∀l∈ls,l.length=k)→∀i,ls.flatten[i]? =(ls[i / k]?).bind fun l=>l[i%k]?
 | [],_,i=>by simp
 |l::ls,h,i=>by
  have hl:=h l (by simp)
  rw [List.flatten_cons]
  by_cases hi:i<k
  ·rw [List.getElem?_append_left (by omega),Nat.div_eq_of_lt hi,Nat.mod_eq_of_lt hi];rfl
  ·rw [List.getElem?_append_right (by omega),hl,Yf hk (fun l hl=>h l (by simp [hl]))]
   have e1:i / k=(i - k) / k+1:=by rw [←Nat.add_div_right _ hk,Nat.sub_add_cancel (by omega)]
   have e2:i%k=(i - k)%k:=by rw [←Nat.mod_eq_sub_mod (by omega)]
   rw [e1,e2,List.getElem?_cons_succ]
theorem YE {α:Type}{k:Nat}: ∀{ls:List (List α)},(∀l∈ls,l.length=k)→ls.flatten.length=ls.length*k
 | [],_=>by simp
 |l::ls,h=>by
  rw [List.flatten_cons,List.length_append,YE (fun l hl=>h l (by simp [hl])),h l (by simp),List.length_cons,Nat.add_mul]
  omega
theorem zJo {S:TypeId→Nat}{lo:Nat}{w:World}{ow:Nat→Option Pl}{ds:List D}{cs:List Value}(h:RpS S lo w ow ds cs){i:Nat}{d:D}{c:Value}(hd:ds[i]? =some d)(hc:cs[i]? =some c):Rp S lo w ow .sh d c:=(QW h).2 i d c hd hc
theorem zIY {S:TypeId→Nat}{lo:Nat}{w:World}{ow:Nat→Option Pl}{d:D}{c:Value}(h:Rp S lo w ow .sh d c):RpS S lo w ow [d] [c]:=by simp only [RpS];exact⟨c,[],rfl,h,rfl⟩
def i64 (x:Int):Prop:= -9223372036854775808≤x∧x≤9223372036854775807
section
variable {H:Type} {enc:TypeId×Value→H} {W:World} {lo:Nat}
abbrev Tro (enc:TypeId×Value→H)(W:World)(fuel:Nat)(t:TypeId)(cs:List Value)(x:DataW H×List MemPlace):Prop:=DataW.trod enc Try.prog W 0 (fun _=>true) true fuel t cs=some x
abbrev RpN (lo:Nat)(W:World)(d:D)(v:Value):Prop:=Rp (sz tyT) lo W (fun _=>none) .sh d v
abbrev RpSN (lo:Nat)(W:World)(ds:List D)(cs:List Value):Prop:=RpS (sz tyT) lo W (fun _=>none) ds cs
theorem zGo {w:World}{a:Addr}{n:Nat}{cs:List Value}(h:w.cells? 0 a n=some cs)(hn:n≠0):a.spot=none∧a.block<w.heap.size:=by
 obtain⟨_,h1,h2⟩:=World.cells?_some h
 have h3:w.cell? (a.add 0)=some cs[0]:=(h2 0 (by omega)).trans (List.getElem?_eq_getElem (by omega))
 have ha:a.add 0=a:=rfl
 rw [ha]at h3
 have hlt:=World.block_lt_of_cell? w a h3
 refine⟨?_,hlt⟩
 rcases hsp:a.spot with _|s
 ·rfl
 ·exfalso
  unfold World.cell? at h3
  rw [hsp]at h3
  split at h3
  ·simp at h3
  ·cases h3
theorem zKw {t e:TypeId}{k:Nat}(ht:Try.prog.underlying t=some (.slice e))(hk:0<k)(hS:sz tyT e=k)(hc:Try.prog.cellsOf e=k){Q:List D→Prop}
  (hQ: ∀(n:Nat) (cs:List Value) (y:DataW H×List MemPlace),Tro enc W n e cs y→∃ds,RpSN lo W ds cs∧Q ds) {fuel:Nat} {cs:List Value} {x:DataW H×List MemPlace} (h:Tro enc W fuel t cs x):
  ∃(v:Value) (dss:List (List D)),cs= [v]∧RpN lo W (.lst e dss.flatten) v∧dss.length≤9223372036854775807∧∀ds∈dss,Q ds∧ds.length=k:=by
 rcases open_slice ht h with⟨rfl,-⟩|⟨a,len,cap,m,n,Dt,Pl,rfl,-,hl,hm,hmm,-,hx⟩
 ·exact⟨_,[],rfl,(zw _ _).2 ⟨[],⟨rfl,0,by simp,none,0,rfl,Nat.le_refl _,by unfold maxLen;omega,fun h=>absurd rfl h⟩,fun i x u hx=>by simp at hx⟩,by simp,fun ds h=>by simp at h⟩
 simp only [if_true]at hmm
 subst hmm
 rw [hc]at hx
 obtain⟨f,hf⟩:=choose_lt (α:=List Value×List D) (p:=fun i y=>W.cells? 0 (a.add (i*k)) k=some y.1∧RpSN lo W y.2 y.1∧Q y.2) (fun i hi=>by
  obtain⟨cs',h1,h2⟩:=hx i hi
  obtain⟨ds,h3,h4⟩:=hQ n cs' _ h2
  exact⟨(cs',ds),h1,h3,h4⟩)
 have hlen: ∀i,i<m→(f i).1.length=k∧(f i).2.length=k:=fun i hi=>by
  obtain⟨h1,h2,h3⟩:=hf i hi
  obtain⟨_,h4,_⟩:=World.cells?_some h1
  have :=(QW h2).1
  exact⟨h4,by omega⟩
 let dss:=(List.range len).map fun i=>(f i).2
 let vss:=(List.range len).map fun i=>(f i).1
 have hd: ∀l∈dss,l.length=k:=fun l hl'=>by
  obtain⟨i,hi,rfl⟩:=List.mem_map.1 hl'
  have :=List.mem_range.1 hi
  exact(hlen i (by omega)).2
 have hv: ∀l∈vss,l.length=k:=fun l hl'=>by
  obtain⟨i,hi,rfl⟩:=List.mem_map.1 hl'
  have :=List.mem_range.1 hi
  exact(hlen i (by omega)).1
 have hdl:dss.length=len:=by simp [dss]
 have hvl:vss.length=len:=by simp [vss]
 refine⟨_,dss,rfl,(zw _ _).2 ⟨vss.flatten,⟨by rw [YE hd,YE hv,hdl,hvl],len,by rw [YE hd,hdl,hS],some a,m,rfl,hl,hm,fun h0=> ?_⟩,fun i d u hdi hui=> ?_⟩,by rw [hdl];unfold maxLen at hm;omega,fun ds hds=> ?_⟩
 ·have h1:=(hf 0 (by omega)).1
  rw [Nat.zero_mul]at h1
  have ha:a.add 0=a:=rfl
  rw [ha]at h1
  obtain⟨hs,hlt⟩:=zGo h1 (by omega)
  obtain⟨b,o,s⟩:=a
  simp only at hs
  subst hs
  refine⟨b,o,rfl,hlt,rfl,fun i u hu=> ?_⟩
  rw [Yf hk hv]at hu
  have hik:i / k<len:=by
   rcases Nat.lt_or_ge (i / k) len with h|h
   ·exact h
   ·rw [List.getElem?_eq_none (by rw [hvl];exact h)]at hu;cases hu
  rw [List.getElem?_map,List.getElem?_range hik]at hu
  simp only [Option.map_some,Option.bind_some]at hu
  obtain⟨_,_,h5⟩:=World.cells?_some (hf (i / k) (by omega)).1
  have :=(h5 (i%k) (Nat.mod_lt _ hk)).trans hu
  rw [add_plain,add_plain]at this
  rw [show o+i / k*k+i%k=o+i from by have :=Nat.div_add_mod' i k;omega]at this
  exact this
 ·rw [Yf hk hd]at hdi
  rw [Yf hk hv]at hui
  have hik:i / k<len:=by
   rcases Nat.lt_or_ge (i / k) len with h|h
   ·exact h
   ·rw [List.getElem?_eq_none (by rw [hvl];exact h)]at hui;cases hui
  rw [List.getElem?_map,List.getElem?_range hik]at hui hdi
  simp only [Option.map_some,Option.bind_some]at hui hdi
  exact zJo (hf (i / k) (by omega)).2.1 hdi hui
 ·refine⟨?_,hd ds hds⟩
  obtain⟨i,hi,rfl⟩:=List.mem_map.1 hds
  exact(hf i (by have :=List.mem_range.1 hi;omega)).2.2
end
theorem zG4 {P:Program}{f:FuncId}{args:List VT}{W:World}{cargs:List Value}(h:Fn P tyT f args [.c (.bool true)])(ha:vo (sz tyT) W.heap.size W (fun _=>none) args cargs):Calls P f cargs.toArray W (fun e w'=>e= .returned (.bool true)∧Below W.heap.size W w'):=by
 refine(h.2 W cargs ha).mono fun e w' hp=> ?_
 obtain⟨vs,ow',rfl,hb,-,-,hr⟩:=hp
 simp only [vH,Rp]at hr
 obtain⟨v,vs',rfl,rfl,rfl⟩:=hr
 exact⟨rfl,hb⟩
open Nat renaming reduceMod → zA, reduceMul → zB, reduceDiv → zC, reduceAdd → zD, reduceSub → zE, reduceEqDiff → zF, reduceBEq → zG, reduceLT → zH, reduceLeDiff → zI
open Go.RowKit
def dU (xs:List Int):List D:=xs.map (.int .u8)
theorem zFY (xs:List Int):(dU xs).length=xs.length:=by simp [dU]
theorem zI3 (xs:List Int)(i:Nat):XB (dU xs) i=gi xs i:=by
 unfold XB dU gi
 rw [List.getElem?_map,List.getD_eq_getElem?_getD]
 cases xs[i]? <;>rfl
theorem zIU (xs:List Int)(i:Nat):xK (.int .u8) (dU xs) i=(i<xs.length):=by
 unfold xK dU
 rw [List.getElem?_map]
 apply propext
 constructor
 ·rintro⟨n,h⟩
  cases hx:xs[i]? with
  |none=>rw [hx]at h;cases h
  |some y=>exact(List.getElem?_eq_some_iff.1 hx).1
 ·intro h
  rw [List.getElem?_eq_getElem h]
  exact⟨_,rfl⟩
theorem zJe (xs:List Int)(n:Nat):(dU xs).take n=dU (xs.take n):=by simp [dU]
theorem zIt (xs:List Int)(n:Nat):(dU xs).drop n=dU (xs.drop n):=by simp [dU]
theorem zJf :Int.toNat 33=33:=rfl
theorem zJJ :min 33 64=33:=rfl
theorem zIf (n:Int):arC .i64 n=(.int .i64 n,jH n):=rfl
attribute [push_cast] zJf zJJ zIf zFY zI3 zIU zJe zIt
def yv (xs:List Int):Prop:=xs.length≤4096∧∀k,k<xs.length→0≤gi xs k∧gi xs k≤255
theorem zJp {a m:Int}(h0:0≤m)(h1:m≤1073741823):0≤VB .u64 a m∧VB .u64 a m≤m:=by
 have e:(BitVec.ofInt 64 a&&&BitVec.ofInt 64 m).toNat≤m.toNat:=by
  rw [BitVec.toNat_and]
  refine Nat.le_trans Nat.and_le_right ?_
  rw [BitVec.toNat_ofInt]
  have :((2^64:Nat):Int)=18446744073709551616:=by decide
  rw [this]
  omega
 unfold VB
 have hb:IntKind.u64.bits=64:=rfl
 have hw: ∀n:Nat,(n:Int)≤1073741823→IntKind.u64.wrap (n:Int)=n:=fun n hn=>by
  unfold IntKind.wrap
  simp only [IntKind.bits,IntKind.signed]
  have :((2:Int)^64)=18446744073709551616:=by decide
  simp [this]
  omega
 show 0≤IntKind.u64.wrap ((BitVec.ofInt 64 a&&&BitVec.ofInt 64 m).toNat:Int)∧IntKind.u64.wrap ((BitVec.ofInt 64 a&&&BitVec.ofInt 64 m).toNat:Int)≤m
 rw [hw _ (by omega)]
 omega
def dH (h:Int):Int:=IntKind.u64.wrap (IntKind.u64.wrap (h*6364136223846793005)+1442695040888963407)
def dX (h:Int):Int:=VB .u64 (dH h / 2^33) 16777215
theorem zH3 (h:Int):0≤dX h∧dX h≤16777215:=zJp (by decide) (by decide)
def dI1 (code:List Int)(i:Int):Int:=if i<code.length then i+1 else i
def dR (code:List Int)(i h n:Int):Int:=(if i<code.length then dX h+gi code i.toNat else dX h).tmod n
theorem zKM {code:List Int}{i:Int}(h:0≤i∧i≤code.length):0≤dI1 code i∧dI1 code i≤code.length:=by unfold dI1;split<;>omega
theorem dR_rg {code:List Int}{i h n:Int}(hc:yv code)(hi:0≤i)(hn:1≤n):0≤dR code i h n∧dR code i h n<n:=by
 have h1:=zH3 h
 have h2:0≤(if i<code.length then dX h+gi code i.toNat else dX h):=by
  split
  ·have :=hc.2 i.toNat (by omega);omega
  ·omega
 unfold dR
 exact⟨Int.tmod_nonneg _ h2,Int.tmod_lt_of_pos _ (by omega)⟩
@[reducible] def dDc (code : List Int) (i h : Int) : List D := [.lst 5 (dU code), .int .i64 i, .int .u64 h]
set_option maxRecDepth 20000 in
set_option maxHeartbeats 4000000 in
theorem zEq (code:List Int)(hby:yv code)(i h:Int)(hi:0≤i∧i≤code.length)(n:Int)(hn:1≤n):FnB Try.prog tyT 20 (dDc code i h) [.c (.int .i64 n)] (dDc code (dI1 code i) (dH h)) [.c (.int .i64 (dR code i h n))]:=by
 have hX:0≤VB .u64 (IntKind.u64.wrap (IntKind.u64.wrap (h*6364136223846793005)+1442695040888963407) / 2^33) 16777215∧VB .u64 (IntKind.u64.wrap (IntKind.u64.wrap (h*6364136223846793005)+1442695040888963407) / 2^33) 16777215≤16777215:=zH3 h
 have hcl:=hby.1
 unfold dDc
 refine Vr (fn:=Try.f20) (rs:= [.tmp 4]) zQ zO Try.func20 (by kernel_rfl) rfl rfl (by rw [Try.ntmps20];exact Nat.le_of_ble_eq_true rfl) rfl (by simp only [szA,List.mem_cons,List.not_mem_nil,or_false,forall_eq_or_imp,forall_eq,false_implies,implies_true,VT.cells,szL];try decide) (Nat.le_of_ble_eq_true rfl) (by simp only [szL];decide) (Nat.le_of_ble_eq_true rfl) rfl ?_
 rw [Try.ntmps20]
 simp only [push_cast,↓zK,↓zJ,↓reduceIte,zA,zB,zC,zD,zE,zF,zG,zH,zI,reduceCtorEq]
 refine zL fun K hK=> ?_
 refine zM zQ zO [] rfl ?_
 simp only [push_cast,↓zK,↓zJ,↓reduceIte,zA,zB,zC,zD,zE,zF,zG,zH,zI,reduceCtorEq]
 repeat' apply And.intro
 all_goals try exact gB
 all_goals first|(refine hK _ ?_;clear hK K)|(simp only [push_cast];done)
 refine zL fun K hK=> ?_
 refine zM zQ zO [] rfl ?_
 simp only [push_cast,↓zK,↓zJ,↓reduceIte,zA,zB,zC,zD,zE,zF,zG,zH,zI,reduceCtorEq]
 repeat' apply And.intro
 all_goals try exact gB
 all_goals first|(refine hK _ ?_;clear hK K)|(simp only [push_cast];done)
 refine zL fun K hK=> ?_
 refine zM zQ zO [] rfl ?_
 all_goals refine yz 6 fun K9 hK9=> ?_
 all_goals simp only [push_cast,↓zK,↓zJ,↓reduceIte,zA,zB,zC,zD,zE,zF,zG,zH,zI,reduceCtorEq]
 all_goals repeat'(first|(apply zP<;>(intro hg;(try simp only [push_cast]at hg)))|apply And.intro|(intro hg;(try simp only [push_cast]at hg)))
 all_goals first|exact gA|trivial|skip
 all_goals first|(refine hK9 _ ?_;clear hK9 K9)|(simp only [push_cast];done)
 all_goals simp only [push_cast,↓zK,↓zJ,↓reduceIte,zA,zB,zC,zD,zE,zF,zG,zH,zI,reduceCtorEq]
 all_goals repeat'(first|(apply zP<;>(intro hg;(try simp only [push_cast]at hg)))|apply And.intro|(intro hg;(try simp only [push_cast]at hg)))
 all_goals first|exact gA|trivial|skip
 all_goals first|(refine hK _ ?_;clear hK K)|(simp only [push_cast];done)
 refine zL fun K1 hK1=> ?_
 refine zL fun K hK=> ?_
 refine vL false zQ zO xW ?_ rfl ?_
 ·kernel_rfl
 intro C hC
 simp only [push_cast,↓zK,↓zJ,↓reduceIte,zA,zB,zC,zD,zE,zF,zG,zH,zI,reduceCtorEq]
 repeat' apply And.intro
 all_goals first|omega|with_reducible assumption|(refine hC _ ?_;kernel_rfl)|(simp only [List.length_set,List.length_append,List.length_replicate,List.length_cons,List.length_nil];omega)|skip
 all_goals first|(refine hK _ ?_;clear hC C hK K)|(simp only [push_cast];done)
 refine zU rfl (fun hc=> ?_) (fun hc=> ?_)<;>(try simp only [push_cast]at hc)
 ·
  have hcb:=hby.2 i.toNat (by omega)
  refine zL fun K hK=> ?_
  refine vL false zQ zO xW ?_ rfl ?_
  ·kernel_rfl
  intro C hC
  simp only [push_cast,↓zK,↓zJ,↓reduceIte,zA,zB,zC,zD,zE,zF,zG,zH,zI,reduceCtorEq]
  repeat' apply And.intro
  all_goals first|omega|with_reducible assumption|(refine hC _ ?_;kernel_rfl)|(simp only [List.length_set,List.length_append,List.length_replicate,List.length_cons,List.length_nil];omega)|skip
  all_goals first|(refine hK _ ?_;clear hC C hK K)|(simp only [push_cast];done)
  refine zM zQ zO [] rfl ?_
  simp only [push_cast,↓zK,↓zJ,↓reduceIte,zA,zB,zC,zD,zE,zF,zG,zH,zI,reduceCtorEq]
  repeat' apply And.intro
  all_goals try exact gB
  (try simp only [zR,zS,reduceIte,zF]);refine hK1 _ ?_
  refine zL fun K hK=> ?_
  refine zM zQ zO [] rfl ?_
  simp only [push_cast,↓zK,↓zJ,↓reduceIte,zA,zB,zC,zD,zE,zF,zG,zH,zI,reduceCtorEq]
  repeat' apply And.intro
  all_goals try exact gB
  all_goals first|(refine hK _ ?_;clear hK K)|(simp only [push_cast];done)
  refine zc ?_
  (try simp only [zR,zS])
  refine⟨Or.inl rfl,?_⟩
  simp only [Vw,zi,vf,yS,xU,push_cast,↓zK,↓zJ,↓reduceIte,zA,zB,zC,zD,zE,zF,zG,zH,zI,reduceCtorEq]
  all_goals first|exact⟨by unfold dR;rw [if_pos hc];rfl,(by unfold dI1;rw [if_pos hc]),rfl⟩|exact⟨by unfold dR;rw [if_neg hc];rfl,(by unfold dI1;rw [if_neg hc]),rfl⟩
 ·
  refine zV ?_
  (try simp only [zR,zS,reduceIte,zF]);refine hK1 _ ?_
  refine zL fun K hK=> ?_
  refine zM zQ zO [] rfl ?_
  simp only [push_cast,↓zK,↓zJ,↓reduceIte,zA,zB,zC,zD,zE,zF,zG,zH,zI,reduceCtorEq]
  repeat' apply And.intro
  all_goals try exact gB
  all_goals first|(refine hK _ ?_;clear hK K)|(simp only [push_cast];done)
  refine zc ?_
  (try simp only [zR,zS])
  refine⟨Or.inl rfl,?_⟩
  simp only [Vw,zi,vf,yS,xU,push_cast,↓zK,↓zJ,↓reduceIte,zA,zB,zC,zD,zE,zF,zG,zH,zI,reduceCtorEq]
  all_goals first|exact⟨by unfold dR;rw [if_pos hc];rfl,(by unfold dI1;rw [if_pos hc]),rfl⟩|exact⟨by unfold dR;rw [if_neg hc];rfl,(by unfold dI1;rw [if_neg hc]),rfl⟩
section
variable {H:Type} {enc:TypeId×Value→H} {W:World} {lo:Nat}
theorem zKx {fuel:Nat}{cs:List Value}{x:DataW H×List MemPlace}(h:Tro enc W fuel 5 cs x): ∃v n,cs= [v]∧RpN lo W (.int .u8 n) v∧(0≤n∧n≤255):=by
 obtain⟨n,rfl,-,hw⟩:=DataW.trod_int Try.underlying5 h
 exact⟨_,n,rfl,by simp only [Rp],by simp only [Lit.wf,Bool.and_eq_true,decide_eq_true_eq]at hw;exact hw⟩
theorem zFD : ∀(dss:List (List D)),(∀ds∈dss,∃n,ds= [.int .u8 n]∧(0≤n∧n≤255))→∃xs:List Int,dss.flatten=dU xs∧(∀x∈xs,0≤x∧x≤255)∧xs.length=dss.length
 | [],_=>⟨[],rfl,fun x hx=>by simp at hx,rfl⟩
 |ds::dss,h=>by
  obtain⟨n,rfl,hn⟩:=h ds (by simp)
  obtain⟨xs,e,hr,hl⟩:=zFD dss (fun d hd=>h d (by simp [hd]))
  refine⟨n::xs,by rw [List.flatten_cons,e];rfl,fun x hx=> ?_,by simp [hl]⟩
  rcases List.mem_cons.1 hx with rfl|hx
  ·exact hn
  ·exact hr x hx
set_option maxRecDepth 100000 in
theorem arg_U {base:Nat}{v:Value}{d:DataW H}{p:List MemPlace}(hv:Value.okWide Try.prog W .any base 43 v)(h:DataW.Trod enc Try.prog W 0 (fun _=>true) true 43 v d p): ∃xs,Qw (sz tyT) lo W (fun _=>none) (.c (.lst 5 (dU xs))) v∧(∀k,k<xs.length→0≤gi xs k∧gi xs k≤255)∧xs.length≤9223372036854775807:=by
 obtain⟨A,n,c,rfl⟩:=okWide_slice Try.underlying43 hv
 obtain⟨fuel,hf⟩:=h
 obtain⟨v',dss,e,h1,h2,h3⟩:=zKw (lo:=lo) (k:=1) Try.underlying43 (by omega) sz_5 (by kernel_rfl) (Q:=fun ds=> ∃n,ds= [.int .u8 n]∧(0≤n∧n≤255)) (fun n cs y hy=>by
  obtain⟨v,n,rfl,h1,h2⟩:=zKx (lo:=lo) hy
  exact⟨[.int .u8 n],zIY h1,n,rfl,h2⟩) hf
 obtain⟨xs,e2,hr,hl⟩:=zFD dss (fun ds hds=>(h3 ds hds).1)
 rw [e2]at h1
 simp only [Value.cells,List.cons.injEq,and_true]at e
 subst e
 refine⟨xs,h1,fun k hk=>hr _ ?_,by omega⟩
 unfold gi
 rw [List.getD_eq_getElem?_getD,List.getElem?_eq_getElem hk]
 exact List.getElem_mem _
end
def km :D→AV
 | .int k n=> .int k n
 | .bool b=> .bool b
 |_=> .dead
def XL :List D→List Value→Prop
 | [],cs=>cs= []
 | .int k n::ds,cs=> ∃cs',cs= .int k n::cs'∧XL ds cs'
 | .bool b::ds,cs=> ∃cs',cs= .bool b::cs'∧XL ds cs'
 |_::_,_=>False
def YI :List D→List AV→Prop
 | [],[]=>True
 | .int k n::ds, .int k' n'::us=>(k'=k∧n'=n)∧YI ds us
 | .bool b::ds, .bool b'::us=>b'=b∧YI ds us
 |_,_=>False
def zHw (w:World)(ds:List D)(cargs:List Value)(e:Ending)(w':World):Prop:=
 ∃g ty c0 cs,cargs[0]? =some c0∧e= .returned (.pointer (some ⟨g,0,none⟩))∧Below w.heap.size w w'∧w.heap.size≤g∧g<w'.heap.size∧w'.heap[g]? =some (.cells (List.toArray (c0::cs)) ty (0,0))∧XL ds cs
def FnP (P:Program)(τ:Ty)(f:FuncId)(args:List VT)(ds:List D):Prop:=
 qz P f∧∀(w:World) (cargs:List Value),vo (sz τ) w.heap.size w (fun _=>none) args cargs→Calls P f cargs.toArray w (zHw w ds cargs)
def jc (τ:Ty)(st:St)(ds:List D):AV→Prop
 | .bp T 0=>match lk st.b T with
  |some (.sl 0 [] 0 len e::us)=>(match lk st.r 0 with|some R=>R.pin=some 0∧R.e=e∧R.xs.length=len*sz τ e∧sz τ e≠0|none=>False)∧YI ds us
  |_=>False
 |_=>False
def RetP (τ:Ty)(rs:List ResultVar)(ds:List D)(e:Exit)(st:St):Prop:=(e= .ret∨e= .normal)∧
 match yS τ st rs with
 |some ([v],ob)=>ob∧jc τ st ds v
 |_=>False
section
variable {P:Program} {τ:Ty} {lo:Nat} {w0:Fz} {ow:Nat→Option Pl} {hd:Nat→Value} {bk:Nat→Nat} {st:St} {a:Act} {w:World}
theorem QR {rr:List (Nat×zr)}{bb:List (Nat×List AV)}: ∀{ds:List D} {us:List AV} {cs:List Value},YI ds us→zY τ w rr bb hd bk us cs→XL ds cs
 | [],[],cs,_,h=>by simpa only [zY,XL]using h
 | [],_::_,_,h,_=>h.elim
 | .int k n::ds,[],_,h,_=>h.elim
 | .bool b::ds,[],_,h,_=>h.elim
 | .hole::ds,_,_,h,_=>by simp [YI]at h
 | .lst e xs::ds,_,_,h,_=>by simp [YI]at h
 | .int k n::ds,u::us,cs,h,h2=>by
  cases u<;>simp only [YI]at h
  obtain⟨⟨rfl,rfl⟩,h3⟩:=h
  simp only [zY,AvR]at h2
  obtain⟨v,cs',rfl,rfl,h4⟩:=h2
  exact⟨cs',rfl,QR h3 h4⟩
 | .bool b::ds,u::us,cs,h,h2=>by
  cases u<;>simp only [YI]at h
  obtain⟨rfl,h3⟩:=h
  simp only [zY,AvR]at h2
  obtain⟨v,cs',rfl,rfl,h4⟩:=h2
  exact⟨cs',rfl,QR h3 h4⟩
theorem Wh {rr:List (Nat×zr)}{bb:List (Nat×List AV)}: ∀{ds:List D} {cs:List Value},XL ds cs→zY τ w rr bb hd bk (ds.map km) cs
 | [],cs,h=>by simpa only [List.map_nil,zY,XL]using h
 | .int k n::ds,cs,h=>by
  obtain⟨cs',rfl,h2⟩:=h
  simp only [List.map_cons,km,zY,AvR]
  exact⟨_,cs',rfl,rfl,Wh h2⟩
 | .bool b::ds,cs,h=>by
  obtain⟨cs',rfl,h2⟩:=h
  simp only [List.map_cons,km,zY,AvR]
  exact⟨_,cs',rfl,rfl,Wh h2⟩
 | .hole::ds,_,h=>h.elim
 | .lst e xs::ds,_,h=>h.elim
theorem zJk (hτ:zx P τ)(hpos:yL τ){f:FuncId}{fn:Func}{c:Code}{rs:List ResultVar}{e0:TypeId}{xs0:List D}{args:List VT}{ds:List D}(hfn:P.funcs[f]? =some fn)(hname:(fn.name== "runtime.NumGoroutine")=false)(hb:fn.body=some c)(hres:fn.results=rs.toArray)(hn:(VT.c (.lst e0 xs0)::args).length≤fn.ntmps)(hfew:few (VT.c (.lst e0 xs0)::args)=true)(hs:szA τ (VT.c (.lst e0 xs0)::args))
  (h:awp P τ c (RetP τ rs ds) (wm τ fn.ntmps (VT.c (.lst e0 xs0)::args))):FnP P τ f (VT.c (.lst e0 xs0)::args) ds:=by
 refine⟨⟨fn,hfn,hname,by rw [hb];rfl⟩,fun w cargs hargs=> ?_⟩
 have hst0:=zAE hs hfew hn hargs
 obtain⟨c0,cs0,hcargs,hc0,-⟩:=hargs
 subst hcargs
 simp only [Qw]at hc0
 obtain⟨A0,n0,k0,rfl,-⟩:=xZ hc0
 refine calls_of_wp hfn hb (Go.wp_mono (h _ _ _ w ⟨_,_,_,hst0⟩) fun e a' w' ⟨st',⟨ow,hd,bk,hr⟩,he,hret0⟩=> ?_)
 have hpost:a'.defers= []∧∃v,(results fn a'.tmps).run P w'= .ok v w'∧zHw w ds (.slice A0 n0 k0::cs0) (.returned v) w':=by
  split at hret0
  rotate_left
  ·exact hret0.elim
  rename_i v ob0 hrv
  obtain⟨hob0,hret⟩:=hret0
  obtain⟨xs,hrun,hv⟩:=Ze hτ hpos hr hres hrv hob0
  simp only [zY]at hv
  obtain⟨x,xs',rfl,hx,rfl⟩:=hv
  refine⟨hr.defers,_,hrun,?_⟩
  unfold jc at hret
  split at hret
  rotate_left
  ·exact hret.elim
  rename_i T
  split at hret
  rotate_left
  ·exact hret.elim
  rename_i len e1 us hT
  obtain⟨h1,h2⟩:=hret
  cases hR:lk st'.r 0 with
  |none=>rw [hR]at h1;exact h1.elim
  |some R=>
   rw [hR]at h1
   obtain⟨hp,he1,hxl,hz⟩:=h1
   obtain⟨cs,ty,b1,b2,b3⟩:=hr.box T _ hT
   simp only [zY]at b3
   obtain⟨u0,cs1,rfl,k1,k2⟩:=b3
   simp only [AvR]at hx
   have hxp:=hx.2 ⟨_,hT⟩
   subst hxp
   have hph:=hr.pin _ R _ hR hp
   have hph:yQ (Value.slice A0 n0 k0::cs0) 0=hd 0:=Option.some.inj hph
   have hh0:yQ (Value.slice A0 n0 k0::cs0) 0= .slice A0 n0 k0:=rfl
   rw [hh0]at hph
   simp only [AvR]at k1
   obtain⟨hv,hin,A,n,c2,A',c',hnw,q1,q2,hle,hlc,hmx,hf,hA⟩:=k1.2 R hR (by simp [zk])
   simp only [yC,Option.some.injEq]at hin
   obtain⟨rfl,rfl⟩:=hf rfl
   obtain⟨A3,n3,c3,q3,l3,-⟩:=xZ (hr.root _ R hR)
   rw [hin,q1]at q3;cases q3
   rw [he1]at l3
   have hn:n=len:=Nat.eq_of_mul_eq_mul_right (Nat.pos_of_ne_zero hz) (by rw [←l3,hxl])
   have hu0:u0= .slice A0 n0 k0:=by rw [hph,hin,q1,q2,hn]
   subst hu0
   have hlt:bk T<w'.heap.size:=(Array.getElem?_eq_some_iff.1 b1).1
   have hge:w.heap.size≤bk T:=by
    rcases Nat.lt_or_ge (bk T) w.heap.size with hl|hl
    ·exact absurd trivial ((hr.ge _ _ hlt b2 (by simp)).2 hl)
    ·exact hl
   exact⟨bk T,ty, .slice A0 n0 k0,cs1,rfl,rfl,⟨hr.below.os,hr.below.tape,hr.below.output,hr.below.size,fun b hb=>hr.below.block b hb trivial⟩,hge,hlt,b1,QR h2 k2⟩
 rcases he with rfl|rfl<;>exact hpost
def Kh (P:Program)(τ:Ty)(o:Oper)(K:St→Prop)(st:St):Prop:=
 match yD o with
 |some (f,args,ts)=>
  match ye τ st ts.toList (args.toList.map (ev st)),args.toList.map (ev st)with
  |some (as9,ob),v0::_=>ob∧zy o<1000000∧∃ds,FnP P τ f as9 ds∧K ((st.addB (zy o) (AV.killL noB (is1 (zy o)) (v0::ds.map km))).put o.dst (.bp (zy o) 0))
  |_,_=>False
 |none=>False
theorem Uw {o:Oper}{K:St→Prop}{Q:Exit→Act→World→Prop}{K':Act→World→Prop}(hd: ∀k,o.dst=some k→k<a.tmps.size)(h:Rel τ lo w0 st a w)(ha:Kh P τ o K st)
  (hK: ∀st' x w',K st'→Rel τ lo w0 st' (a.put o.dst x) w'→K' (a.put o.dst x) w'):o.wp P a w K' Q:=by
 obtain⟨ow,hd',bk,hr⟩:=h
 unfold Kh at ha
 split at ha
 rotate_left
 ·exact ha.elim
 rename_i f args ts hc
 split at ha
 rotate_left
 ·exact ha.elim
 rename_i as9 ob v0 vs hargs hvs
 obtain⟨hob,ht,ds,⟨hcl,hcall⟩,hK1⟩:=ha
 have hev:zY τ w st.r st.b hd' bk (args.toList.map (ev st)) (args.toList.map a.eval):=zp.2 ⟨by simp,fun i v x hv hx=>by
  rw [List.getElem?_map]at hv hx
  cases hk:args.toList[i]? with
  |none=>rw [hk]at hv;cases hv
  |some p=>rw [hk]at hv hx;cases hv;cases hx;exact zZ hr p⟩
 have hA:=ZV hr w.heap.size hev hargs hob
 have hC:=hcall w _ hA
 unfold Oper.wp
 rw [Ku hr hc hcl]
 simp only [Oper.upon]
 refine hC.mono fun e w' hpost=> ?_
 obtain⟨g,ty,c0,cs,h0,he,hbl,hge,hlt,hg,hsc⟩:=hpost
 subst he
 rw [hvs]at hev
 simp only [zY]at hev
 obtain⟨x0,xs,hxs,hx0,-⟩:=hev
 rw [hxs]at h0
 simp only [List.getElem?_cons_zero,Option.some.injEq]at h0
 subst h0
 have hgrow:=XP hr (w':=w') (ow':=upd ow g (some (.box (zy o)))) hbl.size (fun b hb=>⟨hbl.block b hb,qf _ _ (by omega)⟩) (hr.below.below hbl) (fun b p hle hp hne=>⟨by have :=hr.low;omega,fun hlt2=>by have :=hr.below.size;omega⟩) (fun b hle=>by
  rw [qf _ _ (by omega)]
  exact hr.new b (by have :=hbl.size;omega))
 have hD: ∀d,noB d=false→yq w w' st.r st.r hd' hd' d:=fun d _ R hR=>⟨R,hR,rfl,fun p hp=>⟨hp,xE p _ _ _ _ (hr.root d R hR) hp (fun b o A n c hb _ hc=>by
  rw [xe (hbl.block b hb)];exact hc)⟩⟩
 have hB: ∀t,noB t=false→yp st.b st.b bk bk t:=fun t _ hl=>⟨hl,rfl⟩
 have hx0':=yl (τ:=τ) hD hB v0 _ hx0
 rw [qX]at hx0'
 have hadd:=Vu hgrow (zy o) ht g (v0::ds.map km) (x0::cs) ty hg (yF _ _ _) (by simp only [zY];exact⟨x0,cs,rfl,hx0',Wh hsc⟩)
 refine hK _ _ w' hK1 (yb hadd hd ?_)
 simp only [AvR]
 exact⟨⟨_,rfl⟩,fun _=>by rw [yF]⟩
def Wx (P:Program)(τ:Ty)(al:List Nat)(t:Nat)(K:St→Prop):List Oper→St→Prop
 | [],st=>K st
 |o::os,st=>
  match o.guard with
  |none=>if o.dst=some t then Kh P τ o (Wx P τ al t K os) st else aop P τ al o (Wx P τ al t K os) st
  |some (j,want)=>False
theorem Xy (hτ:zx P τ)(hpos:yL τ){al:List Nat}{t:Nat}{all:List Oper}{K:St→Prop}{Q:Exit→Act→World→Prop}(hQ: ∀st a w,K st→Rel τ lo w0 st a w→Q .normal a w):
  ∀(os:List Oper) (st:St) (a:Act) (w:World),yn a.tmps.size os=true→Rel τ lo w0 st a w→Wx P τ al t K os st→wpList P all.toArray Q os a w
 | [],st,a,w,_,h,ha=>wpList_nil (hQ st a w ha h)
 |o::os,st,a,w,hd,h,ha=>by
  have hd1: ∀k,o.dst=some k→k<a.tmps.size:=fun k hk=>by
   have :=List.all_eq_true.1 hd o (by simp)
   rw [hk]at this
   simpa using this
  have hd2:yn a.tmps.size os=true:=List.all_eq_true.2 fun x hx=>List.all_eq_true.1 hd x (by simp [hx])
  refine wpList_step fun K' hK'=> ?_
  simp only [Wx]at ha
  split at ha
  ·rename_i hg
   rw [if_pos (by simp [Region.wanted,hg])]
   split at ha
   ·exact Uw hd1 h ha fun st' x w' h2 h3=>hK' _ _ (Xy hτ hpos hQ os st' _ w' (by rw [xH];exact hd2) h3 h2)
   ·exact vu hτ hpos hd1 h ha fun st' x w' h2 h3=>hK' _ _ (Xy hτ hpos hQ os st' _ w' (by rw [xH];exact hd2) h3 h2)
  ·exact ha.elim
end
theorem zBy {P:Program}{τ:Ty}{Q:Exit→St→Prop}{st:St}(t:Nat)(hτ:zx P τ)(hpos:yL τ)(al:List Nat){id:Nat}{ops:List Oper}(hd:yn st.n ops=true)(h:Wx P τ al t (Q .normal) ops st):awp P τ (.region id ops.toArray false) Q st:=fun lo w0 a w hr=>by
 have hn:a.tmps.size=st.n:=by obtain⟨ow,hd,bk,h⟩:=hr;exact h.size
 refine wp_region_lit (Xy hτ hpos (fun st a w h1 h2=>⟨st,h2,h1⟩) ops st a w (by rw [hn];exact hd) hr h)
attribute [push_cast] Kh Wx km jc YI RetP
def rH (code:List Int)(seed:Int):Nat→Int
 |0=>IntKind.u64.wrap (IntKind.u64.wrap (seed*7919)+code.length)
 |k+1=>IntKind.u64.wrap (IntKind.u64.wrap (IntKind.u64.wrap (rH code seed k*1099511628211)+gi code k)+3)
set_option maxRecDepth 20000 in
set_option maxHeartbeats 4000000 in
theorem zJX (code:List Int)(hby:yv code)(seed:Int)(hs:0≤seed∧seed≤1000):FnP Try.prog tyT 17 [.c (.lst 5 (dU code)), .c (.int .u64 seed)] [.int .i64 0, .int .u64 (rH code seed code.length)]:=by
 have hcl:=hby.1
 refine zJk (fn:=Try.f17) (rs:= [.tmp 4]) zQ zO Try.func17 (by kernel_rfl) rfl rfl (by rw [Try.ntmps17];exact Nat.le_of_ble_eq_true rfl) rfl (by simp only [szA,List.mem_cons,List.not_mem_nil,or_false,forall_eq_or_imp,forall_eq,VT.cells,szL];try decide) ?_
 rw [Try.ntmps17]
 simp only [push_cast,↓zK,↓zJ,↓reduceIte,zA,zB,zC,zD,zE,zF,zG,zH,zI,reduceCtorEq]
 refine zL fun K hK=> ?_
 refine zM zQ zO [] rfl ?_
 simp only [push_cast,↓zK,↓zJ,↓reduceIte,zA,zB,zC,zD,zE,zF,zG,zH,zI,reduceCtorEq]
 repeat' apply And.intro
 all_goals try exact gB
 all_goals first|(refine hK _ ?_;clear hK K)|(simp only [push_cast];done)
 refine zL fun K hK=> ?_
 refine zM zQ zO [] rfl ?_
 simp only [push_cast,↓zK,↓zJ,↓reduceIte,zA,zB,zC,zD,zE,zF,zG,zH,zI,reduceCtorEq]
 repeat' apply And.intro
 all_goals try exact gB
 all_goals first|(refine hK _ ?_;clear hK K)|(simp only [push_cast];done)
 refine zL fun K1 hK1=> ?_
 refine zL fun K hK=> ?_
 refine zM zQ zO [] rfl ?_
 simp only [push_cast,↓zK,↓zJ,↓reduceIte,zA,zB,zC,zD,zE,zF,zG,zH,zI,reduceCtorEq]
 repeat' apply And.intro
 all_goals try exact gB
 all_goals first|(refine hK _ ?_;clear hK K)|(simp only [push_cast];done)
 refine zT ?_
 refine zh [6,15,16,17,18,19,20,21,22,23,24,25,26,27,28,29,30,31,32,33,34,35,36] [] (fun(k:Nat)=> [(6, .int .i64 k),(5, .bp 15 0)]) (fun k=> [(15,[.sl 0 [] 0 code.length 5, .int .i64 0, .int .u64 (rH code seed k)])]) (fun k=> []) (fun k=>k≤code.length) (fun k=>code.length - k) 0 ?_ (by omega) ?_
 ·
  refine zX rfl ?_ ?_ ?_<;>simp only [zg,zf,push_cast,↓zK,↓zJ,↓reduceIte,zA,zB,zC,zD,zE,zF,zG,zH,zI,reduceCtorEq]
  all_goals(try rfl)
 ·rintro k hk KL0 hL0
  simp only [push_cast,↓zK,↓zJ,↓reduceIte,zA,zB,zC,zD,zE,zF,zG,zH,zI,reduceCtorEq]
  refine zL fun K2 hK2=> ?_
  refine zL fun K hK=> ?_
  refine zM zQ zO [] rfl ?_
  simp only [push_cast,↓zK,↓zJ,↓reduceIte,zA,zB,zC,zD,zE,zF,zG,zH,zI,reduceCtorEq]
  repeat' apply And.intro
  all_goals try exact gB
  all_goals first|(refine hK _ ?_;clear hK K)|(simp only [push_cast];done)
  refine zU rfl (fun hc=> ?_) (fun hc=> ?_)<;>(try simp only [push_cast]at hc)
  ·
   refine zV ?_
   (try simp only [zR,zS,reduceIte,zF]);refine hK2 _ ?_
   refine zL fun K3 hK3=> ?_
   refine zT ?_
   have hbk:=hby.2 k (by omega)
   refine vL false zQ zO xW ?_ rfl ?_
   ·kernel_rfl
   intro C hC
   simp only [push_cast,↓zK,↓zJ,↓reduceIte,zA,zB,zC,zD,zE,zF,zG,zH,zI,reduceCtorEq]
   repeat' apply And.intro
   all_goals first|omega|with_reducible assumption|(refine hC _ ?_;kernel_rfl)|(simp only [List.length_set,List.length_append,List.length_replicate,List.length_cons,List.length_nil];omega)|skip
   clear hC C
   (try simp only [zR,zS,reduceIte,zF]);refine hK3 _ ?_
   refine zM zQ zO [] rfl ?_
   simp only [push_cast,↓zK,↓zJ,↓reduceIte,zA,zB,zC,zD,zE,zF,zG,zH,zI,reduceCtorEq]
   repeat' apply And.intro
   all_goals try exact gB
   refine hL0 _ ⟨k+1,by omega,by omega,?_⟩
   refine zX rfl ?_ ?_ ?_<;>simp only [zg,zf,push_cast,↓zK,↓zJ,↓reduceIte,zA,zB,zC,zD,zE,zF,zG,zH,zI,reduceCtorEq]
   all_goals(try rfl)
  ·
   refine zm ?_
   have hkk:k=code.length:=by omega
   subst hkk
   (try simp only [zR,zS,reduceIte,zF]);refine hK1 _ ?_
   refine zL fun K hK=> ?_
   refine zM zQ zO [] rfl ?_
   simp only [push_cast,↓zK,↓zJ,↓reduceIte,zA,zB,zC,zD,zE,zF,zG,zH,zI,reduceCtorEq]
   repeat' apply And.intro
   all_goals try exact gB
   all_goals first|(refine hK _ ?_;clear hK K)|(simp only [push_cast];done)
   refine zc ?_
   (try simp only [zR,zS])
   refine⟨Or.inl rfl,?_⟩
   simp only [RetP,jc,YI,yS,xU,push_cast,↓zK,↓zJ,↓reduceIte,zA,zB,zC,zD,zE,zF,zG,zH,zI,reduceCtorEq]
   first|exact⟨⟨rfl,rfl,by simp [zFY],by decide⟩,⟨rfl,rfl⟩,⟨rfl,rfl⟩,trivial⟩|skip
theorem rm_kv {α:Type}(f:Nat→Bool)(k:Nat)(v:α)(l:List (Nat×α)):rm f ((k,v)::l)=if f k=true then rm f l else(k,v)::rm f l:=by
 unfold rm
 rw [List.filter_cons]
 cases f k<;>rfl
theorem rm_nl {α:Type}(f:Nat→Bool):rm f ([]:List (Nat×α))= []:=rfl
attribute [push_cast] rm_kv rm_nl
attribute [-push_cast] rm
def nI (code:List Int):Nat→Int
 |0=>0
 |j+1=>dI1 code (nI code j)
def nH (code:List Int)(seed:Int):Nat→Int
 |0=>rH code seed code.length
 |j+1=>dH (nH code seed j)
def dv (code:List Int)(seed:Int)(j:Nat)(n:Int):Int:=dR code (nI code j) (nH code seed j) n
theorem zD8 (code:List Int): ∀j,0≤nI code j∧nI code j≤code.length
 |0=>⟨Int.le_refl _,by show(0:Int)≤_;omega⟩
 |j+1=>zKM (zD8 code j)
theorem wQ {code:List Int}(hby:yv code)(seed:Int)(j:Nat){n:Int}(hn:1≤n):0≤dv code seed j n∧dv code seed j n<n:=dR_rg hby (zD8 code j).1 hn
theorem nI_s (code:List Int)(j:Nat):nI code (j+1)=dI1 code (nI code j):=rfl
theorem nH_s (code:List Int)(seed:Int)(j:Nat):nH code seed (j+1)=dH (nH code seed j):=rfl
attribute [irreducible] nI nH dv
@[reducible] def dSt (code : List Int) (seed : Int) (j : Nat) : List D := dDc code (nI code j) (nH code seed j)
theorem ZF {code:List Int}(hby:yv code)(seed:Int)(j:Nat)(n:Int)(hn:1≤n):FnB Try.prog tyT 20 (dSt code seed j) [.c (.int .i64 n)] (dSt code seed (j+1)) [.c (.int .i64 (dv code seed j n))]:=
 by
 have h:=zEq code hby _ (nH code seed j) (zD8 code j) n hn
 have e1:dI1 code (nI code j)=nI code (j+1):=(nI_s code j).symm
 have e2:dH (nH code seed j)=nH code seed (j+1):=(nH_s code seed j).symm
 rw [e1,e2]at h
 unfold dv
 exact h
theorem zHM (n:Nat):(1:Int)+(n:Int)=(n:Int)+1:=Int.add_comm _ _
attribute [push_cast] zHM Int.sub_zero
def mks (code:List Int)(seed:Int)(N c:Nat):Nat→List Bool
 |0=>List.replicate N false
 |t+1=>(mks code seed N c t).set (dv code seed (c+t) N).toNat true
theorem kd (code:List Int)(seed:Int)(N c:Nat): ∀t,(mks code seed N c t).length=N
 |0=>by simp [mks]
 |t+1=>by simp [mks,kd code seed N c t]
def qH (m:List Bool):Nat→List Int
 |0=> []
 |u+1=>if gb m u then qH m u++ [(u:Int)]else qH m u
theorem KU {m:List Bool}{u:Nat}(h:gb m u=true):qH m (u+1)=qH m u++ [(u:Int)]:=by show(if _ then _ else _)=_;rw [if_pos h]
theorem kl {m:List Bool}{u:Nat}(h: ¬gb m u=true):qH m (u+1)=qH m u:=by show(if _ then _ else _)=_;rw [if_neg h]
theorem KT (m:List Bool): ∀u,(qH m u).length≤u
 |0=>Nat.le_refl _
 |u+1=>by
  have :=KT m u
  unfold qH
  split
  ·simp;omega
  ·omega
def rK (code:List Int)(seed:Int)(c:Nat):Nat:=(dv code seed c 3).toNat
def cA (code:List Int)(seed:Int)(j:Nat):Nat→Nat
 |0=>j+1
 |v+1=>cA code seed j v+1+(rK code seed (cA code seed j v)+1)+1
def oA (code:List Int)(seed:Int)(j:Nat):Nat→List Int
 |0=> []
 |v+1=>oA code seed j v++ [dv code seed (cA code seed j v+1+(rK code seed (cA code seed j v)+1)) 2]
def xA (code:List Int)(seed:Int)(N j:Nat):Nat→List (List Int)
 |0=> []
 |v+1=>xA code seed N j v++ [qH (mks code seed N (cA code seed j v+1) (rK code seed (cA code seed j v)+1)) N]
theorem jP (code:List Int)(seed:Int)(j:Nat): ∀v,(oA code seed j v).length=v
 |0=>rfl
 |v+1=>by simp [oA,jP code seed j v]
theorem jm (code:List Int)(seed:Int)(N j:Nat): ∀v,(xA code seed N j v).length=v
 |0=>rfl
 |v+1=>by simp [xA,jm code seed N j v]
def arN (code:List Int)(seed:Int)(j:Nat)(most:Int):Nat:=(dv code seed j most).toNat+1
def arA (code:List Int)(seed:Int)(j:Nat)(most:Int):Ar:=⟨oA code seed j (arN code seed j most),xA code seed (arN code seed j most) j (arN code seed j most)⟩
def arJ (code:List Int)(seed:Int)(j:Nat)(most:Int):Nat:=cA code seed j (arN code seed j most)
set_option maxRecDepth 20000 in
set_option maxHeartbeats 4000000 in
theorem zEO (code:List Int)(hby:yv code)(seed:Int)(j:Nat)(most:Int)(hm:1≤most∧most≤16):FnB Try.prog tyT 18 (dSt code seed j) [.c (.int .i64 most)] (dSt code seed (arJ code seed j most)) [.agg (dAr (arA code seed j most))]:=by
 have hcl:=hby.1
 have hr0:=wQ hby seed j hm.1
 have hB0:=ZF hby seed j most hm.1
 unfold arJ arA arN
 obtain⟨n,hn⟩: ∃n:Nat,dv code seed j most=(n:Int):=⟨_,(Int.toNat_of_nonneg hr0.1).symm⟩
 rw [hn]at hB0 hr0⊢
 rw [Int.toNat_natCast]
 unfold dAr
 refine Vr (fn:=Try.f18) (rs:= [.cell 4 33]) zQ zO Try.func18 (by kernel_rfl) rfl rfl (by rw [Try.ntmps18];exact Nat.le_of_ble_eq_true rfl) rfl (by simp only [szA,List.mem_cons,List.not_mem_nil,or_false,forall_eq_or_imp,forall_eq,false_implies,implies_true,VT.cells,szL];try decide) (Nat.le_of_ble_eq_true rfl) (by simp only [szL];decide) (Nat.le_of_ble_eq_true rfl) rfl ?_
 rw [Try.ntmps18]
 simp only [push_cast,↓zK,↓zJ,↓reduceIte,zA,zB,zC,zD,zE,zF,zG,zH,zI,reduceCtorEq]
 refine zL fun K hK=> ?_
 refine zM zQ zO [] rfl ?_
 simp only [push_cast,↓zK,↓zJ,↓reduceIte,zA,zB,zC,zD,zE,zF,zG,zH,zI,reduceCtorEq]
 repeat' apply And.intro
 all_goals try exact gB
 all_goals first|(refine hK _ ?_;clear hK K)|(simp only [push_cast];done)
 refine zL fun K hK=> ?_
 refine za false zQ zO ?_ rfl ?_
 ·kernel_rfl
 all_goals refine zo 3 fun K9 hK9=> ?_
 all_goals simp only [push_cast,↓zK,↓zJ,↓reduceIte,zA,zB,zC,zD,zE,zF,zG,zH,zI,reduceCtorEq]
 all_goals repeat'(first|(apply zP<;>(intro hg;(try simp only [push_cast]at hg)))|(refine⟨_,_,hB0,?_⟩;simp only [push_cast,↓zK,↓zJ,↓reduceIte,zA,zB,zC,zD,zE,zF,zG,zH,zI,reduceCtorEq])|apply And.intro|(intro hg;(try simp only [push_cast]at hg)))
 all_goals try exact gA
 all_goals first|(refine hK9 _ ?_;clear hK9 K9)|(simp only [push_cast];done)
 all_goals simp only [push_cast,↓zK,↓zJ,↓reduceIte,zA,zB,zC,zD,zE,zF,zG,zH,zI,reduceCtorEq]
 all_goals repeat'(first|(apply zP<;>(intro hg;(try simp only [push_cast]at hg)))|(refine⟨_,_,hB0,?_⟩;simp only [push_cast,↓zK,↓zJ,↓reduceIte,zA,zB,zC,zD,zE,zF,zG,zH,zI,reduceCtorEq])|apply And.intro|(intro hg;(try simp only [push_cast]at hg)))
 all_goals try exact gA
 all_goals first|(refine hK _ ?_;clear hK K)|(simp only [push_cast];done)
 refine zL fun K hK=> ?_
 refine zM zQ zO [] rfl ?_
 simp only [push_cast,↓zK,↓zJ,↓reduceIte,zA,zB,zC,zD,zE,zF,zG,zH,zI,reduceCtorEq]
 repeat' apply And.intro
 all_goals try exact gB
 all_goals first|(refine hK _ ?_;clear hK K)|(simp only [push_cast];done)
 refine zL fun K1 hK1=> ?_
 refine zL fun K hK=> ?_
 refine zM zQ zO [] rfl ?_
 simp only [push_cast,↓zK,↓zJ,↓reduceIte,zA,zB,zC,zD,zE,zF,zG,zH,zI,reduceCtorEq]
 repeat' apply And.intro
 all_goals try exact gB
 all_goals first|(refine hK _ ?_;clear hK K)|(simp only [push_cast];done)
 refine zT ?_
 refine zh [6,7,8,9,10,11,17,18,19,20,21,22,23,24,25,26,27,28,29,30,31,32,33,34,35,36,37,38,39,40,41,42,43,44,45,46,47,48,49,50,51,52,53,54,55,56,57,58,59,60,61,62,1000000] [] (fun(v:Nat)=> [(7, .int .i64 v),(6, .bp 6 0)]) (fun v=> [(6,[.sl 96 [] 0 v 2, .sl 97 [] 0 v 22]),(1000000,[.sl 16000000 [] 0 code.length 5, .int .i64 (nI code (cA code seed j v)), .int .u64 (nH code seed (cA code seed j v))])]) (fun v=> [(96,⟨.ex,2,dI (oA code seed j v),none⟩),(97,⟨.ex,22,dII (xA code seed (n+1) j v),none⟩),(16000000,⟨.sh,5,dU code,some 16000000⟩)]) (fun v=>v≤n+1) (fun v=>n+1 - v) 0 ?_ (by omega) ?_
 ·
  rw [show dI (oA code seed j 0)= []from rfl,show dII (xA code seed (n+1) j 0)= []from rfl,show cA code seed j 0=j+1 from rfl]
  refine zX rfl ?_ ?_ ?_<;>simp only [zg,zf,push_cast,↓zK,↓zJ,↓reduceIte,zA,zB,zC,zD,zE,zF,zG,zH,zI,reduceCtorEq]
 ·rintro v hv KL0 hL0
  have hol:=jP code seed j v
  have hxl:=jm code seed (n+1) j v
  simp only [push_cast,↓zK,↓zJ,↓reduceIte,zA,zB,zC,zD,zE,zF,zG,zH,zI,reduceCtorEq]
  refine zL fun K2 hK2=> ?_
  refine zL fun K hK=> ?_
  refine zM zQ zO [] rfl ?_
  simp only [push_cast,↓zK,↓zJ,↓reduceIte,zA,zB,zC,zD,zE,zF,zG,zH,zI,reduceCtorEq]
  repeat' apply And.intro
  all_goals try exact gB
  all_goals first|(refine hK _ ?_;clear hK K)|(simp only [push_cast];done)
  refine zU rfl (fun hc=> ?_) (fun hc=> ?_)<;>(try simp only [push_cast]at hc)
  ·
   refine zV ?_
   (try simp only [zR,zS,reduceIte,zF]);refine hK2 _ ?_
   refine zL fun K3 hK3=> ?_
   refine zT ?_
   refine zL fun K hK=> ?_
   refine zM zQ zO [] rfl ?_
   simp only [push_cast,↓zK,↓zJ,↓reduceIte,zA,zB,zC,zD,zE,zF,zG,zH,zI,reduceCtorEq]
   repeat' apply And.intro
   all_goals try exact gB
   all_goals first|(refine hK _ ?_;clear hK K)|(simp only [push_cast];done)
   refine zL fun K4 hK4=> ?_
   have hr1:=wQ hby seed (cA code seed j v) (n:=3) (by omega)
   have hB1:=ZF hby seed (cA code seed j v) 3 (by omega)
   rw [show dv code seed (cA code seed j v) 3=(rK code seed (cA code seed j v):Int)from (Int.toNat_of_nonneg hr1.1).symm]at hB1 hr1
   have hr2:=fun t=>wQ hby seed (cA code seed j v+1+t) (n:=(n:Int)+1) (by omega)
   have hB2:=fun t=>ZF hby seed (cA code seed j v+1+t) ((n:Int)+1) (by omega)
   have hB3:=ZF hby seed (cA code seed j v+1+(rK code seed (cA code seed j v)+1)) 2 (by omega)
   refine zL fun K hK=> ?_
   refine za false zQ zO ?_ rfl ?_
   ·kernel_rfl
   all_goals refine zo 2 fun K9 hK9=> ?_
   all_goals simp only [push_cast,↓zK,↓zJ,↓reduceIte,zA,zB,zC,zD,zE,zF,zG,zH,zI,reduceCtorEq]
   all_goals repeat'(first|(apply zP<;>(intro hg;(try simp only [push_cast]at hg)))|(refine⟨_,_,hB1,?_⟩;simp only [push_cast,↓zK,↓zJ,↓reduceIte,zA,zB,zC,zD,zE,zF,zG,zH,zI,reduceCtorEq])|apply And.intro|(intro hg;(try simp only [push_cast]at hg)))
   all_goals try exact gA
   all_goals first|(refine hK9 _ ?_;clear hK9 K9)|(simp only [push_cast];done)
   all_goals simp only [push_cast,↓zK,↓zJ,↓reduceIte,zA,zB,zC,zD,zE,zF,zG,zH,zI,reduceCtorEq]
   all_goals repeat'(first|(apply zP<;>(intro hg;(try simp only [push_cast]at hg)))|(refine⟨_,_,hB1,?_⟩;simp only [push_cast,↓zK,↓zJ,↓reduceIte,zA,zB,zC,zD,zE,zF,zG,zH,zI,reduceCtorEq])|apply And.intro|(intro hg;(try simp only [push_cast]at hg)))
   all_goals try exact gA
   all_goals first|(refine hK _ ?_;clear hK K)|(simp only [push_cast];done)
   refine zT ?_
   refine zh [9,27,28,29,30,31,32,33,34,35,1000000] [128] (fun(t:Nat)=> [(9, .int .i64 ((rK code seed (cA code seed j v):Int)+1 - t)),(8, .sl 128 [] 0 (n+1) 4)]) (fun t=> [(1000000,[.sl 16000000 [] 0 code.length 5, .int .i64 (nI code (cA code seed j v+1+t)), .int .u64 (nH code seed (cA code seed j v+1+t))])]) (fun t=> [(128,⟨.ex,4,dB (mks code seed (n+1) (cA code seed j v+1) t),none⟩),(16000000,⟨.sh,5,dU code,some 16000000⟩)]) (fun t=>t≤rK code seed (cA code seed j v)+1) (fun t=>rK code seed (cA code seed j v)+1 - t) 0 ?_ (by omega) ?_
   ·
    rw [show mks code seed (n+1) (cA code seed j v+1) 0=List.replicate (n+1) false from rfl]
    refine zX rfl ?_ ?_ ?_<;>simp only [zg,zf,push_cast,↓zK,↓zJ,↓reduceIte,zA,zB,zC,zD,zE,zF,zG,zH,zI,reduceCtorEq]
   ·rintro t ht KL1 hL1
    have hml:=kd code seed (n+1) (cA code seed j v+1) t
    simp only [push_cast,↓zK,↓zJ,↓reduceIte,zA,zB,zC,zD,zE,zF,zG,zH,zI,reduceCtorEq]
    refine zL fun K5 hK5=> ?_
    refine zL fun K hK=> ?_
    refine zM zQ zO [] rfl ?_
    simp only [push_cast,↓zK,↓zJ,↓reduceIte,zA,zB,zC,zD,zE,zF,zG,zH,zI,reduceCtorEq]
    repeat' apply And.intro
    all_goals try exact gB
    all_goals first|(refine hK _ ?_;clear hK K)|(simp only [push_cast];done)
    refine zU rfl (fun hc=> ?_) (fun hc=> ?_)<;>(try simp only [push_cast]at hc)
    ·
     refine zV ?_
     (try simp only [zR,zS,reduceIte,zF]);refine hK5 _ ?_
     refine zL fun K6 hK6=> ?_
     refine zT ?_
     have hr3:=hr2 t
     refine za false zQ zO ?_ rfl ?_
     ·kernel_rfl
     all_goals refine zo 4 fun K9 hK9=> ?_
     all_goals simp only [push_cast,↓zK,↓zJ,↓reduceIte,zA,zB,zC,zD,zE,zF,zG,zH,zI,reduceCtorEq]
     all_goals repeat'(first|(apply zP<;>(intro hg;(try simp only [push_cast]at hg)))|(refine⟨_,_,hB2 t,?_⟩;simp only [push_cast,↓zK,↓zJ,↓reduceIte,zA,zB,zC,zD,zE,zF,zG,zH,zI,reduceCtorEq])|apply And.intro|(intro hg;(try simp only [push_cast]at hg)))
     all_goals try exact gA
     all_goals first|(refine hK9 _ ?_;clear hK9 K9)|(simp only [push_cast];done)
     all_goals simp only [push_cast,↓zK,↓zJ,↓reduceIte,zA,zB,zC,zD,zE,zF,zG,zH,zI,reduceCtorEq]
     all_goals repeat'(first|(apply zP<;>(intro hg;(try simp only [push_cast]at hg)))|(refine⟨_,_,hB2 t,?_⟩;simp only [push_cast,↓zK,↓zJ,↓reduceIte,zA,zB,zC,zD,zE,zF,zG,zH,zI,reduceCtorEq])|apply And.intro|(intro hg;(try simp only [push_cast]at hg)))
     all_goals try exact gA
     (try simp only [zR,zS,reduceIte,zF]);refine hK6 _ ?_
     refine zM zQ zO [] rfl ?_
     simp only [push_cast,↓zK,↓zJ,↓reduceIte,zA,zB,zC,zD,zE,zF,zG,zH,zI,reduceCtorEq]
     repeat' apply And.intro
     all_goals try exact gB
     refine hL1 _ ⟨t+1,by omega,by omega,?_⟩
     refine zX rfl ?_ ?_ ?_<;>simp only [zg,zf,push_cast,↓zK,↓zJ,↓reduceIte,zA,zB,zC,zD,zE,zF,zG,zH,zI,reduceCtorEq]
     all_goals first|(refine congrArg (AV.int .i64) ?_;omega)|exact rfl|skip
    ·
     refine zm ?_
     have htt:t=(rK code seed (cA code seed j v)+1):=by omega
     subst htt
     (try simp only [zR,zS,reduceIte,zF]);refine hK4 _ ?_
     refine zL fun K hK=> ?_
     refine zM zQ zO [] rfl ?_
     simp only [push_cast,↓zK,↓zJ,↓reduceIte,zA,zB,zC,zD,zE,zF,zG,zH,zI,reduceCtorEq]
     repeat' apply And.intro
     all_goals try exact gB
     all_goals first|(refine hK _ ?_;clear hK K)|(simp only [push_cast];done)
     refine zL fun K7 hK7=> ?_
     refine zL fun K hK=> ?_
     refine zM zQ zO [] rfl ?_
     simp only [push_cast,↓zK,↓zJ,↓reduceIte,zA,zB,zC,zD,zE,zF,zG,zH,zI,reduceCtorEq]
     repeat' apply And.intro
     all_goals try exact gB
     all_goals first|(refine hK _ ?_;clear hK K)|(simp only [push_cast];done)
     refine zT ?_
     refine zh [10,11,37,38,39,40,41,42,43,44,45,46,47,48,49] [160] (fun(u:Nat)=> [(11, .int .i64 u),(10, .sl 160 [] 0 (qH (mks code seed (n+1) (cA code seed j v+1) (rK code seed (cA code seed j v)+1)) u).length 2)]) (fun u=> []) (fun u=> [(160,⟨.ex,2,dI (qH (mks code seed (n+1) (cA code seed j v+1) (rK code seed (cA code seed j v)+1)) u),none⟩)]) (fun u=>u≤n+1) (fun u=>n+1 - u) 0 ?_ (by omega) ?_
     ·
      rw [show qH (mks code seed (n+1) (cA code seed j v+1) (rK code seed (cA code seed j v)+1)) 0= []from rfl,show dI []= []from rfl]
      refine zX rfl ?_ ?_ ?_<;>simp only [zg,zf,push_cast,↓zK,↓zJ,↓reduceIte,zA,zB,zC,zD,zE,zF,zG,zH,zI,reduceCtorEq]
     ·rintro u hu KL2 hL2
      have hul:=KT (mks code seed (n+1) (cA code seed j v+1) (rK code seed (cA code seed j v)+1)) u
      simp only [push_cast,↓zK,↓zJ,↓reduceIte,zA,zB,zC,zD,zE,zF,zG,zH,zI,reduceCtorEq]
      refine zL fun K8 hK8=> ?_
      refine zL fun K hK=> ?_
      refine zM zQ zO [] rfl ?_
      simp only [push_cast,↓zK,↓zJ,↓reduceIte,zA,zB,zC,zD,zE,zF,zG,zH,zI,reduceCtorEq]
      repeat' apply And.intro
      all_goals try exact gB
      all_goals first|(refine hK _ ?_;clear hK K)|(simp only [push_cast];done)
      refine zU rfl (fun hc=> ?_) (fun hc=> ?_)<;>(try simp only [push_cast]at hc)
      ·
       refine zV ?_
       (try simp only [zR,zS,reduceIte,zF]);refine hK8 _ ?_
       refine zL fun K9 hK9=> ?_
       refine zT ?_
       refine zL fun K hK=> ?_
       refine zM zQ zO [] rfl ?_
       simp only [push_cast,↓zK,↓zJ,↓reduceIte,zA,zB,zC,zD,zE,zF,zG,zH,zI,reduceCtorEq]
       repeat' apply And.intro
       all_goals try exact gB
       all_goals first|(refine hK _ ?_;clear hK K)|(simp only [push_cast];done)
       refine zU rfl (fun hc=> ?_) (fun hc=> ?_)<;>(try simp only [push_cast]at hc)
       ·
        refine zM zQ zO [] rfl ?_
        simp only [push_cast,↓zK,↓zJ,↓reduceIte,zA,zB,zC,zD,zE,zF,zG,zH,zI,reduceCtorEq]
        repeat' apply And.intro
        all_goals try exact gB
        (try simp only [zR,zS,reduceIte,zF]);refine hK9 _ ?_
        refine zM zQ zO [] rfl ?_
        simp only [push_cast,↓zK,↓zJ,↓reduceIte,zA,zB,zC,zD,zE,zF,zG,zH,zI,reduceCtorEq]
        repeat' apply And.intro
        all_goals try exact gB
        refine hL2 _ ⟨u+1,by omega,by omega,?_⟩
        rw [KU hc]
        refine zX rfl ?_ ?_ ?_<;>simp only [zg,zf,push_cast,↓zK,↓zJ,↓reduceIte,zA,zB,zC,zD,zE,zF,zG,zH,zI,reduceCtorEq]
        all_goals(try(rw [List.length_append];rfl))
       ·
        refine zV ?_
        (try simp only [zR,zS,reduceIte,zF]);refine hK9 _ ?_
        refine zM zQ zO [] rfl ?_
        simp only [push_cast,↓zK,↓zJ,↓reduceIte,zA,zB,zC,zD,zE,zF,zG,zH,zI,reduceCtorEq]
        repeat' apply And.intro
        all_goals try exact gB
        refine hL2 _ ⟨u+1,by omega,by omega,?_⟩
        rw [kl (by rw [hc];decide)]
        refine zX rfl ?_ ?_ ?_<;>simp only [zg,zf,push_cast,↓zK,↓zJ,↓reduceIte,zA,zB,zC,zD,zE,zF,zG,zH,zI,reduceCtorEq]
        all_goals(try(rw [List.length_append];rfl))
      ·
       refine zm ?_
       have huu:u=n+1:=by omega
       subst huu
       (try simp only [zR,zS,reduceIte,zF]);refine hK7 _ ?_
       refine zL fun K hK=> ?_
       refine yB false zQ zO xW ?_ rfl ?_
       ·kernel_rfl
       intro E hE
       all_goals refine yP 4 (by decide) fun K9 hK9=> ?_
       all_goals simp only [push_cast,↓zK,↓zJ,↓reduceIte,zA,zB,zC,zD,zE,zF,zG,zH,zI,reduceCtorEq]
       all_goals repeat'(first|(apply zP<;>(intro hg;(try simp only [push_cast]at hg)))|(refine⟨_,_,hB3,?_⟩;simp only [push_cast,↓zK,↓zJ,↓reduceIte,zA,zB,zC,zD,zE,zF,zG,zH,zI,reduceCtorEq])|apply And.intro|(intro hg;(try simp only [push_cast]at hg)))
       all_goals try exact gA
       all_goals first|(refine hK9 _ _ ?_;clear hK9 K9)|(simp only [push_cast];done)
       all_goals simp only [push_cast,↓zK,↓zJ,↓reduceIte,zA,zB,zC,zD,zE,zF,zG,zH,zI,reduceCtorEq]
       all_goals repeat'(first|(apply zP<;>(intro hg;(try simp only [push_cast]at hg)))|(refine⟨_,_,hB3,?_⟩;simp only [push_cast,↓zK,↓zJ,↓reduceIte,zA,zB,zC,zD,zE,zF,zG,zH,zI,reduceCtorEq])|apply And.intro|(intro hg;(try simp only [push_cast]at hg)))
       all_goals first|exact gA|(refine hE _ _ ?_ ?_;kernel_rfl)|skip
       all_goals clear hE E
       all_goals first|(refine hK _ ?_;clear hK K)|(simp only [push_cast];done)
       refine za false zQ zO ?_ rfl ?_
       ·kernel_rfl
       simp only [push_cast,↓zK,↓zJ,↓reduceIte,zA,zB,zC,zD,zE,zF,zG,zH,zI,reduceCtorEq]
       all_goals repeat'(first|(apply zP<;>(intro hg;(try simp only [push_cast]at hg)))|apply And.intro|(intro hg;(try simp only [push_cast]at hg)))
       all_goals try exact gA
       (try simp only [zR,zS,reduceIte,zF]);refine hK3 _ ?_
       refine qT [.sl 2, .sl 22] 6 ?_
       simp only [push_cast,↓zK,↓zJ,↓reduceIte,zA,zB,zC,zD,zE,zF,zG,zH,zI,reduceCtorEq]
       refine zM zQ zO [] rfl ?_
       simp only [push_cast,↓zK,↓zJ,↓reduceIte,zA,zB,zC,zD,zE,zF,zG,zH,zI,reduceCtorEq]
       repeat' apply And.intro
       all_goals try exact gB
       refine hL0 _ ⟨v+1,by omega,by omega,?_⟩
       (try rw [List.take_of_length_le (l:=oA code seed j v) (by omega)])
       (try rw [List.take_of_length_le (l:=xA code seed (n+1) j v) (by omega)])
       refine zX rfl ?_ ?_ ?_<;>simp only [zg,zf,push_cast,↓zK,↓zJ,↓reduceIte,zA,zB,zC,zD,zE,zF,zG,zH,zI,reduceCtorEq]
       all_goals first|exact rfl|exact⟨rfl,rfl⟩|skip
  ·
   refine zm ?_
   have hvv:v=n+1:=by omega
   subst hvv
   (try simp only [zR,zS,reduceIte,zF]);refine hK1 _ ?_
   refine zL fun K hK=> ?_
   refine zM zQ zO [] rfl ?_
   simp only [push_cast,↓zK,↓zJ,↓reduceIte,zA,zB,zC,zD,zE,zF,zG,zH,zI,reduceCtorEq]
   repeat' apply And.intro
   all_goals try exact gB
   all_goals first|(refine hK _ ?_;clear hK K)|(simp only [push_cast];done)
   refine zc ?_
   (try simp only [zR,zS])
   refine⟨Or.inl rfl,?_⟩
   simp only [Vw,zi,vf,yS,xU,push_cast,↓zK,↓zJ,↓reduceIte,zA,zB,zC,zD,zE,zF,zG,zH,zI,reduceCtorEq]
   all_goals first|exact⟨hol.symm,hxl.symm⟩|skip
attribute [-push_cast] rm
theorem jF {xs ys:List Int}{k:Nat}(h:k<xs.length):gi (xs++ys) k=gi xs k:=by
 unfold gi
 rw [List.getD_eq_getElem?_getD,List.getD_eq_getElem?_getD,List.getElem?_append_left h]
theorem zDw (xs:List Int)(y:Int):gi (xs++ [y]) xs.length=y:=by
 unfold gi
 rw [List.getD_eq_getElem?_getD,List.getElem?_append_right (Nat.le_refl _)]
 simp
theorem gl_dL {xs ys:List (List Int)}{k:Nat}(h:k<xs.length):gl (xs++ys) k=gl xs k:=by
 unfold gl
 rw [List.getD_eq_getElem?_getD,List.getD_eq_getElem?_getD,List.getElem?_append_left h]
theorem gl_dR (xs:List (List Int))(y:List Int):gl (xs++ [y]) xs.length=y:=by
 unfold gl
 rw [List.getD_eq_getElem?_getD,List.getElem?_append_right (Nat.le_refl _)]
 simp
theorem zDE (m:List Bool): ∀u k,k<(qH m u).length→(k=0∨gi (qH m u) (k - 1)<gi (qH m u) k)∧0≤gi (qH m u) k∧gi (qH m u) k<(u:Int)
 |0,k,h=>absurd h (Nat.not_lt_zero k)
 |u+1,k,h=>by
  have ih:=zDE m u
  by_cases hm:gb m u=true
  ·rw [KU hm]at h⊢
   rw [List.length_append,List.length_singleton]at h
   rcases Nat.lt_or_ge k (qH m u).length with h1|h1
   ·obtain⟨a,b,c⟩:=ih k h1
    rw [jF h1,jF (by omega:k - 1<_)]
    exact⟨a,b,by omega⟩
   ·have e:k=(qH m u).length:=by omega
    subst e
    rw [zDw]
    refine⟨?_,by omega,by omega⟩
    rcases Nat.eq_zero_or_pos (qH m u).length with h2|h2
    ·exact .inl h2
    ·right
     rw [jF (by omega)]
     exact(ih _ (by omega)).2.2
  ·rw [kl hm]at h⊢
   obtain⟨a,b,c⟩:=ih k h
   exact⟨a,b,by omega⟩
theorem zHW (m:List Bool)(u:Nat):yX (qH m u) u=true:=
 xq fun k hk=>by
  obtain⟨a,b,c⟩:=zDE m u k hk
  unfold qJ
  exact decide_eq_true ⟨b,c,a⟩
theorem zBK {m:List Bool}{x:Nat}(h:gb m x=true): ∀u,x<u→1≤(qH m u).length
 |0,h'=>absurd h' (Nat.not_lt_zero x)
 |u+1,h'=>by
  by_cases hm:gb m u=true
  ·rw [KU hm,List.length_append,List.length_singleton];omega
  ·rw [kl hm]
   refine zBK h u ?_
   rcases Nat.lt_or_ge x u with h2|h2
   ·exact h2
   ·exact absurd (by rw [show u=x by omega];exact h) hm
theorem zHF {code:List Int}(hby:yv code)(seed:Int){N:Nat}(hN:1≤N)(c t:Nat): ∃x,x<N∧gb (mks code seed N c (t+1)) x=true:=by
 have h:=wQ hby seed (c+t) (n:=(N:Int)) (by omega)
 refine⟨(dv code seed (c+t) N).toNat,by omega,?_⟩
 show gb (List.set _ _ true) _=true
 unfold gb
 rw [List.getD_eq_getElem?_getD,List.getElem?_set_self (by rw [kd];omega)]
 rfl
theorem zIG {code:List Int}(hby:yv code)(seed:Int)(j:Nat): ∀v k,k<v→0≤gi (oA code seed j v) k∧gi (oA code seed j v) k≤1
 |0,k,h=>absurd h (Nat.not_lt_zero k)
 |v+1,k,h=>by
  show 0≤gi (oA code seed j v++ [_]) k∧gi (oA code seed j v++ [_]) k≤1
  have hl:=jP code seed j v
  rcases Nat.lt_or_ge k v with h1|h1
  ·rw [jF (by omega)];exact zIG hby seed j v k h1
  ·rw [show k=(oA code seed j v).length by omega,zDw]
   have :=wQ hby seed (cA code seed j v+1+(rK code seed (cA code seed j v)+1)) (n:=2) (by omega)
   omega
theorem zIQ {code:List Int}(hby:yv code)(seed:Int){N:Nat}(hN:1≤N)(j:Nat): ∀v k,k<v→∃m x,x<N∧gb m x=true∧gl (xA code seed N j v) k=qH m N
 |0,k,h=>absurd h (Nat.not_lt_zero k)
 |v+1,k,h=>by
  show∃m x,x<N∧gb m x=true∧gl (xA code seed N j v++ [_]) k=qH m N
  have hl:=jm code seed N j v
  rcases Nat.lt_or_ge k v with h1|h1
  ·obtain⟨m,x,a,b,c⟩:=zIQ hby seed hN j v k h1
   exact⟨m,x,a,b,by rw [gl_dL (by omega)];exact c⟩
  ·obtain⟨x,a,b⟩:=zHF hby seed hN (cA code seed j v+1) (rK code seed (cA code seed j v))
   exact⟨_,x,a,b,by rw [show k=(xA code seed N j v).length by omega,gl_dR]⟩
theorem zEl {code:List Int}(hby:yv code)(seed:Int)(j:Nat){most:Int}(hm:1≤most∧most≤16):1≤arN code seed j most∧(arN code seed j most:Int)≤most:=by
 have :=wQ hby seed j hm.1
 unfold arN
 omega
theorem zCY {code:List Int}{seed:Int}{j:Nat}{most:Int}:(arA code seed j most).owner.length=arN code seed j most∧(arA code seed j most).next.length=arN code seed j most:=⟨jP _ _ _ _,jm _ _ _ _ _⟩
theorem zJv {code:List Int}(hby:yv code)(seed:Int)(j:Nat){most:Int}(hm:1≤most∧most≤16):zu (arA code seed j most)=true:=by
 have hN:=zEl hby seed j hm
 obtain⟨h1,h2⟩:=zCY (code:=code) (seed:=seed) (j:=j) (most:=most)
 refine YC ⟨by omega,by omega,by omega⟩ fun v hv=> ?_
 rw [h1]at hv
 unfold qm Xj
 rw [h1]
 have ho:0≤gi (arA code seed j most).owner v∧gi (arA code seed j most).owner v≤1:=zIG hby seed j _ v hv
 obtain⟨m,x,ha,hb,hc⟩:=zIQ hby seed hN.1 j (arN code seed j most) v hv
 rw [show gl (arA code seed j most).next v=qH m (arN code seed j most)from hc,decide_eq_true,Bool.true_and]
 ·exact zHW _ _
 ·have :=zBK hb _ ha
  have :=KT m (arN code seed j most)
  exact⟨ho.1,ho.2,by omega,by omega⟩
attribute [-push_cast] rm
theorem nI_0 (code:List Int):nI code 0=0:=by with_unfolding_all rfl
theorem nH_0 (code:List Int)(seed:Int):nH code seed 0=rH code seed code.length:=by with_unfolding_all rfl
theorem zHV (code:List Int)(hby:yv code)(seed:Int)(hs:0≤seed∧seed≤1000):FnP Try.prog tyT 17 [.c (.lst 5 (dU code)), .c (.int .u64 seed)] [.int .i64 (nI code 0), .int .u64 (nH code seed 0)]:=by
 rw [nI_0,nH_0]
 exact zJX code hby seed hs
set_option maxRecDepth 20000 in
set_option maxHeartbeats 4000000 in
theorem zJx (code:List Int)(hl:code.length≤9223372036854775807):Fn Try.prog tyT 16 [.c (.lst 5 (dU code))] [.c (.bool (decide (4096<code.length)))]:=by
 refine yK (fn:=Try.f16) (ts:= [2]) Try.func16 (by kernel_rfl) rfl rfl (by rw [Try.ntmps16];exact Nat.le_of_ble_eq_true rfl) rfl (by simp only [szA,List.mem_cons,List.not_mem_nil,or_false,forall_eq_or_imp,forall_eq,VT.cells,szL];try decide) ?_
 rw [Try.ntmps16]
 simp only [push_cast,↓zK,↓zJ,↓reduceIte,zA,zB,zC,zD,zE,zF,zG,zH,zI,reduceCtorEq]
 refine zL fun K hK=> ?_
 refine zM zQ zO [] rfl ?_
 simp only [push_cast,↓zK,↓zJ,↓reduceIte,zA,zB,zC,zD,zE,zF,zG,zH,zI,reduceCtorEq]
 repeat' apply And.intro
 all_goals try exact gB
 all_goals first|(refine hK _ ?_;clear hK K)|(simp only [push_cast];done)
 refine zL fun K hK=> ?_
 refine zM zQ zO [] rfl ?_
 simp only [push_cast,↓zK,↓zJ,↓reduceIte,zA,zB,zC,zD,zE,zF,zG,zH,zI,reduceCtorEq]
 repeat' apply And.intro
 all_goals try exact gB
 all_goals first|(refine hK _ ?_;clear hK K)|(simp only [push_cast];done)
 refine zc ?_
 (try simp only [zR,zS])
 refine⟨Or.inl rfl,?_⟩
 simp only [zi,push_cast,↓zK,↓zJ,↓reduceIte,zA,zB,zC,zD,zE,zF,zG,zH,zI,reduceCtorEq]
 first|exact decide_eq_decide.2 (by omega)|skip
attribute [-push_cast] rm
def pJ (a:Ar)(who:Int)(j:Nat):Nat→Nat
 |0=>j
 |v+1=>if gi a.owner v=who then pJ a who j v+1 else pJ a who j v
def pL (code:List Int)(seed:Int)(a:Ar)(who:Int)(j:Nat):Nat→List Int
 |0=> []
 |v+1=>pL code seed a who j v++ [if gi a.owner v=who then gi (gl a.next v) (dv code seed (pJ a who j v) (gl a.next v).length).toNat else -1]
theorem YS (code:List Int)(seed:Int)(a:Ar)(who:Int)(j:Nat): ∀v,(pL code seed a who j v).length=v
 |0=>rfl
 |v+1=>by simp [pL,YS code seed a who j v]
theorem zKy {a:Ar}{who:Int}{j v:Nat}(h:gi a.owner v=who):pJ a who j (v+1)=pJ a who j v+1:=if_pos h
theorem pJ_no {a:Ar}{who:Int}{j v:Nat}(h: ¬gi a.owner v=who):pJ a who j (v+1)=pJ a who j v:=if_neg h
theorem zKz {code:List Int}{seed:Int}{a:Ar}{who:Int}{j v:Nat}(h:gi a.owner v=who):pL code seed a who j (v+1)=pL code seed a who j v++ [gi (gl a.next v) (dv code seed (pJ a who j v) (gl a.next v).length).toNat]:=by show _++ [if _ then _ else _]=_;rw [if_pos h]
theorem pL_no {code:List Int}{seed:Int}{a:Ar}{who:Int}{j v:Nat}(h: ¬gi a.owner v=who):pL code seed a who j (v+1)=pL code seed a who j v++ [-1]:=by show _++ [if _ then _ else _]=_;rw [if_neg h]
set_option maxRecDepth 20000 in
set_option maxHeartbeats 4000000 in
theorem UE (code:List Int)(hby:yv code)(seed:Int)(j:Nat)(a:Ar)(ha:zu a=true)(who:Int):FnB Try.prog tyT 23 (dSt code seed j) [.agg (dAr a), .c (.int .i64 who)] (dSt code seed (pJ a who j a.owner.length)) [.c (DI (pL code seed a who j a.owner.length))]:=by
 have hcl:=hby.1
 have hln:=zl ha
 have hrv:=fun v hv=>(xO ha (v:=v) hv).2.2
 unfold dAr
 refine Vr (fn:=Try.f23) (rs:= [.tmp 6]) zQ zO Try.func23 (by kernel_rfl) rfl rfl (by rw [Try.ntmps23];exact Nat.le_of_ble_eq_true rfl) rfl (by simp only [szA,List.mem_cons,List.not_mem_nil,or_false,forall_eq_or_imp,forall_eq,false_implies,implies_true,VT.cells,szL];try decide) (Nat.le_of_ble_eq_true rfl) (by simp only [szL];decide) (Nat.le_of_ble_eq_true rfl) rfl ?_
 rw [Try.ntmps23]
 simp only [push_cast,↓zK,↓zJ,↓reduceIte,zA,zB,zC,zD,zE,zF,zG,zH,zI,reduceCtorEq]
 refine zL fun K hK=> ?_
 refine zM zQ zO [] rfl ?_
 all_goals simp only [push_cast,↓zK,↓zJ,↓reduceIte,zA,zB,zC,zD,zE,zF,zG,zH,zI,reduceCtorEq]
 all_goals repeat'(first|(apply zP<;>(intro hg;(try simp only [push_cast]at hg)))|apply And.intro|(intro hg;(try simp only [push_cast]at hg)))
 all_goals first|exact gA|(exact zN (by omega))|skip
 all_goals first|(refine hK _ ?_;clear hK K)|(simp only [push_cast];done)
 refine zL fun K hK=> ?_
 refine zM zQ zO [] rfl ?_
 all_goals simp only [push_cast,↓zK,↓zJ,↓reduceIte,zA,zB,zC,zD,zE,zF,zG,zH,zI,reduceCtorEq]
 all_goals repeat'(first|(apply zP<;>(intro hg;(try simp only [push_cast]at hg)))|apply And.intro|(intro hg;(try simp only [push_cast]at hg)))
 all_goals first|exact gA|(exact zN (by omega))|skip
 all_goals first|(refine hK _ ?_;clear hK K)|(simp only [push_cast];done)
 refine zL fun K1 hK1=> ?_
 refine zL fun K hK=> ?_
 refine zM zQ zO [] rfl ?_
 all_goals simp only [push_cast,↓zK,↓zJ,↓reduceIte,zA,zB,zC,zD,zE,zF,zG,zH,zI,reduceCtorEq]
 all_goals repeat'(first|(apply zP<;>(intro hg;(try simp only [push_cast]at hg)))|apply And.intro|(intro hg;(try simp only [push_cast]at hg)))
 all_goals first|exact gA|(exact zN (by omega))|skip
 all_goals first|(refine hK _ ?_;clear hK K)|(simp only [push_cast];done)
 refine zT ?_
 refine zh [7,8,9,11,12,13,14,15,16,17,18,19,20,21,22,23,24,25,26,27,28,29,30,31,32,33,34,35,36,37,38,39,40,41,42,43,1000000] [112] (fun(v:Nat)=> [(8, .int .i64 v),(7, .sl 112 [] 0 v 2)]) (fun v=> [(1000000,[.sl 16000000 [] 0 code.length 5, .int .i64 (nI code (pJ a who j v)), .int .u64 (nH code seed (pJ a who j v))])]) (fun v=> [(112,⟨.ex,2,dI (pL code seed a who j v),none⟩),(16000000,⟨.sh,5,dU code,some 16000000⟩)]) (fun v=>v≤a.owner.length) (fun v=>a.owner.length - v) 0 ?_ (by omega) ?_
 ·
  rw [show pL code seed a who j 0= []from rfl,show dI []= []from rfl,show pJ a who j 0=j from rfl]
  refine zX rfl ?_ ?_ ?_<;>simp only [zg,zf,push_cast,↓zK,↓zJ,↓reduceIte,zA,zB,zC,zD,zE,zF,zG,zH,zI,reduceCtorEq]
 ·rintro v hv KL0 hL0
  have hpl:=YS code seed a who j v
  simp only [push_cast,↓zK,↓zJ,↓reduceIte,zA,zB,zC,zD,zE,zF,zG,zH,zI,reduceCtorEq]
  refine zL fun K2 hK2=> ?_
  refine zL fun K hK=> ?_
  refine zM zQ zO [] rfl ?_
  all_goals simp only [push_cast,↓zK,↓zJ,↓reduceIte,zA,zB,zC,zD,zE,zF,zG,zH,zI,reduceCtorEq]
  all_goals repeat'(first|(apply zP<;>(intro hg;(try simp only [push_cast]at hg)))|apply And.intro|(intro hg;(try simp only [push_cast]at hg)))
  all_goals first|exact gA|(exact zN (by omega))|skip
  all_goals first|(refine hK _ ?_;clear hK K)|(simp only [push_cast];done)
  refine zU rfl (fun hc=> ?_) (fun hc=> ?_)<;>(try simp only [push_cast]at hc)
  ·
   refine zV ?_
   (try simp only [zR,zS,reduceIte,zF]);refine hK2 _ ?_
   refine zL fun K3 hK3=> ?_
   refine zT ?_
   have hr1:=hrv v (by omega)
   have hD:=ZF hby seed (pJ a who j v) ((gl a.next v).length:Nat) (by omega)
   have hr2:=wQ hby seed (pJ a who j v) (n:=((gl a.next v).length:Nat)) (by omega)
   refine zL fun K hK=> ?_
   refine zM zQ zO [] rfl ?_
   all_goals simp only [push_cast,↓zK,↓zJ,↓reduceIte,zA,zB,zC,zD,zE,zF,zG,zH,zI,reduceCtorEq]
   all_goals repeat'(first|(apply zP<;>(intro hg;(try simp only [push_cast]at hg)))|apply And.intro|(intro hg;(try simp only [push_cast]at hg)))
   all_goals first|exact gA|(exact zN (by omega))|skip
   all_goals first|(refine hK _ ?_;clear hK K)|(simp only [push_cast];done)
   refine zL fun K4 hK4=> ?_
   refine zL fun K hK=> ?_
   refine zM zQ zO [] rfl ?_
   all_goals simp only [push_cast,↓zK,↓zJ,↓reduceIte,zA,zB,zC,zD,zE,zF,zG,zH,zI,reduceCtorEq]
   all_goals repeat'(first|(apply zP<;>(intro hg;(try simp only [push_cast]at hg)))|apply And.intro|(intro hg;(try simp only [push_cast]at hg)))
   all_goals first|exact gA|(exact zN (by omega))|skip
   all_goals first|(refine hK _ ?_;clear hK K)|(simp only [push_cast];done)
   refine zU rfl (fun hc=> ?_) (fun hc=> ?_)<;>(try simp only [push_cast]at hc)
   ·
    refine yB false zQ zO xW ?_ rfl ?_
    ·kernel_rfl
    intro E hE
    all_goals refine yP 13 (by decide) fun K9 hK9=> ?_
    all_goals simp only [push_cast,↓zK,↓zJ,↓reduceIte,zA,zB,zC,zD,zE,zF,zG,zH,zI,reduceCtorEq]
    all_goals repeat'(first|(apply zP<;>(intro hg;(try simp only [push_cast]at hg)))|(refine⟨_,_,hD,?_⟩;simp only [push_cast,↓zK,↓zJ,↓reduceIte,zA,zB,zC,zD,zE,zF,zG,zH,zI,reduceCtorEq])|apply And.intro|(intro hg;(try simp only [push_cast]at hg)))
    all_goals first|exact gA|(exact zN (by omega))|skip
    all_goals first|(refine hK9 _ _ ?_;clear hK9 K9)|(simp only [push_cast];done)
    all_goals simp only [push_cast,↓zK,↓zJ,↓reduceIte,zA,zB,zC,zD,zE,zF,zG,zH,zI,reduceCtorEq]
    all_goals repeat'(first|(apply zP<;>(intro hg;(try simp only [push_cast]at hg)))|(refine⟨_,_,hD,?_⟩;simp only [push_cast,↓zK,↓zJ,↓reduceIte,zA,zB,zC,zD,zE,zF,zG,zH,zI,reduceCtorEq])|apply And.intro|(intro hg;(try simp only [push_cast]at hg)))
    all_goals first|exact gA|(refine hE _ _ ?_ ?_;kernel_rfl)|(exact zN (by omega))|skip
    all_goals clear hE E
    (try simp only [zR,zS,reduceIte,zF]);refine hK4 _ ?_
    refine zM zQ zO [] rfl ?_
    all_goals simp only [push_cast,↓zK,↓zJ,↓reduceIte,zA,zB,zC,zD,zE,zF,zG,zH,zI,reduceCtorEq]
    all_goals repeat'(first|(apply zP<;>(intro hg;(try simp only [push_cast]at hg)))|apply And.intro|(intro hg;(try simp only [push_cast]at hg)))
    all_goals first|exact gA|(exact zN (by omega))|skip
    (try simp only [zR,zS,reduceIte,zF]);refine hK3 _ ?_
    refine zM zQ zO [] rfl ?_
    all_goals simp only [push_cast,↓zK,↓zJ,↓reduceIte,zA,zB,zC,zD,zE,zF,zG,zH,zI,reduceCtorEq]
    all_goals repeat'(first|(apply zP<;>(intro hg;(try simp only [push_cast]at hg)))|apply And.intro|(intro hg;(try simp only [push_cast]at hg)))
    all_goals first|exact gA|(exact zN (by omega))|skip
    refine hL0 _ ⟨v+1,by omega,by omega,?_⟩
    (try rw [List.take_of_length_le (l:=pL code seed a who j v) (by omega)])
    rw [zKz hc,zKy hc]
    refine zX rfl ?_ ?_ ?_<;>simp only [zg,zf,push_cast,↓zK,↓zJ,↓reduceIte,zA,zB,zC,zD,zE,zF,zG,zH,zI,reduceCtorEq]
    all_goals first|exact rfl|exact⟨rfl,rfl⟩|skip
   ·
    refine zV ?_
    (try simp only [zR,zS,reduceIte,zF]);refine hK4 _ ?_
    refine zM zQ zO [] rfl ?_
    all_goals simp only [push_cast,↓zK,↓zJ,↓reduceIte,zA,zB,zC,zD,zE,zF,zG,zH,zI,reduceCtorEq]
    all_goals repeat'(first|(apply zP<;>(intro hg;(try simp only [push_cast]at hg)))|apply And.intro|(intro hg;(try simp only [push_cast]at hg)))
    all_goals first|exact gA|(exact zN (by omega))|skip
    (try simp only [zR,zS,reduceIte,zF]);refine hK3 _ ?_
    refine zM zQ zO [] rfl ?_
    all_goals simp only [push_cast,↓zK,↓zJ,↓reduceIte,zA,zB,zC,zD,zE,zF,zG,zH,zI,reduceCtorEq]
    all_goals repeat'(first|(apply zP<;>(intro hg;(try simp only [push_cast]at hg)))|apply And.intro|(intro hg;(try simp only [push_cast]at hg)))
    all_goals first|exact gA|(exact zN (by omega))|skip
    refine hL0 _ ⟨v+1,by omega,by omega,?_⟩
    (try rw [List.take_of_length_le (l:=pL code seed a who j v) (by omega)])
    rw [pL_no hc,pJ_no hc]
    refine zX rfl ?_ ?_ ?_<;>simp only [zg,zf,push_cast,↓zK,↓zJ,↓reduceIte,zA,zB,zC,zD,zE,zF,zG,zH,zI,reduceCtorEq]
    all_goals first|exact rfl|exact⟨rfl,rfl⟩|skip
  ·
   refine zm ?_
   have hvv:v=a.owner.length:=by omega
   subst hvv
   (try simp only [zR,zS,reduceIte,zF]);refine hK1 _ ?_
   refine zL fun K hK=> ?_
   refine zM zQ zO [] rfl ?_
   all_goals simp only [push_cast,↓zK,↓zJ,↓reduceIte,zA,zB,zC,zD,zE,zF,zG,zH,zI,reduceCtorEq]
   all_goals repeat'(first|(apply zP<;>(intro hg;(try simp only [push_cast]at hg)))|apply And.intro|(intro hg;(try simp only [push_cast]at hg)))
   all_goals first|exact gA|(exact zN (by omega))|skip
   all_goals first|(refine hK _ ?_;clear hK K)|(simp only [push_cast];done)
   refine zc ?_
   (try simp only [zR,zS])
   refine⟨Or.inl rfl,?_⟩
   simp only [Vw,zi,vf,yS,xU,push_cast,↓zK,↓zJ,↓reduceIte,zA,zB,zC,zD,zE,zF,zG,zH,zI,reduceCtorEq]
   all_goals first|rfl|exact hpl.symm|skip
end Go.Proofs.Ytggpbepdeilpgaa
