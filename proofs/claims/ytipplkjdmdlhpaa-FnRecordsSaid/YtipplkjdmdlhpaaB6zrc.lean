/- The statements' arguments, read as data. -/
import Derived.Test.YtipplkjdmdlhpaaGWzrc
import Derived.Test.YtipplkjdmdlhpaaB4zrc
import Derived.Deep.Slices
import Derived.Test.YtipplkjdmdlhpaaGEzrc
namespace Go.Proofs.Ytipplkjdmdlhpaa
open Go.ChangeShapes Go.WideShapes Go.ChangeAt Go.RowKit Go.Deep Go.Joins
set_option linter.unusedVariables false
set_option linter.unusedSimpArgs false
theorem YA {α:Type}{k:Nat}(hk:0<k): ∀{ls:List (List α)},(∀l∈ls,l.length=k)→∀i,ls.flatten[i]? =(ls[i / k]?).bind fun l=>l[i%k]?
 | [],_,i=>by simp
 |l::ls,h,i=>by
  have hl:=h l (by simp)
  rw [List.flatten_cons]
  by_cases hi:i<k
  ·rw [List.getElem?_append_left (by omega),Nat.div_eq_of_lt hi,Nat.mod_eq_of_lt hi];rfl
  ·rw [List.getElem?_append_right (by omega),hl,YA hk (fun l hl=>h l (by simp [hl]))]
   have e1:i / k=(i - k) / k+1:=by rw [←Nat.add_div_right _ hk,Nat.sub_add_cancel (by omega)]
   have e2:i%k=(i - k)%k:=by rw [←Nat.mod_eq_sub_mod (by omega)]
   rw [e1,e2,List.getElem?_cons_succ]
theorem ZV {α:Type}{k:Nat}: ∀{ls:List (List α)},(∀l∈ls,l.length=k)→ls.flatten.length=ls.length*k
 | [],_=>by simp
 |l::ls,h=>by
  rw [List.flatten_cons,List.length_append,ZV (fun l hl=>h l (by simp [hl])),h l (by simp),List.length_cons,Nat.add_mul]
  omega
theorem zHM {S:TypeId→Nat}{lo:Nat}{w:World}{ow:Nat→Option Pl}{ds:List D}{cs:List Value}(h:RpS S lo w ow ds cs){i:Nat}{d:D}{c:Value}(hd:ds[i]? =some d)(hc:cs[i]? =some c):Rp S lo w ow .sh d c:=(vr h).2 i d c hd hc
theorem zGJ {S:TypeId→Nat}{lo:Nat}{w:World}{ow:Nat→Option Pl}{d:D}{c:Value}(h:Rp S lo w ow .sh d c):RpS S lo w ow [d] [c]:=by simp only [RpS];exact⟨c,[],rfl,h,rfl⟩
def i64 (x:Int):Prop:= -9223372036854775808≤x∧x≤9223372036854775807
section
variable {H:Type} {enc:TypeId×Value→H} {W:World} {lo:Nat}
abbrev Tro (enc:TypeId×Value→H)(W:World)(fuel:Nat)(t:TypeId)(cs:List Value)(x:DataW H×List MemPlace):Prop:=DataW.trod enc Try.prog W 0 (fun _=>true) true fuel t cs=some x
abbrev RpN (lo:Nat)(W:World)(d:D)(v:Value):Prop:=Rp (sz tyT) lo W (fun _=>none) .sh d v
abbrev RpSN (lo:Nat)(W:World)(ds:List D)(cs:List Value):Prop:=RpS (sz tyT) lo W (fun _=>none) ds cs
theorem zEz {w:World}{a:Addr}{n:Nat}{cs:List Value}(h:w.cells? 0 a n=some cs)(hn:n≠0):a.spot=none∧a.block<w.heap.size:=by
 obtain⟨_,h1,h2⟩:=World.cells?_some h
 have h3:w.cell? (a.add 0)=some cs[0]:=(h2 0 (by omega)).trans (List.getElem?_eq_getElem (by omega))
 have ha:a.add 0=a:=rfl
 rw [ha]at h3
 have hlt:=World.block_lt_of_cell? w a h3
 refine⟨?_,hlt⟩
 rcases hsp:a.spot with _|s
 ·rfl
 ·exfalso
  unfold World.cell? at h3
  rw [hsp]at h3
  split at h3
  ·simp at h3
  ·cases h3
theorem zIK {t e:TypeId}{k:Nat}(ht:Try.prog.underlying t=some (.slice e))(hk:0<k)(hS:sz tyT e=k)(hc:Try.prog.cellsOf e=k){Q:List D→Prop}
  (hQ: ∀(n:Nat) (cs:List Value) (y:DataW H×List MemPlace),Tro enc W n e cs y→∃ds,RpSN lo W ds cs∧Q ds) {fuel:Nat} {cs:List Value} {x:DataW H×List MemPlace} (h:Tro enc W fuel t cs x):
  ∃(v:Value) (dss:List (List D)),cs= [v]∧RpN lo W (.lst e dss.flatten) v∧dss.length≤9223372036854775807∧∀ds∈dss,Q ds∧ds.length=k:=by
 rcases open_slice ht h with⟨rfl,-⟩|⟨a,len,cap,m,n,Dt,Pl,rfl,-,hl,hm,hmm,-,hx⟩
 ·exact⟨_,[],rfl,(zx _ _).2 ⟨[],⟨rfl,0,by simp,none,0,rfl,Nat.le_refl _,by unfold maxLen;omega,fun h=>absurd rfl h⟩,fun i x u hx=>by simp at hx⟩,by simp,fun ds h=>by simp at h⟩
 simp only [if_true]at hmm
 subst hmm
 rw [hc]at hx
 obtain⟨f,hf⟩:=choose_lt (α:=List Value×List D) (p:=fun i y=>W.cells? 0 (a.add (i*k)) k=some y.1∧RpSN lo W y.2 y.1∧Q y.2) (fun i hi=>by
  obtain⟨cs',h1,h2⟩:=hx i hi
  obtain⟨ds,h3,h4⟩:=hQ n cs' _ h2
  exact⟨(cs',ds),h1,h3,h4⟩)
 have hlen: ∀i,i<m→(f i).1.length=k∧(f i).2.length=k:=fun i hi=>by
  obtain⟨h1,h2,h3⟩:=hf i hi
  obtain⟨_,h4,_⟩:=World.cells?_some h1
  have :=(vr h2).1
  exact⟨h4,by omega⟩
 let dss:=(List.range len).map fun i=>(f i).2
 let vss:=(List.range len).map fun i=>(f i).1
 have hd: ∀l∈dss,l.length=k:=fun l hl'=>by
  obtain⟨i,hi,rfl⟩:=List.mem_map.1 hl'
  have :=List.mem_range.1 hi
  exact(hlen i (by omega)).2
 have hv: ∀l∈vss,l.length=k:=fun l hl'=>by
  obtain⟨i,hi,rfl⟩:=List.mem_map.1 hl'
  have :=List.mem_range.1 hi
  exact(hlen i (by omega)).1
 have hdl:dss.length=len:=by simp [dss]
 have hvl:vss.length=len:=by simp [vss]
 refine⟨_,dss,rfl,(zx _ _).2 ⟨vss.flatten,⟨by rw [ZV hd,ZV hv,hdl,hvl],len,by rw [ZV hd,hdl,hS],some a,m,rfl,hl,hm,fun h0=> ?_⟩,fun i d u hdi hui=> ?_⟩,by rw [hdl];unfold maxLen at hm;omega,fun ds hds=> ?_⟩
 ·have h1:=(hf 0 (by omega)).1
  rw [Nat.zero_mul]at h1
  have ha:a.add 0=a:=rfl
  rw [ha]at h1
  obtain⟨hs,hlt⟩:=zEz h1 (by omega)
  obtain⟨b,o,s⟩:=a
  simp only at hs
  subst hs
  refine⟨b,o,rfl,hlt,rfl,fun i u hu=> ?_⟩
  rw [YA hk hv]at hu
  have hik:i / k<len:=by
   rcases Nat.lt_or_ge (i / k) len with h|h
   ·exact h
   ·rw [List.getElem?_eq_none (by rw [hvl];exact h)]at hu;cases hu
  rw [List.getElem?_map,List.getElem?_range hik]at hu
  simp only [Option.map_some,Option.bind_some]at hu
  obtain⟨_,_,h5⟩:=World.cells?_some (hf (i / k) (by omega)).1
  have :=(h5 (i%k) (Nat.mod_lt _ hk)).trans hu
  rw [add_plain,add_plain]at this
  rw [show o+i / k*k+i%k=o+i from by have :=Nat.div_add_mod' i k;omega]at this
  exact this
 ·rw [YA hk hd]at hdi
  rw [YA hk hv]at hui
  have hik:i / k<len:=by
   rcases Nat.lt_or_ge (i / k) len with h|h
   ·exact h
   ·rw [List.getElem?_eq_none (by rw [hvl];exact h)]at hui;cases hui
  rw [List.getElem?_map,List.getElem?_range hik]at hui hdi
  simp only [Option.map_some,Option.bind_some]at hui hdi
  exact zHM (hf (i / k) (by omega)).2.1 hdi hui
 ·refine⟨?_,hd ds hds⟩
  obtain⟨i,hi,rfl⟩:=List.mem_map.1 hds
  exact(hf i (by have :=List.mem_range.1 hi;omega)).2.2
end
theorem zE9 {P:Program}{f:FuncId}{args:List VT}{W:World}{cargs:List Value}(h:Fn P tyT f args [.c (.bool true)])(ha:vW (sz tyT) W.heap.size W (fun _=>none) args cargs):Calls P f cargs.toArray W (fun e w'=>e= .returned (.bool true)∧Below W.heap.size W w'):=by
 refine(h.2 W cargs ha).mono fun e w' hp=> ?_
 obtain⟨vs,ow',rfl,hb,-,-,hr⟩:=hp
 simp only [vc,Rp]at hr
 obtain⟨v,vs',rfl,rfl,rfl⟩:=hr
 exact⟨rfl,hb⟩
open Nat renaming reduceMod → zA, reduceMul → zB, reduceDiv → zC, reduceAdd → zD, reduceSub → zE, reduceEqDiff → zF, reduceBEq → zG, reduceLT → zH, reduceLeDiff → zI
open Go.RowKit
def dU (xs:List Int):List D:=xs.map (.int .u8)
theorem zDv (xs:List Int):(dU xs).length=xs.length:=by simp [dU]
theorem zGd (xs:List Int)(i:Nat):YW (dU xs) i=gi xs i:=by
 unfold YW dU gi
 rw [List.getElem?_map,List.getD_eq_getElem?_getD]
 cases xs[i]? <;>rfl
theorem zGE (xs:List Int)(i:Nat):yV (.int .u8) (dU xs) i=(i<xs.length):=by
 unfold yV dU
 rw [List.getElem?_map]
 apply propext
 constructor
 ·rintro⟨n,h⟩
  cases hx:xs[i]? with
  |none=>rw [hx]at h;cases h
  |some y=>exact(List.getElem?_eq_some_iff.1 hx).1
 ·intro h
  rw [List.getElem?_eq_getElem h]
  exact⟨_,rfl⟩
theorem zHE (xs:List Int)(n:Nat):(dU xs).take n=dU (xs.take n):=by simp [dU]
theorem zGW (xs:List Int)(n:Nat):(dU xs).drop n=dU (xs.drop n):=by simp [dU]
theorem zHF :Int.toNat 33=33:=rfl
theorem zGv :min 33 64=33:=rfl
theorem zGO (n:Int):arC .i64 n=(.int .i64 n,KT n):=rfl
attribute [push_cast] zHF zGv zGO zDv zGd zGE zHE zGW
def xJ (xs:List Int):Prop:=xs.length≤4096∧∀k,k<xs.length→0≤gi xs k∧gi xs k≤255
theorem zHO {a m:Int}(h0:0≤m)(h1:m≤1073741823):0≤QJ .u64 a m∧QJ .u64 a m≤m:=by
 have e:(BitVec.ofInt 64 a&&&BitVec.ofInt 64 m).toNat≤m.toNat:=by
  rw [BitVec.toNat_and]
  refine Nat.le_trans Nat.and_le_right ?_
  rw [BitVec.toNat_ofInt]
  have :((2^64:Nat):Int)=18446744073709551616:=by decide
  rw [this]
  omega
 unfold QJ
 have hb:IntKind.u64.bits=64:=rfl
 have hw: ∀n:Nat,(n:Int)≤1073741823→IntKind.u64.wrap (n:Int)=n:=fun n hn=>by
  unfold IntKind.wrap
  simp only [IntKind.bits,IntKind.signed]
  have :((2:Int)^64)=18446744073709551616:=by decide
  simp [this]
  omega
 show 0≤IntKind.u64.wrap ((BitVec.ofInt 64 a&&&BitVec.ofInt 64 m).toNat:Int)∧IntKind.u64.wrap ((BitVec.ofInt 64 a&&&BitVec.ofInt 64 m).toNat:Int)≤m
 rw [hw _ (by omega)]
 omega
def dH (h:Int):Int:=IntKind.u64.wrap (IntKind.u64.wrap (h*6364136223846793005)+1442695040888963407)
def dX (h:Int):Int:=QJ .u64 (dH h / 2^33) 16777215
theorem zFs (h:Int):0≤dX h∧dX h≤16777215:=zHO (by decide) (by decide)
def dI1 (code:List Int)(i:Int):Int:=if i<code.length then i+1 else i
def dR (code:List Int)(i h n:Int):Int:=(if i<code.length then dX h+gi code i.toNat else dX h).tmod n
theorem zHu {code:List Int}{i:Int}(h:0≤i∧i≤code.length):0≤dI1 code i∧dI1 code i≤code.length:=by unfold dI1;split<;>omega
theorem dR_rg {code:List Int}{i h n:Int}(hc:xJ code)(hi:0≤i)(hn:1≤n):0≤dR code i h n∧dR code i h n<n:=by
 have h1:=zFs h
 have h2:0≤(if i<code.length then dX h+gi code i.toNat else dX h):=by
  split
  ·have :=hc.2 i.toNat (by omega);omega
  ·omega
 unfold dR
 exact⟨Int.tmod_nonneg _ h2,Int.tmod_lt_of_pos _ (by omega)⟩
@[reducible] def dDc (code : List Int) (i h : Int) : List D := [.lst 5 (dU code), .int .i64 i, .int .u64 h]
set_option maxRecDepth 20000 in
set_option maxHeartbeats 4000000 in
theorem zDM (code:List Int)(hby:xJ code)(i h:Int)(hi:0≤i∧i≤code.length)(n:Int)(hn:1≤n):FnB Try.prog tyT 9 (dDc code i h) [.c (.int .i64 n)] (dDc code (dI1 code i) (dH h)) [.c (.int .i64 (dR code i h n))]:=by
 have hX:0≤QJ .u64 (IntKind.u64.wrap (IntKind.u64.wrap (h*6364136223846793005)+1442695040888963407) / 2^33) 16777215∧QJ .u64 (IntKind.u64.wrap (IntKind.u64.wrap (h*6364136223846793005)+1442695040888963407) / 2^33) 16777215≤16777215:=zFs h
 have hcl:=hby.1
 unfold dDc
 refine VH (fn:=Try.f9) (rs:= [.tmp 4]) zQ zN Try.func9 (by kernel_rfl) rfl rfl (by rw [Try.ntmps9];exact Nat.le_of_ble_eq_true rfl) rfl (by simp only [szA,List.mem_cons,List.not_mem_nil,or_false,forall_eq_or_imp,forall_eq,false_implies,implies_true,VT.cells,szL];try decide) (Nat.le_of_ble_eq_true rfl) (by simp only [szL];decide) (Nat.le_of_ble_eq_true rfl) rfl ?_
 rw [Try.ntmps9]
 simp only [push_cast,↓zK,↓zJ,↓reduceIte,zA,zB,zC,zD,zE,zF,zG,zH,zI,reduceCtorEq]
 refine zL fun K hK=> ?_
 refine zM zQ zN [] rfl ?_
 simp only [push_cast,↓zK,↓zJ,↓reduceIte,zA,zB,zC,zD,zE,zF,zG,zH,zI,reduceCtorEq]
 repeat' apply And.intro
 all_goals try exact gB
 all_goals first|(refine hK _ ?_;clear hK K)|(simp only [push_cast];done)
 refine zL fun K hK=> ?_
 refine zM zQ zN [] rfl ?_
 simp only [push_cast,↓zK,↓zJ,↓reduceIte,zA,zB,zC,zD,zE,zF,zG,zH,zI,reduceCtorEq]
 repeat' apply And.intro
 all_goals try exact gB
 all_goals first|(refine hK _ ?_;clear hK K)|(simp only [push_cast];done)
 refine zL fun K hK=> ?_
 refine zM zQ zN [] rfl ?_
 all_goals refine yC 6 fun K9 hK9=> ?_
 all_goals simp only [push_cast,↓zK,↓zJ,↓reduceIte,zA,zB,zC,zD,zE,zF,zG,zH,zI,reduceCtorEq]
 all_goals repeat'(first|(apply zO<;>(intro hg;(try simp only [push_cast]at hg)))|apply And.intro|(intro hg;(try simp only [push_cast]at hg)))
 all_goals first|exact gA|trivial|skip
 all_goals first|(refine hK9 _ ?_;clear hK9 K9)|(simp only [push_cast];done)
 all_goals simp only [push_cast,↓zK,↓zJ,↓reduceIte,zA,zB,zC,zD,zE,zF,zG,zH,zI,reduceCtorEq]
 all_goals repeat'(first|(apply zO<;>(intro hg;(try simp only [push_cast]at hg)))|apply And.intro|(intro hg;(try simp only [push_cast]at hg)))
 all_goals first|exact gA|trivial|skip
 all_goals first|(refine hK _ ?_;clear hK K)|(simp only [push_cast];done)
 refine zL fun K1 hK1=> ?_
 refine zL fun K hK=> ?_
 refine qC false zQ zN xC ?_ rfl ?_
 ·kernel_rfl
 intro C hC
 simp only [push_cast,↓zK,↓zJ,↓reduceIte,zA,zB,zC,zD,zE,zF,zG,zH,zI,reduceCtorEq]
 repeat' apply And.intro
 all_goals first|omega|with_reducible assumption|(refine hC _ ?_;kernel_rfl)|(simp only [List.length_set,List.length_append,List.length_replicate,List.length_cons,List.length_nil];omega)|skip
 all_goals first|(refine hK _ ?_;clear hC C hK K)|(simp only [push_cast];done)
 refine zV rfl (fun hc=> ?_) (fun hc=> ?_)<;>(try simp only [push_cast]at hc)
 ·
  have hcb:=hby.2 i.toNat (by omega)
  refine zL fun K hK=> ?_
  refine qC false zQ zN xC ?_ rfl ?_
  ·kernel_rfl
  intro C hC
  simp only [push_cast,↓zK,↓zJ,↓reduceIte,zA,zB,zC,zD,zE,zF,zG,zH,zI,reduceCtorEq]
  repeat' apply And.intro
  all_goals first|omega|with_reducible assumption|(refine hC _ ?_;kernel_rfl)|(simp only [List.length_set,List.length_append,List.length_replicate,List.length_cons,List.length_nil];omega)|skip
  all_goals first|(refine hK _ ?_;clear hC C hK K)|(simp only [push_cast];done)
  refine zM zQ zN [] rfl ?_
  simp only [push_cast,↓zK,↓zJ,↓reduceIte,zA,zB,zC,zD,zE,zF,zG,zH,zI,reduceCtorEq]
  repeat' apply And.intro
  all_goals try exact gB
  (try simp only [zR,zT,reduceIte,zF]);refine hK1 _ ?_
  refine zL fun K hK=> ?_
  refine zM zQ zN [] rfl ?_
  simp only [push_cast,↓zK,↓zJ,↓reduceIte,zA,zB,zC,zD,zE,zF,zG,zH,zI,reduceCtorEq]
  repeat' apply And.intro
  all_goals try exact gB
  all_goals first|(refine hK _ ?_;clear hK K)|(simp only [push_cast];done)
  refine zZ ?_
  (try simp only [zR,zT])
  refine⟨Or.inl rfl,?_⟩
  simp only [VO,zf,vP,yF,ye,push_cast,↓zK,↓zJ,↓reduceIte,zA,zB,zC,zD,zE,zF,zG,zH,zI,reduceCtorEq]
  all_goals first|exact⟨by unfold dR;rw [if_pos hc];rfl,(by unfold dI1;rw [if_pos hc]),rfl⟩|exact⟨by unfold dR;rw [if_neg hc];rfl,(by unfold dI1;rw [if_neg hc]),rfl⟩
 ·
  refine zX ?_
  (try simp only [zR,zT,reduceIte,zF]);refine hK1 _ ?_
  refine zL fun K hK=> ?_
  refine zM zQ zN [] rfl ?_
  simp only [push_cast,↓zK,↓zJ,↓reduceIte,zA,zB,zC,zD,zE,zF,zG,zH,zI,reduceCtorEq]
  repeat' apply And.intro
  all_goals try exact gB
  all_goals first|(refine hK _ ?_;clear hK K)|(simp only [push_cast];done)
  refine zZ ?_
  (try simp only [zR,zT])
  refine⟨Or.inl rfl,?_⟩
  simp only [VO,zf,vP,yF,ye,push_cast,↓zK,↓zJ,↓reduceIte,zA,zB,zC,zD,zE,zF,zG,zH,zI,reduceCtorEq]
  all_goals first|exact⟨by unfold dR;rw [if_pos hc];rfl,(by unfold dI1;rw [if_pos hc]),rfl⟩|exact⟨by unfold dR;rw [if_neg hc];rfl,(by unfold dI1;rw [if_neg hc]),rfl⟩
section
variable {H:Type} {enc:TypeId×Value→H} {W:World} {lo:Nat}
theorem zIL {fuel:Nat}{cs:List Value}{x:DataW H×List MemPlace}(h:Tro enc W fuel 5 cs x): ∃v n,cs= [v]∧RpN lo W (.int .u8 n) v∧(0≤n∧n≤255):=by
 obtain⟨n,rfl,-,hw⟩:=DataW.trod_int Try.underlying5 h
 exact⟨_,n,rfl,by simp only [Rp],by simp only [Lit.wf,Bool.and_eq_true,decide_eq_true_eq]at hw;exact hw⟩
theorem zDb : ∀(dss:List (List D)),(∀ds∈dss,∃n,ds= [.int .u8 n]∧(0≤n∧n≤255))→∃xs:List Int,dss.flatten=dU xs∧(∀x∈xs,0≤x∧x≤255)∧xs.length=dss.length
 | [],_=>⟨[],rfl,fun x hx=>by simp at hx,rfl⟩
 |ds::dss,h=>by
  obtain⟨n,rfl,hn⟩:=h ds (by simp)
  obtain⟨xs,e,hr,hl⟩:=zDb dss (fun d hd=>h d (by simp [hd]))
  refine⟨n::xs,by rw [List.flatten_cons,e];rfl,fun x hx=> ?_,by simp [hl]⟩
  rcases List.mem_cons.1 hx with rfl|hx
  ·exact hn
  ·exact hr x hx
set_option maxRecDepth 100000 in
theorem arg_U {base:Nat}{v:Value}{d:DataW H}{p:List MemPlace}(hv:Value.okWide Try.prog W .any base 22 v)(h:DataW.Trod enc Try.prog W 0 (fun _=>true) true 22 v d p): ∃xs,Zo (sz tyT) lo W (fun _=>none) (.c (.lst 5 (dU xs))) v∧(∀k,k<xs.length→0≤gi xs k∧gi xs k≤255)∧xs.length≤9223372036854775807:=by
 obtain⟨A,n,c,rfl⟩:=okWide_slice Try.underlying22 hv
 obtain⟨fuel,hf⟩:=h
 obtain⟨v',dss,e,h1,h2,h3⟩:=zIK (lo:=lo) (k:=1) Try.underlying22 (by omega) sz_5 (by kernel_rfl) (Q:=fun ds=> ∃n,ds= [.int .u8 n]∧(0≤n∧n≤255)) (fun n cs y hy=>by
  obtain⟨v,n,rfl,h1,h2⟩:=zIL (lo:=lo) hy
  exact⟨[.int .u8 n],zGJ h1,n,rfl,h2⟩) hf
 obtain⟨xs,e2,hr,hl⟩:=zDb dss (fun ds hds=>(h3 ds hds).1)
 rw [e2]at h1
 simp only [Value.cells,List.cons.injEq,and_true]at e
 subst e
 refine⟨xs,h1,fun k hk=>hr _ ?_,by omega⟩
 unfold gi
 rw [List.getD_eq_getElem?_getD,List.getElem?_eq_getElem hk]
 exact List.getElem_mem _
end
def jg :D→AV
 | .int k n=> .int k n
 | .bool b=> .bool b
 |_=> .dead
def Yf :List D→List Value→Prop
 | [],cs=>cs= []
 | .int k n::ds,cs=> ∃cs',cs= .int k n::cs'∧Yf ds cs'
 | .bool b::ds,cs=> ∃cs',cs= .bool b::cs'∧Yf ds cs'
 |_::_,_=>False
def Za :List D→List AV→Prop
 | [],[]=>True
 | .int k n::ds, .int k' n'::us=>(k'=k∧n'=n)∧Za ds us
 | .bool b::ds, .bool b'::us=>b'=b∧Za ds us
 |_,_=>False
def zFo (w:World)(ds:List D)(cargs:List Value)(e:Ending)(w':World):Prop:=
 ∃g ty c0 cs,cargs[0]? =some c0∧e= .returned (.pointer (some ⟨g,0,none⟩))∧Below w.heap.size w w'∧w.heap.size≤g∧g<w'.heap.size∧w'.heap[g]? =some (.cells (List.toArray (c0::cs)) ty (0,0))∧Yf ds cs
def FnP (P:Program)(τ:Ty)(f:FuncId)(args:List VT)(ds:List D):Prop:=
 qu P f∧∀(w:World) (cargs:List Value),vW (sz τ) w.heap.size w (fun _=>none) args cargs→Calls P f cargs.toArray w (zFo w ds cargs)
def Kq (τ:Ty)(st:St)(ds:List D):AV→Prop
 | .bp T 0=>match lk st.b T with
  |some (.sl 0 [] 0 len e::us)=>(match lk st.r 0 with|some R=>R.pin=some 0∧R.e=e∧R.xs.length=len*sz τ e∧sz τ e≠0|none=>False)∧Za ds us
  |_=>False
 |_=>False
def RetP (τ:Ty)(rs:List ResultVar)(ds:List D)(e:Exit)(st:St):Prop:=(e= .ret∨e= .normal)∧
 match yF τ st rs with
 |some ([v],ob)=>ob∧Kq τ st ds v
 |_=>False
section
variable {P:Program} {τ:Ty} {lo:Nat} {w0:Fz} {ow:Nat→Option Pl} {hd:Nat→Value} {bk:Nat→Nat} {st:St} {a:Act} {w:World}
theorem Xa {rr:List (Nat×zo)}{bb:List (Nat×List AV)}: ∀{ds:List D} {us:List AV} {cs:List Value},Za ds us→zY τ w rr bb hd bk us cs→Yf ds cs
 | [],[],cs,_,h=>by simpa only [zY,Yf]using h
 | [],_::_,_,h,_=>h.elim
 | .int k n::ds,[],_,h,_=>h.elim
 | .bool b::ds,[],_,h,_=>h.elim
 | .hole::ds,_,_,h,_=>by simp [Za]at h
 | .lst e xs::ds,_,_,h,_=>by simp [Za]at h
 | .int k n::ds,u::us,cs,h,h2=>by
  cases u<;>simp only [Za]at h
  obtain⟨⟨rfl,rfl⟩,h3⟩:=h
  simp only [zY,AvR]at h2
  obtain⟨v,cs',rfl,rfl,h4⟩:=h2
  exact⟨cs',rfl,Xa h3 h4⟩
 | .bool b::ds,u::us,cs,h,h2=>by
  cases u<;>simp only [Za]at h
  obtain⟨rfl,h3⟩:=h
  simp only [zY,AvR]at h2
  obtain⟨v,cs',rfl,rfl,h4⟩:=h2
  exact⟨cs',rfl,Xa h3 h4⟩
theorem Vz {rr:List (Nat×zo)}{bb:List (Nat×List AV)}: ∀{ds:List D} {cs:List Value},Yf ds cs→zY τ w rr bb hd bk (ds.map jg) cs
 | [],cs,h=>by simpa only [List.map_nil,zY,Yf]using h
 | .int k n::ds,cs,h=>by
  obtain⟨cs',rfl,h2⟩:=h
  simp only [List.map_cons,jg,zY,AvR]
  exact⟨_,cs',rfl,rfl,Vz h2⟩
 | .bool b::ds,cs,h=>by
  obtain⟨cs',rfl,h2⟩:=h
  simp only [List.map_cons,jg,zY,AvR]
  exact⟨_,cs',rfl,rfl,Vz h2⟩
 | .hole::ds,_,h=>h.elim
 | .lst e xs::ds,_,h=>h.elim
theorem zHJ (hτ:zz P τ)(hpos:yO τ){f:FuncId}{fn:Func}{c:Code}{rs:List ResultVar}{e0:TypeId}{xs0:List D}{args:List VT}{ds:List D}(hfn:P.funcs[f]? =some fn)(hname:(fn.name== "runtime.NumGoroutine")=false)(hb:fn.body=some c)(hres:fn.results=rs.toArray)(hn:(VT.c (.lst e0 xs0)::args).length≤fn.ntmps)(hfew:few (VT.c (.lst e0 xs0)::args)=true)(hs:szA τ (VT.c (.lst e0 xs0)::args))
  (h:awp P τ c (RetP τ rs ds) (wI τ fn.ntmps (VT.c (.lst e0 xs0)::args))):FnP P τ f (VT.c (.lst e0 xs0)::args) ds:=by
 refine⟨⟨fn,hfn,hname,by rw [hb];rfl⟩,fun w cargs hargs=> ?_⟩
 have hst0:=ux hs hfew hn hargs
 obtain⟨c0,cs0,hcargs,hc0,-⟩:=hargs
 subst hcargs
 simp only [Zo]at hc0
 obtain⟨A0,n0,k0,rfl,-⟩:=xK hc0
 refine calls_of_wp hfn hb (Go.wp_mono (h _ _ _ w ⟨_,_,_,hst0⟩) fun e a' w' ⟨st',⟨ow,hd,bk,hr⟩,he,hret0⟩=> ?_)
 have hpost:a'.defers= []∧∃v,(results fn a'.tmps).run P w'= .ok v w'∧zFo w ds (.slice A0 n0 k0::cs0) (.returned v) w':=by
  split at hret0
  rotate_left
  ·exact hret0.elim
  rename_i v ob0 hrv
  obtain⟨hob0,hret⟩:=hret0
  obtain⟨xs,hrun,hv⟩:=vD hτ hpos hr hres hrv hob0
  simp only [zY]at hv
  obtain⟨x,xs',rfl,hx,rfl⟩:=hv
  refine⟨hr.defers,_,hrun,?_⟩
  unfold Kq at hret
  split at hret
  rotate_left
  ·exact hret.elim
  rename_i T
  split at hret
  rotate_left
  ·exact hret.elim
  rename_i len e1 us hT
  obtain⟨h1,h2⟩:=hret
  cases hR:lk st'.r 0 with
  |none=>rw [hR]at h1;exact h1.elim
  |some R=>
   rw [hR]at h1
   obtain⟨hp,he1,hxl,hz⟩:=h1
   obtain⟨cs,ty,b1,b2,b3⟩:=hr.box T _ hT
   simp only [zY]at b3
   obtain⟨u0,cs1,rfl,k1,k2⟩:=b3
   simp only [AvR]at hx
   have hxp:=hx.2 ⟨_,hT⟩
   subst hxp
   have hph:=hr.pin _ R _ hR hp
   have hph:yE (Value.slice A0 n0 k0::cs0) 0=hd 0:=Option.some.inj hph
   have hh0:yE (Value.slice A0 n0 k0::cs0) 0= .slice A0 n0 k0:=rfl
   rw [hh0]at hph
   simp only [AvR]at k1
   obtain⟨hv,hin,A,n,c2,A',c',hnw,q1,q2,hle,hlc,hmx,hf,hA⟩:=k1.2 R hR (by simp [zl])
   simp only [yD,Option.some.injEq]at hin
   obtain⟨rfl,rfl⟩:=hf rfl
   obtain⟨A3,n3,c3,q3,l3,-⟩:=xK (hr.root _ R hR)
   rw [hin,q1]at q3;cases q3
   rw [he1]at l3
   have hn:n=len:=Nat.eq_of_mul_eq_mul_right (Nat.pos_of_ne_zero hz) (by rw [←l3,hxl])
   have hu0:u0= .slice A0 n0 k0:=by rw [hph,hin,q1,q2,hn]
   subst hu0
   have hlt:bk T<w'.heap.size:=(Array.getElem?_eq_some_iff.1 b1).1
   have hge:w.heap.size≤bk T:=by
    rcases Nat.lt_or_ge (bk T) w.heap.size with hl|hl
    ·exact absurd trivial ((hr.ge _ _ hlt b2 (by simp)).2 hl)
    ·exact hl
   exact⟨bk T,ty, .slice A0 n0 k0,cs1,rfl,rfl,⟨hr.below.os,hr.below.tape,hr.below.output,hr.below.size,fun b hb=>hr.below.block b hb trivial⟩,hge,hlt,b1,Xa h2 k2⟩
 rcases he with rfl|rfl<;>exact hpost
def Jy (P:Program)(τ:Ty)(o:Oper)(K:St→Prop)(st:St):Prop:=
 match yB o with
 |some (f,args,ts)=>
  match yk τ st ts.toList (args.toList.map (ev st)),args.toList.map (ev st)with
  |some (as9,ob),v0::_=>ob∧zr o≠1000000∧∃ds,FnP P τ f as9 ds∧K ((st.addB (zr o) (AV.killL noB (is1 (zr o)) (v0::ds.map jg))).put o.dst (.bp (zr o) 0))
  |_,_=>False
 |none=>False
theorem um {o:Oper}{K:St→Prop}{Q:Exit→Act→World→Prop}{K':Act→World→Prop}(hd: ∀k,o.dst=some k→k<a.tmps.size)(h:Rel τ lo w0 st a w)(ha:Jy P τ o K st)
  (hK: ∀st' x w',K st'→Rel τ lo w0 st' (a.put o.dst x) w'→K' (a.put o.dst x) w'):o.wp P a w K' Q:=by
 obtain⟨ow,hd',bk,hr⟩:=h
 unfold Jy at ha
 split at ha
 rotate_left
 ·exact ha.elim
 rename_i f args ts hc
 split at ha
 rotate_left
 ·exact ha.elim
 rename_i as9 ob v0 vs hargs hvs
 obtain⟨hob,ht,ds,⟨hcl,hcall⟩,hK1⟩:=ha
 have hev:zY τ w st.r st.b hd' bk (args.toList.map (ev st)) (args.toList.map a.eval):=zm.2 ⟨by simp,fun i v x hv hx=>by
  rw [List.getElem?_map]at hv hx
  cases hk:args.toList[i]? with
  |none=>rw [hk]at hv;cases hv
  |some p=>rw [hk]at hv hx;cases hv;cases hx;exact zg hr p⟩
 have hA:=wm hr w.heap.size hev hargs hob
 have hC:=hcall w _ hA
 unfold Oper.wp
 rw [Zz hr hc hcl]
 simp only [Oper.upon]
 refine hC.mono fun e w' hpost=> ?_
 obtain⟨g,ty,c0,cs,h0,he,hbl,hge,hlt,hg,hsc⟩:=hpost
 subst he
 rw [hvs]at hev
 simp only [zY]at hev
 obtain⟨x0,xs,hxs,hx0,-⟩:=hev
 rw [hxs]at h0
 simp only [List.getElem?_cons_zero,Option.some.injEq]at h0
 subst h0
 have hgrow:=VL hr (w':=w') (ow':=upd ow g (some (.box (zr o)))) hbl.size (fun b hb=>⟨hbl.block b hb,ya _ _ (by omega)⟩) (hr.below.below hbl) (fun b p hle hp hne=>⟨by have :=hr.low;omega,fun hlt2=>by have :=hr.below.size;omega⟩) (fun b hle=>by
  rw [ya _ _ (by omega)]
  exact hr.new b (by have :=hbl.size;omega))
 have hD: ∀d,noB d=false→yp w w' st.r st.r hd' hd' d:=fun d _ R hR=>⟨R,hR,rfl,fun p hp=>⟨hp,xR p _ _ _ _ (hr.root d R hR) hp (fun b o A n c hb _ hc=>by
  rw [xr (hbl.block b hb)];exact hc)⟩⟩
 have hB: ∀t,noB t=false→yo st.b st.b bk bk t:=fun t _ hl=>⟨hl,rfl⟩
 have hx0':=yl (τ:=τ) hD hB v0 _ hx0
 rw [qX]at hx0'
 have hadd:=VK hgrow (zr o) ht g (v0::ds.map jg) (x0::cs) ty hg (zu _ _ _) (by simp only [zY];exact⟨x0,cs,rfl,hx0',Vz hsc⟩)
 refine hK _ _ w' hK1 (xN hadd hd ?_)
 simp only [AvR]
 exact⟨⟨_,rfl⟩,fun _=>by rw [zu]⟩
def WL (P:Program)(τ:Ty)(al:List Nat)(t:Nat)(K:St→Prop):List Oper→St→Prop
 | [],st=>K st
 |o::os,st=>
  match o.guard with
  |none=>if o.dst=some t then Jy P τ o (WL P τ al t K os) st else aop P τ al o (WL P τ al t K os) st
  |some (j,want)=>False
theorem XJ (hτ:zz P τ)(hpos:yO τ){al:List Nat}{t:Nat}{all:List Oper}{K:St→Prop}{Q:Exit→Act→World→Prop}(hQ: ∀st a w,K st→Rel τ lo w0 st a w→Q .normal a w):
  ∀(os:List Oper) (st:St) (a:Act) (w:World),yh a.tmps.size os=true→Rel τ lo w0 st a w→WL P τ al t K os st→wpList P all.toArray Q os a w
 | [],st,a,w,_,h,ha=>wpList_nil (hQ st a w ha h)
 |o::os,st,a,w,hd,h,ha=>by
  have hd1: ∀k,o.dst=some k→k<a.tmps.size:=fun k hk=>by
   have :=List.all_eq_true.1 hd o (by simp)
   rw [hk]at this
   simpa using this
  have hd2:yh a.tmps.size os=true:=List.all_eq_true.2 fun x hx=>List.all_eq_true.1 hd x (by simp [hx])
  refine wpList_step fun K' hK'=> ?_
  simp only [WL]at ha
  split at ha
  ·rename_i hg
   rw [if_pos (by simp [Region.wanted,hg])]
   split at ha
   ·exact um hd1 h ha fun st' x w' h2 h3=>hK' _ _ (XJ hτ hpos hQ os st' _ w' (by rw [yg];exact hd2) h3 h2)
   ·exact vG hτ hpos hd1 h ha fun st' x w' h2 h3=>hK' _ _ (XJ hτ hpos hQ os st' _ w' (by rw [yg];exact hd2) h3 h2)
  ·exact ha.elim
end
theorem zAi {P:Program}{τ:Ty}{Q:Exit→St→Prop}{st:St}(t:Nat)(hτ:zz P τ)(hpos:yO τ)(al:List Nat){id:Nat}{ops:List Oper}(hd:yh st.n ops=true)(h:WL P τ al t (Q .normal) ops st):awp P τ (.region id ops.toArray false) Q st:=fun lo w0 a w hr=>by
 have hn:a.tmps.size=st.n:=by obtain⟨ow,hd,bk,h⟩:=hr;exact h.size
 refine wp_region_lit (XJ hτ hpos (fun st a w h1 h2=>⟨st,h2,h1⟩) ops st a w (by rw [hn];exact hd) hr h)
attribute [push_cast] Jy WL jg Kq Za RetP
def rH (code:List Int)(seed:Int):Nat→Int
 |0=>IntKind.u64.wrap (IntKind.u64.wrap (seed*7919)+code.length)
 |k+1=>IntKind.u64.wrap (IntKind.u64.wrap (IntKind.u64.wrap (rH code seed k*1099511628211)+gi code k)+3)
set_option maxRecDepth 20000 in
set_option maxHeartbeats 4000000 in
theorem zG7 (code:List Int)(hby:xJ code)(seed:Int)(hs:0≤seed∧seed≤1000):FnP Try.prog tyT 6 [.c (.lst 5 (dU code)), .c (.int .u64 seed)] [.int .i64 0, .int .u64 (rH code seed code.length)]:=by
 have hcl:=hby.1
 refine zHJ (fn:=Try.f6) (rs:= [.tmp 4]) zQ zN Try.func6 (by kernel_rfl) rfl rfl (by rw [Try.ntmps6];exact Nat.le_of_ble_eq_true rfl) rfl (by simp only [szA,List.mem_cons,List.not_mem_nil,or_false,forall_eq_or_imp,forall_eq,VT.cells,szL];try decide) ?_
 rw [Try.ntmps6]
 simp only [push_cast,↓zK,↓zJ,↓reduceIte,zA,zB,zC,zD,zE,zF,zG,zH,zI,reduceCtorEq]
 refine zL fun K hK=> ?_
 refine zM zQ zN [] rfl ?_
 simp only [push_cast,↓zK,↓zJ,↓reduceIte,zA,zB,zC,zD,zE,zF,zG,zH,zI,reduceCtorEq]
 repeat' apply And.intro
 all_goals try exact gB
 all_goals first|(refine hK _ ?_;clear hK K)|(simp only [push_cast];done)
 refine zL fun K hK=> ?_
 refine zM zQ zN [] rfl ?_
 simp only [push_cast,↓zK,↓zJ,↓reduceIte,zA,zB,zC,zD,zE,zF,zG,zH,zI,reduceCtorEq]
 repeat' apply And.intro
 all_goals try exact gB
 all_goals first|(refine hK _ ?_;clear hK K)|(simp only [push_cast];done)
 refine zL fun K1 hK1=> ?_
 refine zL fun K hK=> ?_
 refine zM zQ zN [] rfl ?_
 simp only [push_cast,↓zK,↓zJ,↓reduceIte,zA,zB,zC,zD,zE,zF,zG,zH,zI,reduceCtorEq]
 repeat' apply And.intro
 all_goals try exact gB
 all_goals first|(refine hK _ ?_;clear hK K)|(simp only [push_cast];done)
 refine zW ?_
 refine zk [6,15,16,17,18,19,20,21,22,23,24,25,26,27,28,29,30,31,32,33,34,35,36] [] (fun(k:Nat)=> [(6, .int .i64 k),(5, .bp 15 0)]) (fun k=> [(15,[.sl 0 [] 0 code.length 5, .int .i64 0, .int .u64 (rH code seed k)])]) (fun k=> []) (fun k=>k≤code.length) (fun k=>code.length - k) 0 ?_ (by omega) ?_
 ·
  refine zb rfl ?_ ?_ ?_<;>simp only [zi,zh,push_cast,↓zK,↓zJ,↓reduceIte,zA,zB,zC,zD,zE,zF,zG,zH,zI,reduceCtorEq]
  all_goals(try rfl)
 ·rintro k hk KL0 hL0
  simp only [push_cast,↓zK,↓zJ,↓reduceIte,zA,zB,zC,zD,zE,zF,zG,zH,zI,reduceCtorEq]
  refine zL fun K2 hK2=> ?_
  refine zL fun K hK=> ?_
  refine zM zQ zN [] rfl ?_
  simp only [push_cast,↓zK,↓zJ,↓reduceIte,zA,zB,zC,zD,zE,zF,zG,zH,zI,reduceCtorEq]
  repeat' apply And.intro
  all_goals try exact gB
  all_goals first|(refine hK _ ?_;clear hK K)|(simp only [push_cast];done)
  refine zV rfl (fun hc=> ?_) (fun hc=> ?_)<;>(try simp only [push_cast]at hc)
  ·
   refine zX ?_
   (try simp only [zR,zT,reduceIte,zF]);refine hK2 _ ?_
   refine zL fun K3 hK3=> ?_
   refine zW ?_
   have hbk:=hby.2 k (by omega)
   refine qC false zQ zN xC ?_ rfl ?_
   ·kernel_rfl
   intro C hC
   simp only [push_cast,↓zK,↓zJ,↓reduceIte,zA,zB,zC,zD,zE,zF,zG,zH,zI,reduceCtorEq]
   repeat' apply And.intro
   all_goals first|omega|with_reducible assumption|(refine hC _ ?_;kernel_rfl)|(simp only [List.length_set,List.length_append,List.length_replicate,List.length_cons,List.length_nil];omega)|skip
   clear hC C
   (try simp only [zR,zT,reduceIte,zF]);refine hK3 _ ?_
   refine zM zQ zN [] rfl ?_
   simp only [push_cast,↓zK,↓zJ,↓reduceIte,zA,zB,zC,zD,zE,zF,zG,zH,zI,reduceCtorEq]
   repeat' apply And.intro
   all_goals try exact gB
   refine hL0 _ ⟨k+1,by omega,by omega,?_⟩
   refine zb rfl ?_ ?_ ?_<;>simp only [zi,zh,push_cast,↓zK,↓zJ,↓reduceIte,zA,zB,zC,zD,zE,zF,zG,zH,zI,reduceCtorEq]
   all_goals(try rfl)
  ·
   refine zn ?_
   have hkk:k=code.length:=by omega
   subst hkk
   (try simp only [zR,zT,reduceIte,zF]);refine hK1 _ ?_
   refine zL fun K hK=> ?_
   refine zM zQ zN [] rfl ?_
   simp only [push_cast,↓zK,↓zJ,↓reduceIte,zA,zB,zC,zD,zE,zF,zG,zH,zI,reduceCtorEq]
   repeat' apply And.intro
   all_goals try exact gB
   all_goals first|(refine hK _ ?_;clear hK K)|(simp only [push_cast];done)
   refine zZ ?_
   (try simp only [zR,zT])
   refine⟨Or.inl rfl,?_⟩
   simp only [RetP,Kq,Za,yF,ye,push_cast,↓zK,↓zJ,↓reduceIte,zA,zB,zC,zD,zE,zF,zG,zH,zI,reduceCtorEq]
   first|exact⟨⟨rfl,rfl,by simp [zDv],by decide⟩,⟨rfl,rfl⟩,⟨rfl,rfl⟩,trivial⟩|skip
theorem rm_kv {α:Type}(f:Nat→Bool)(k:Nat)(v:α)(l:List (Nat×α)):rm f ((k,v)::l)=if f k=true then rm f l else(k,v)::rm f l:=by
 unfold rm
 rw [List.filter_cons]
 cases f k<;>rfl
theorem rm_nl {α:Type}(f:Nat→Bool):rm f ([]:List (Nat×α))= []:=rfl
attribute [push_cast] rm_kv rm_nl
attribute [-push_cast] rm
def nI (code:List Int):Nat→Int
 |0=>0
 |j+1=>dI1 code (nI code j)
def nH (code:List Int)(seed:Int):Nat→Int
 |0=>rH code seed code.length
 |j+1=>dH (nH code seed j)
def dv (code:List Int)(seed:Int)(j:Nat)(n:Int):Int:=dR code (nI code j) (nH code seed j) n
theorem zCh (code:List Int): ∀j,0≤nI code j∧nI code j≤code.length
 |0=>⟨Int.le_refl _,by show(0:Int)≤_;omega⟩
 |j+1=>zHu (zCh code j)
theorem wQ {code:List Int}(hby:xJ code)(seed:Int)(j:Nat){n:Int}(hn:1≤n):0≤dv code seed j n∧dv code seed j n<n:=dR_rg hby (zCh code j).1 hn
theorem nI_s (code:List Int)(j:Nat):nI code (j+1)=dI1 code (nI code j):=rfl
theorem nH_s (code:List Int)(seed:Int)(j:Nat):nH code seed (j+1)=dH (nH code seed j):=rfl
attribute [irreducible] nI nH dv
@[reducible] def dSt (code : List Int) (seed : Int) (j : Nat) : List D := dDc code (nI code j) (nH code seed j)
theorem wZ {code:List Int}(hby:xJ code)(seed:Int)(j:Nat)(n:Int)(hn:1≤n):FnB Try.prog tyT 9 (dSt code seed j) [.c (.int .i64 n)] (dSt code seed (j+1)) [.c (.int .i64 (dv code seed j n))]:=
 by
 have h:=zDM code hby _ (nH code seed j) (zCh code j) n hn
 have e1:dI1 code (nI code j)=nI code (j+1):=(nI_s code j).symm
 have e2:dH (nH code seed j)=nH code seed (j+1):=(nH_s code seed j).symm
 rw [e1,e2]at h
 unfold dv
 exact h
theorem zFO (n:Nat):(1:Int)+(n:Int)=(n:Int)+1:=Int.add_comm _ _
attribute [push_cast] zFO Int.sub_zero
def mks (code:List Int)(seed:Int)(N c:Nat):Nat→List Bool
 |0=>List.replicate N false
 |t+1=>(mks code seed N c t).set (dv code seed (c+t) N).toNat true
theorem jY (code:List Int)(seed:Int)(N c:Nat): ∀t,(mks code seed N c t).length=N
 |0=>by simp [mks]
 |t+1=>by simp [mks,jY code seed N c t]
def qN (m:List Bool):Nat→List Int
 |0=> []
 |u+1=>if gb m u then qN m u++ [(u:Int)]else qN m u
theorem Jl {m:List Bool}{u:Nat}(h:gb m u=true):qN m (u+1)=qN m u++ [(u:Int)]:=by show(if _ then _ else _)=_;rw [if_pos h]
theorem je {m:List Bool}{u:Nat}(h: ¬gb m u=true):qN m (u+1)=qN m u:=by show(if _ then _ else _)=_;rw [if_neg h]
theorem Jk (m:List Bool): ∀u,(qN m u).length≤u
 |0=>Nat.le_refl _
 |u+1=>by
  have :=Jk m u
  unfold qN
  split
  ·simp;omega
  ·omega
def rK (code:List Int)(seed:Int)(c:Nat):Nat:=(dv code seed c 3).toNat
def cA (code:List Int)(seed:Int)(j:Nat):Nat→Nat
 |0=>j+1
 |v+1=>cA code seed j v+1+(rK code seed (cA code seed j v)+1)+1
def oA (code:List Int)(seed:Int)(j:Nat):Nat→List Int
 |0=> []
 |v+1=>oA code seed j v++ [dv code seed (cA code seed j v+1+(rK code seed (cA code seed j v)+1)) 2]
def xA (code:List Int)(seed:Int)(N j:Nat):Nat→List (List Int)
 |0=> []
 |v+1=>xA code seed N j v++ [qN (mks code seed N (cA code seed j v+1) (rK code seed (cA code seed j v)+1)) N]
theorem Kf (code:List Int)(seed:Int)(j:Nat): ∀v,(oA code seed j v).length=v
 |0=>rfl
 |v+1=>by simp [oA,Kf code seed j v]
theorem Ky (code:List Int)(seed:Int)(N j:Nat): ∀v,(xA code seed N j v).length=v
 |0=>rfl
 |v+1=>by simp [xA,Ky code seed N j v]
def arN (code:List Int)(seed:Int)(j:Nat)(most:Int):Nat:=(dv code seed j most).toNat+1
def arA (code:List Int)(seed:Int)(j:Nat)(most:Int):Ar:=⟨oA code seed j (arN code seed j most),xA code seed (arN code seed j most) j (arN code seed j most)⟩
def arJ (code:List Int)(seed:Int)(j:Nat)(most:Int):Nat:=cA code seed j (arN code seed j most)
set_option maxRecDepth 20000 in
set_option maxHeartbeats 4000000 in
theorem zCx (code:List Int)(hby:xJ code)(seed:Int)(j:Nat)(most:Int)(hm:1≤most∧most≤16):FnB Try.prog tyT 7 (dSt code seed j) [.c (.int .i64 most)] (dSt code seed (arJ code seed j most)) [.agg (dAr (arA code seed j most))]:=by
 have hcl:=hby.1
 have hr0:=wQ hby seed j hm.1
 have hB0:=wZ hby seed j most hm.1
 unfold arJ arA arN
 obtain⟨n,hn⟩: ∃n:Nat,dv code seed j most=(n:Int):=⟨_,(Int.toNat_of_nonneg hr0.1).symm⟩
 rw [hn]at hB0 hr0⊢
 rw [Int.toNat_natCast]
 unfold dAr
 refine VH (fn:=Try.f7) (rs:= [.cell 4 30]) zQ zN Try.func7 (by kernel_rfl) rfl rfl (by rw [Try.ntmps7];exact Nat.le_of_ble_eq_true rfl) rfl (by simp only [szA,List.mem_cons,List.not_mem_nil,or_false,forall_eq_or_imp,forall_eq,false_implies,implies_true,VT.cells,szL];try decide) (Nat.le_of_ble_eq_true rfl) (by simp only [szL];decide) (Nat.le_of_ble_eq_true rfl) rfl ?_
 rw [Try.ntmps7]
 simp only [push_cast,↓zK,↓zJ,↓reduceIte,zA,zB,zC,zD,zE,zF,zG,zH,zI,reduceCtorEq]
 refine zL fun K hK=> ?_
 refine zM zQ zN [] rfl ?_
 simp only [push_cast,↓zK,↓zJ,↓reduceIte,zA,zB,zC,zD,zE,zF,zG,zH,zI,reduceCtorEq]
 repeat' apply And.intro
 all_goals try exact gB
 all_goals first|(refine hK _ ?_;clear hK K)|(simp only [push_cast];done)
 refine zL fun K hK=> ?_
 refine ze false zQ zN ?_ rfl ?_
 ·kernel_rfl
 all_goals refine zj 3 fun K9 hK9=> ?_
 all_goals simp only [push_cast,↓zK,↓zJ,↓reduceIte,zA,zB,zC,zD,zE,zF,zG,zH,zI,reduceCtorEq]
 all_goals repeat'(first|(apply zO<;>(intro hg;(try simp only [push_cast]at hg)))|(refine⟨_,_,hB0,?_⟩;simp only [push_cast,↓zK,↓zJ,↓reduceIte,zA,zB,zC,zD,zE,zF,zG,zH,zI,reduceCtorEq])|apply And.intro|(intro hg;(try simp only [push_cast]at hg)))
 all_goals try exact gA
 all_goals first|(refine hK9 _ ?_;clear hK9 K9)|(simp only [push_cast];done)
 all_goals simp only [push_cast,↓zK,↓zJ,↓reduceIte,zA,zB,zC,zD,zE,zF,zG,zH,zI,reduceCtorEq]
 all_goals repeat'(first|(apply zO<;>(intro hg;(try simp only [push_cast]at hg)))|(refine⟨_,_,hB0,?_⟩;simp only [push_cast,↓zK,↓zJ,↓reduceIte,zA,zB,zC,zD,zE,zF,zG,zH,zI,reduceCtorEq])|apply And.intro|(intro hg;(try simp only [push_cast]at hg)))
 all_goals try exact gA
 all_goals first|(refine hK _ ?_;clear hK K)|(simp only [push_cast];done)
 refine zL fun K hK=> ?_
 refine zM zQ zN [] rfl ?_
 simp only [push_cast,↓zK,↓zJ,↓reduceIte,zA,zB,zC,zD,zE,zF,zG,zH,zI,reduceCtorEq]
 repeat' apply And.intro
 all_goals try exact gB
 all_goals first|(refine hK _ ?_;clear hK K)|(simp only [push_cast];done)
 refine zL fun K1 hK1=> ?_
 refine zL fun K hK=> ?_
 refine zM zQ zN [] rfl ?_
 simp only [push_cast,↓zK,↓zJ,↓reduceIte,zA,zB,zC,zD,zE,zF,zG,zH,zI,reduceCtorEq]
 repeat' apply And.intro
 all_goals try exact gB
 all_goals first|(refine hK _ ?_;clear hK K)|(simp only [push_cast];done)
 refine zW ?_
 refine zk [6,7,8,9,10,11,17,18,19,20,21,22,23,24,25,26,27,28,29,30,31,32,33,34,35,36,37,38,39,40,41,42,43,44,45,46,47,48,49,50,51,52,53,54,55,56,57,58,59,60,61,62,1000000] [] (fun(v:Nat)=> [(7, .int .i64 v),(6, .bp 6 0)]) (fun v=> [(6,[.sl 96 [] 0 v 2, .sl 97 [] 0 v 27]),(1000000,[.sl 16000000 [] 0 code.length 5, .int .i64 (nI code (cA code seed j v)), .int .u64 (nH code seed (cA code seed j v))])]) (fun v=> [(96,⟨.ex,2,dI (oA code seed j v),none⟩),(97,⟨.ex,27,dII (xA code seed (n+1) j v),none⟩),(16000000,⟨.sh,5,dU code,some 16000000⟩)]) (fun v=>v≤n+1) (fun v=>n+1 - v) 0 ?_ (by omega) ?_
 ·
  rw [show dI (oA code seed j 0)= []from rfl,show dII (xA code seed (n+1) j 0)= []from rfl,show cA code seed j 0=j+1 from rfl]
  refine zb rfl ?_ ?_ ?_<;>simp only [zi,zh,push_cast,↓zK,↓zJ,↓reduceIte,zA,zB,zC,zD,zE,zF,zG,zH,zI,reduceCtorEq]
 ·rintro v hv KL0 hL0
  have hol:=Kf code seed j v
  have hxl:=Ky code seed (n+1) j v
  simp only [push_cast,↓zK,↓zJ,↓reduceIte,zA,zB,zC,zD,zE,zF,zG,zH,zI,reduceCtorEq]
  refine zL fun K2 hK2=> ?_
  refine zL fun K hK=> ?_
  refine zM zQ zN [] rfl ?_
  simp only [push_cast,↓zK,↓zJ,↓reduceIte,zA,zB,zC,zD,zE,zF,zG,zH,zI,reduceCtorEq]
  repeat' apply And.intro
  all_goals try exact gB
  all_goals first|(refine hK _ ?_;clear hK K)|(simp only [push_cast];done)
  refine zV rfl (fun hc=> ?_) (fun hc=> ?_)<;>(try simp only [push_cast]at hc)
  ·
   refine zX ?_
   (try simp only [zR,zT,reduceIte,zF]);refine hK2 _ ?_
   refine zL fun K3 hK3=> ?_
   refine zW ?_
   refine zL fun K hK=> ?_
   refine zM zQ zN [] rfl ?_
   simp only [push_cast,↓zK,↓zJ,↓reduceIte,zA,zB,zC,zD,zE,zF,zG,zH,zI,reduceCtorEq]
   repeat' apply And.intro
   all_goals try exact gB
   all_goals first|(refine hK _ ?_;clear hK K)|(simp only [push_cast];done)
   refine zL fun K4 hK4=> ?_
   have hr1:=wQ hby seed (cA code seed j v) (n:=3) (by omega)
   have hB1:=wZ hby seed (cA code seed j v) 3 (by omega)
   rw [show dv code seed (cA code seed j v) 3=(rK code seed (cA code seed j v):Int)from (Int.toNat_of_nonneg hr1.1).symm]at hB1 hr1
   have hr2:=fun t=>wQ hby seed (cA code seed j v+1+t) (n:=(n:Int)+1) (by omega)
   have hB2:=fun t=>wZ hby seed (cA code seed j v+1+t) ((n:Int)+1) (by omega)
   have hB3:=wZ hby seed (cA code seed j v+1+(rK code seed (cA code seed j v)+1)) 2 (by omega)
   refine zL fun K hK=> ?_
   refine ze false zQ zN ?_ rfl ?_
   ·kernel_rfl
   all_goals refine zj 2 fun K9 hK9=> ?_
   all_goals simp only [push_cast,↓zK,↓zJ,↓reduceIte,zA,zB,zC,zD,zE,zF,zG,zH,zI,reduceCtorEq]
   all_goals repeat'(first|(apply zO<;>(intro hg;(try simp only [push_cast]at hg)))|(refine⟨_,_,hB1,?_⟩;simp only [push_cast,↓zK,↓zJ,↓reduceIte,zA,zB,zC,zD,zE,zF,zG,zH,zI,reduceCtorEq])|apply And.intro|(intro hg;(try simp only [push_cast]at hg)))
   all_goals try exact gA
   all_goals first|(refine hK9 _ ?_;clear hK9 K9)|(simp only [push_cast];done)
   all_goals simp only [push_cast,↓zK,↓zJ,↓reduceIte,zA,zB,zC,zD,zE,zF,zG,zH,zI,reduceCtorEq]
   all_goals repeat'(first|(apply zO<;>(intro hg;(try simp only [push_cast]at hg)))|(refine⟨_,_,hB1,?_⟩;simp only [push_cast,↓zK,↓zJ,↓reduceIte,zA,zB,zC,zD,zE,zF,zG,zH,zI,reduceCtorEq])|apply And.intro|(intro hg;(try simp only [push_cast]at hg)))
   all_goals try exact gA
   all_goals first|(refine hK _ ?_;clear hK K)|(simp only [push_cast];done)
   refine zW ?_
   refine zk [9,27,28,29,30,31,32,33,34,35,1000000] [128] (fun(t:Nat)=> [(9, .int .i64 ((rK code seed (cA code seed j v):Int)+1 - t)),(8, .sl 128 [] 0 (n+1) 4)]) (fun t=> [(1000000,[.sl 16000000 [] 0 code.length 5, .int .i64 (nI code (cA code seed j v+1+t)), .int .u64 (nH code seed (cA code seed j v+1+t))])]) (fun t=> [(128,⟨.ex,4,dB (mks code seed (n+1) (cA code seed j v+1) t),none⟩),(16000000,⟨.sh,5,dU code,some 16000000⟩)]) (fun t=>t≤rK code seed (cA code seed j v)+1) (fun t=>rK code seed (cA code seed j v)+1 - t) 0 ?_ (by omega) ?_
   ·
    rw [show mks code seed (n+1) (cA code seed j v+1) 0=List.replicate (n+1) false from rfl]
    refine zb rfl ?_ ?_ ?_<;>simp only [zi,zh,push_cast,↓zK,↓zJ,↓reduceIte,zA,zB,zC,zD,zE,zF,zG,zH,zI,reduceCtorEq]
   ·rintro t ht KL1 hL1
    have hml:=jY code seed (n+1) (cA code seed j v+1) t
    simp only [push_cast,↓zK,↓zJ,↓reduceIte,zA,zB,zC,zD,zE,zF,zG,zH,zI,reduceCtorEq]
    refine zL fun K5 hK5=> ?_
    refine zL fun K hK=> ?_
    refine zM zQ zN [] rfl ?_
    simp only [push_cast,↓zK,↓zJ,↓reduceIte,zA,zB,zC,zD,zE,zF,zG,zH,zI,reduceCtorEq]
    repeat' apply And.intro
    all_goals try exact gB
    all_goals first|(refine hK _ ?_;clear hK K)|(simp only [push_cast];done)
    refine zV rfl (fun hc=> ?_) (fun hc=> ?_)<;>(try simp only [push_cast]at hc)
    ·
     refine zX ?_
     (try simp only [zR,zT,reduceIte,zF]);refine hK5 _ ?_
     refine zL fun K6 hK6=> ?_
     refine zW ?_
     have hr3:=hr2 t
     refine ze false zQ zN ?_ rfl ?_
     ·kernel_rfl
     all_goals refine zj 4 fun K9 hK9=> ?_
     all_goals simp only [push_cast,↓zK,↓zJ,↓reduceIte,zA,zB,zC,zD,zE,zF,zG,zH,zI,reduceCtorEq]
     all_goals repeat'(first|(apply zO<;>(intro hg;(try simp only [push_cast]at hg)))|(refine⟨_,_,hB2 t,?_⟩;simp only [push_cast,↓zK,↓zJ,↓reduceIte,zA,zB,zC,zD,zE,zF,zG,zH,zI,reduceCtorEq])|apply And.intro|(intro hg;(try simp only [push_cast]at hg)))
     all_goals try exact gA
     all_goals first|(refine hK9 _ ?_;clear hK9 K9)|(simp only [push_cast];done)
     all_goals simp only [push_cast,↓zK,↓zJ,↓reduceIte,zA,zB,zC,zD,zE,zF,zG,zH,zI,reduceCtorEq]
     all_goals repeat'(first|(apply zO<;>(intro hg;(try simp only [push_cast]at hg)))|(refine⟨_,_,hB2 t,?_⟩;simp only [push_cast,↓zK,↓zJ,↓reduceIte,zA,zB,zC,zD,zE,zF,zG,zH,zI,reduceCtorEq])|apply And.intro|(intro hg;(try simp only [push_cast]at hg)))
     all_goals try exact gA
     (try simp only [zR,zT,reduceIte,zF]);refine hK6 _ ?_
     refine zM zQ zN [] rfl ?_
     simp only [push_cast,↓zK,↓zJ,↓reduceIte,zA,zB,zC,zD,zE,zF,zG,zH,zI,reduceCtorEq]
     repeat' apply And.intro
     all_goals try exact gB
     refine hL1 _ ⟨t+1,by omega,by omega,?_⟩
     refine zb rfl ?_ ?_ ?_<;>simp only [zi,zh,push_cast,↓zK,↓zJ,↓reduceIte,zA,zB,zC,zD,zE,zF,zG,zH,zI,reduceCtorEq]
     all_goals first|(refine congrArg (AV.int .i64) ?_;omega)|exact rfl|skip
    ·
     refine zn ?_
     have htt:t=(rK code seed (cA code seed j v)+1):=by omega
     subst htt
     (try simp only [zR,zT,reduceIte,zF]);refine hK4 _ ?_
     refine zL fun K hK=> ?_
     refine zM zQ zN [] rfl ?_
     simp only [push_cast,↓zK,↓zJ,↓reduceIte,zA,zB,zC,zD,zE,zF,zG,zH,zI,reduceCtorEq]
     repeat' apply And.intro
     all_goals try exact gB
     all_goals first|(refine hK _ ?_;clear hK K)|(simp only [push_cast];done)
     refine zL fun K7 hK7=> ?_
     refine zL fun K hK=> ?_
     refine zM zQ zN [] rfl ?_
     simp only [push_cast,↓zK,↓zJ,↓reduceIte,zA,zB,zC,zD,zE,zF,zG,zH,zI,reduceCtorEq]
     repeat' apply And.intro
     all_goals try exact gB
     all_goals first|(refine hK _ ?_;clear hK K)|(simp only [push_cast];done)
     refine zW ?_
     refine zk [10,11,37,38,39,40,41,42,43,44,45,46,47,48,49] [160] (fun(u:Nat)=> [(11, .int .i64 u),(10, .sl 160 [] 0 (qN (mks code seed (n+1) (cA code seed j v+1) (rK code seed (cA code seed j v)+1)) u).length 2)]) (fun u=> []) (fun u=> [(160,⟨.ex,2,dI (qN (mks code seed (n+1) (cA code seed j v+1) (rK code seed (cA code seed j v)+1)) u),none⟩)]) (fun u=>u≤n+1) (fun u=>n+1 - u) 0 ?_ (by omega) ?_
     ·
      rw [show qN (mks code seed (n+1) (cA code seed j v+1) (rK code seed (cA code seed j v)+1)) 0= []from rfl,show dI []= []from rfl]
      refine zb rfl ?_ ?_ ?_<;>simp only [zi,zh,push_cast,↓zK,↓zJ,↓reduceIte,zA,zB,zC,zD,zE,zF,zG,zH,zI,reduceCtorEq]
     ·rintro u hu KL2 hL2
      have hul:=Jk (mks code seed (n+1) (cA code seed j v+1) (rK code seed (cA code seed j v)+1)) u
      simp only [push_cast,↓zK,↓zJ,↓reduceIte,zA,zB,zC,zD,zE,zF,zG,zH,zI,reduceCtorEq]
      refine zL fun K8 hK8=> ?_
      refine zL fun K hK=> ?_
      refine zM zQ zN [] rfl ?_
      simp only [push_cast,↓zK,↓zJ,↓reduceIte,zA,zB,zC,zD,zE,zF,zG,zH,zI,reduceCtorEq]
      repeat' apply And.intro
      all_goals try exact gB
      all_goals first|(refine hK _ ?_;clear hK K)|(simp only [push_cast];done)
      refine zV rfl (fun hc=> ?_) (fun hc=> ?_)<;>(try simp only [push_cast]at hc)
      ·
       refine zX ?_
       (try simp only [zR,zT,reduceIte,zF]);refine hK8 _ ?_
       refine zL fun K9 hK9=> ?_
       refine zW ?_
       refine zL fun K hK=> ?_
       refine zM zQ zN [] rfl ?_
       simp only [push_cast,↓zK,↓zJ,↓reduceIte,zA,zB,zC,zD,zE,zF,zG,zH,zI,reduceCtorEq]
       repeat' apply And.intro
       all_goals try exact gB
       all_goals first|(refine hK _ ?_;clear hK K)|(simp only [push_cast];done)
       refine zV rfl (fun hc=> ?_) (fun hc=> ?_)<;>(try simp only [push_cast]at hc)
       ·
        refine zM zQ zN [] rfl ?_
        simp only [push_cast,↓zK,↓zJ,↓reduceIte,zA,zB,zC,zD,zE,zF,zG,zH,zI,reduceCtorEq]
        repeat' apply And.intro
        all_goals try exact gB
        (try simp only [zR,zT,reduceIte,zF]);refine hK9 _ ?_
        refine zM zQ zN [] rfl ?_
        simp only [push_cast,↓zK,↓zJ,↓reduceIte,zA,zB,zC,zD,zE,zF,zG,zH,zI,reduceCtorEq]
        repeat' apply And.intro
        all_goals try exact gB
        refine hL2 _ ⟨u+1,by omega,by omega,?_⟩
        rw [Jl hc]
        refine zb rfl ?_ ?_ ?_<;>simp only [zi,zh,push_cast,↓zK,↓zJ,↓reduceIte,zA,zB,zC,zD,zE,zF,zG,zH,zI,reduceCtorEq]
        all_goals(try(rw [List.length_append];rfl))
       ·
        refine zX ?_
        (try simp only [zR,zT,reduceIte,zF]);refine hK9 _ ?_
        refine zM zQ zN [] rfl ?_
        simp only [push_cast,↓zK,↓zJ,↓reduceIte,zA,zB,zC,zD,zE,zF,zG,zH,zI,reduceCtorEq]
        repeat' apply And.intro
        all_goals try exact gB
        refine hL2 _ ⟨u+1,by omega,by omega,?_⟩
        rw [je (by rw [hc];decide)]
        refine zb rfl ?_ ?_ ?_<;>simp only [zi,zh,push_cast,↓zK,↓zJ,↓reduceIte,zA,zB,zC,zD,zE,zF,zG,zH,zI,reduceCtorEq]
        all_goals(try(rw [List.length_append];rfl))
      ·
       refine zn ?_
       have huu:u=n+1:=by omega
       subst huu
       (try simp only [zR,zT,reduceIte,zF]);refine hK7 _ ?_
       refine zL fun K hK=> ?_
       refine yJ false zQ zN xC ?_ rfl ?_
       ·kernel_rfl
       intro E hE
       all_goals refine yw 4 (by decide) fun K9 hK9=> ?_
       all_goals simp only [push_cast,↓zK,↓zJ,↓reduceIte,zA,zB,zC,zD,zE,zF,zG,zH,zI,reduceCtorEq]
       all_goals repeat'(first|(apply zO<;>(intro hg;(try simp only [push_cast]at hg)))|(refine⟨_,_,hB3,?_⟩;simp only [push_cast,↓zK,↓zJ,↓reduceIte,zA,zB,zC,zD,zE,zF,zG,zH,zI,reduceCtorEq])|apply And.intro|(intro hg;(try simp only [push_cast]at hg)))
       all_goals try exact gA
       all_goals first|(refine hK9 _ _ ?_;clear hK9 K9)|(simp only [push_cast];done)
       all_goals simp only [push_cast,↓zK,↓zJ,↓reduceIte,zA,zB,zC,zD,zE,zF,zG,zH,zI,reduceCtorEq]
       all_goals repeat'(first|(apply zO<;>(intro hg;(try simp only [push_cast]at hg)))|(refine⟨_,_,hB3,?_⟩;simp only [push_cast,↓zK,↓zJ,↓reduceIte,zA,zB,zC,zD,zE,zF,zG,zH,zI,reduceCtorEq])|apply And.intro|(intro hg;(try simp only [push_cast]at hg)))
       all_goals first|exact gA|(refine hE _ _ ?_ ?_;kernel_rfl)|skip
       all_goals clear hE E
       all_goals first|(refine hK _ ?_;clear hK K)|(simp only [push_cast];done)
       refine ze false zQ zN ?_ rfl ?_
       ·kernel_rfl
       simp only [push_cast,↓zK,↓zJ,↓reduceIte,zA,zB,zC,zD,zE,zF,zG,zH,zI,reduceCtorEq]
       all_goals repeat'(first|(apply zO<;>(intro hg;(try simp only [push_cast]at hg)))|apply And.intro|(intro hg;(try simp only [push_cast]at hg)))
       all_goals try exact gA
       (try simp only [zR,zT,reduceIte,zF]);refine hK3 _ ?_
       refine xz [.sl 2, .sl 27] 6 ?_
       simp only [push_cast,↓zK,↓zJ,↓reduceIte,zA,zB,zC,zD,zE,zF,zG,zH,zI,reduceCtorEq]
       refine zM zQ zN [] rfl ?_
       simp only [push_cast,↓zK,↓zJ,↓reduceIte,zA,zB,zC,zD,zE,zF,zG,zH,zI,reduceCtorEq]
       repeat' apply And.intro
       all_goals try exact gB
       refine hL0 _ ⟨v+1,by omega,by omega,?_⟩
       (try rw [List.take_of_length_le (l:=oA code seed j v) (by omega)])
       (try rw [List.take_of_length_le (l:=xA code seed (n+1) j v) (by omega)])
       refine zb rfl ?_ ?_ ?_<;>simp only [zi,zh,push_cast,↓zK,↓zJ,↓reduceIte,zA,zB,zC,zD,zE,zF,zG,zH,zI,reduceCtorEq]
       all_goals first|exact rfl|exact⟨rfl,rfl⟩|skip
  ·
   refine zn ?_
   have hvv:v=n+1:=by omega
   subst hvv
   (try simp only [zR,zT,reduceIte,zF]);refine hK1 _ ?_
   refine zL fun K hK=> ?_
   refine zM zQ zN [] rfl ?_
   simp only [push_cast,↓zK,↓zJ,↓reduceIte,zA,zB,zC,zD,zE,zF,zG,zH,zI,reduceCtorEq]
   repeat' apply And.intro
   all_goals try exact gB
   all_goals first|(refine hK _ ?_;clear hK K)|(simp only [push_cast];done)
   refine zZ ?_
   (try simp only [zR,zT])
   refine⟨Or.inl rfl,?_⟩
   simp only [VO,zf,vP,yF,ye,push_cast,↓zK,↓zJ,↓reduceIte,zA,zB,zC,zD,zE,zF,zG,zH,zI,reduceCtorEq]
   all_goals first|exact⟨hol.symm,hxl.symm⟩|skip
attribute [-push_cast] rm
theorem KQ {xs ys:List Int}{k:Nat}(h:k<xs.length):gi (xs++ys) k=gi xs k:=by
 unfold gi
 rw [List.getD_eq_getElem?_getD,List.getD_eq_getElem?_getD,List.getElem?_append_left h]
theorem zCU (xs:List Int)(y:Int):gi (xs++ [y]) xs.length=y:=by
 unfold gi
 rw [List.getD_eq_getElem?_getD,List.getElem?_append_right (Nat.le_refl _)]
 simp
theorem gl_dL {xs ys:List (List Int)}{k:Nat}(h:k<xs.length):gl (xs++ys) k=gl xs k:=by
 unfold gl
 rw [List.getD_eq_getElem?_getD,List.getD_eq_getElem?_getD,List.getElem?_append_left h]
theorem gl_dR (xs:List (List Int))(y:List Int):gl (xs++ [y]) xs.length=y:=by
 unfold gl
 rw [List.getD_eq_getElem?_getD,List.getElem?_append_right (Nat.le_refl _)]
 simp
theorem zBu (m:List Bool): ∀u k,k<(qN m u).length→(k=0∨gi (qN m u) (k - 1)<gi (qN m u) k)∧0≤gi (qN m u) k∧gi (qN m u) k<(u:Int)
 |0,k,h=>absurd h (Nat.not_lt_zero k)
 |u+1,k,h=>by
  have ih:=zBu m u
  by_cases hm:gb m u=true
  ·rw [Jl hm]at h⊢
   rw [List.length_append,List.length_singleton]at h
   rcases Nat.lt_or_ge k (qN m u).length with h1|h1
   ·obtain⟨a,b,c⟩:=ih k h1
    rw [KQ h1,KQ (by omega:k - 1<_)]
    exact⟨a,b,by omega⟩
   ·have e:k=(qN m u).length:=by omega
    subst e
    rw [zCU]
    refine⟨?_,by omega,by omega⟩
    rcases Nat.eq_zero_or_pos (qN m u).length with h2|h2
    ·exact .inl h2
    ·right
     rw [KQ (by omega)]
     exact(ih _ (by omega)).2.2
  ·rw [je hm]at h⊢
   obtain⟨a,b,c⟩:=ih k h
   exact⟨a,b,by omega⟩
theorem zFa (m:List Bool)(u:Nat):yN (qN m u) u=true:=
 xq fun k hk=>by
  obtain⟨a,b,c⟩:=zBu m u k hk
  unfold qF
  exact decide_eq_true ⟨b,c,a⟩
theorem zAC {m:List Bool}{x:Nat}(h:gb m x=true): ∀u,x<u→1≤(qN m u).length
 |0,h'=>absurd h' (Nat.not_lt_zero x)
 |u+1,h'=>by
  by_cases hm:gb m u=true
  ·rw [Jl hm,List.length_append,List.length_singleton];omega
  ·rw [je hm]
   refine zAC h u ?_
   rcases Nat.lt_or_ge x u with h2|h2
   ·exact h2
   ·exact absurd (by rw [show u=x by omega];exact h) hm
theorem zFH {code:List Int}(hby:xJ code)(seed:Int){N:Nat}(hN:1≤N)(c t:Nat): ∃x,x<N∧gb (mks code seed N c (t+1)) x=true:=by
 have h:=wQ hby seed (c+t) (n:=(N:Int)) (by omega)
 refine⟨(dv code seed (c+t) N).toNat,by omega,?_⟩
 show gb (List.set _ _ true) _=true
 unfold gb
 rw [List.getD_eq_getElem?_getD,List.getElem?_set_self (by rw [jY];omega)]
 rfl
theorem zF2 {code:List Int}(hby:xJ code)(seed:Int)(j:Nat): ∀v k,k<v→0≤gi (oA code seed j v) k∧gi (oA code seed j v) k≤1
 |0,k,h=>absurd h (Nat.not_lt_zero k)
 |v+1,k,h=>by
  show 0≤gi (oA code seed j v++ [_]) k∧gi (oA code seed j v++ [_]) k≤1
  have hl:=Kf code seed j v
  rcases Nat.lt_or_ge k v with h1|h1
  ·rw [KQ (by omega)];exact zF2 hby seed j v k h1
  ·rw [show k=(oA code seed j v).length by omega,zCU]
   have :=wQ hby seed (cA code seed j v+1+(rK code seed (cA code seed j v)+1)) (n:=2) (by omega)
   omega
theorem zGC {code:List Int}(hby:xJ code)(seed:Int){N:Nat}(hN:1≤N)(j:Nat): ∀v k,k<v→∃m x,x<N∧gb m x=true∧gl (xA code seed N j v) k=qN m N
 |0,k,h=>absurd h (Nat.not_lt_zero k)
 |v+1,k,h=>by
  show∃m x,x<N∧gb m x=true∧gl (xA code seed N j v++ [_]) k=qN m N
  have hl:=Ky code seed N j v
  rcases Nat.lt_or_ge k v with h1|h1
  ·obtain⟨m,x,a,b,c⟩:=zGC hby seed hN j v k h1
   exact⟨m,x,a,b,by rw [gl_dL (by omega)];exact c⟩
  ·obtain⟨x,a,b⟩:=zFH hby seed hN (cA code seed j v+1) (rK code seed (cA code seed j v))
   exact⟨_,x,a,b,by rw [show k=(xA code seed N j v).length by omega,gl_dR]⟩
theorem zDL {code:List Int}(hby:xJ code)(seed:Int)(j:Nat){most:Int}(hm:1≤most∧most≤16):1≤arN code seed j most∧(arN code seed j most:Int)≤most:=by
 have :=wQ hby seed j hm.1
 unfold arN
 omega
theorem zBP {code:List Int}{seed:Int}{j:Nat}{most:Int}:(arA code seed j most).owner.length=arN code seed j most∧(arA code seed j most).next.length=arN code seed j most:=⟨Kf _ _ _ _,Ky _ _ _ _ _⟩
theorem zHU {code:List Int}(hby:xJ code)(seed:Int)(j:Nat){most:Int}(hm:1≤most∧most≤16):zv (arA code seed j most)=true:=by
 have hN:=zDL hby seed j hm
 obtain⟨h1,h2⟩:=zBP (code:=code) (seed:=seed) (j:=j) (most:=most)
 refine ZT ⟨by omega,by omega,by omega⟩ fun v hv=> ?_
 rw [h1]at hv
 unfold qi Yy
 rw [h1]
 have ho:0≤gi (arA code seed j most).owner v∧gi (arA code seed j most).owner v≤1:=zF2 hby seed j _ v hv
 obtain⟨m,x,ha,hb,hc⟩:=zGC hby seed hN.1 j (arN code seed j most) v hv
 rw [show gl (arA code seed j most).next v=qN m (arN code seed j most)from hc,decide_eq_true,Bool.true_and]
 ·exact zFa _ _
 ·have :=zAC hb _ ha
  have :=Jk m (arN code seed j most)
  exact⟨ho.1,ho.2,by omega,by omega⟩
attribute [-push_cast] rm
theorem nI_0 (code:List Int):nI code 0=0:=by with_unfolding_all rfl
theorem nH_0 (code:List Int)(seed:Int):nH code seed 0=rH code seed code.length:=by with_unfolding_all rfl
theorem zFZ (code:List Int)(hby:xJ code)(seed:Int)(hs:0≤seed∧seed≤1000):FnP Try.prog tyT 6 [.c (.lst 5 (dU code)), .c (.int .u64 seed)] [.int .i64 (nI code 0), .int .u64 (nH code seed 0)]:=by
 rw [nI_0,nH_0]
 exact zG7 code hby seed hs
set_option maxRecDepth 20000 in
set_option maxHeartbeats 4000000 in
theorem zHY (code:List Int)(hl:code.length≤9223372036854775807):Fn Try.prog tyT 5 [.c (.lst 5 (dU code))] [.c (.bool (decide (4096<code.length)))]:=by
 refine yG (fn:=Try.f5) (ts:= [2]) Try.func5 (by kernel_rfl) rfl rfl (by rw [Try.ntmps5];exact Nat.le_of_ble_eq_true rfl) rfl (by simp only [szA,List.mem_cons,List.not_mem_nil,or_false,forall_eq_or_imp,forall_eq,VT.cells,szL];try decide) ?_
 rw [Try.ntmps5]
 simp only [push_cast,↓zK,↓zJ,↓reduceIte,zA,zB,zC,zD,zE,zF,zG,zH,zI,reduceCtorEq]
 refine zL fun K hK=> ?_
 refine zM zQ zN [] rfl ?_
 simp only [push_cast,↓zK,↓zJ,↓reduceIte,zA,zB,zC,zD,zE,zF,zG,zH,zI,reduceCtorEq]
 repeat' apply And.intro
 all_goals try exact gB
 all_goals first|(refine hK _ ?_;clear hK K)|(simp only [push_cast];done)
 refine zL fun K hK=> ?_
 refine zM zQ zN [] rfl ?_
 simp only [push_cast,↓zK,↓zJ,↓reduceIte,zA,zB,zC,zD,zE,zF,zG,zH,zI,reduceCtorEq]
 repeat' apply And.intro
 all_goals try exact gB
 all_goals first|(refine hK _ ?_;clear hK K)|(simp only [push_cast];done)
 refine zZ ?_
 (try simp only [zR,zT])
 refine⟨Or.inl rfl,?_⟩
 simp only [zf,push_cast,↓zK,↓zJ,↓reduceIte,zA,zB,zC,zD,zE,zF,zG,zH,zI,reduceCtorEq]
 first|exact decide_eq_decide.2 (by omega)|skip
def wB (a:Ar)(who:Int)(plan:List Int)(v:Nat):Bool:=decide (gi plan v= -1)||(decide (gi a.owner v=who)&&zt (gl a.next v) (gi plan v))
def vA (a:Ar)(who:Int)(plan:List Int):Bool:=decide (plan.length=a.owner.length)&&wU plan.length (wB a who plan)
theorem Kn {a:Ar}{who:Int}{plan:List Int}{v:Nat}(h:gi plan v= -1∨(gi a.owner v=who∧zt (gl a.next v) (gi plan v)=true)):wB a who plan v=true:=by
 unfold wB
 rw [Bool.or_eq_true,Bool.and_eq_true,decide_eq_true_eq,decide_eq_true_eq]
 exact h
theorem zCm {a:Ar}{who:Int}{plan:List Int}{v:Nat}(h: ¬gi plan v= -1)(h2: ¬gi a.owner v=who∨zt (gl a.next v) (gi plan v)=false):wB a who plan v=false:=by
 unfold wB
 rw [decide_eq_false h,Bool.false_or,Bool.and_eq_false_iff,decide_eq_false_iff_not]
 exact h2
theorem zEA {a:Ar}{who:Int}{plan:List Int}(h: ¬plan.length=a.owner.length):vA a who plan=false:=by unfold vA;rw [decide_eq_false h];rfl
theorem zFP {a:Ar}{who:Int}{plan:List Int}{v:Nat}(hv:v<plan.length)(h:wB a who plan v=false):vA a who plan=false:=by unfold vA;rw [vH hv h,Bool.and_false]
theorem kY {a:Ar}{who:Int}{plan:List Int}(h:plan.length=a.owner.length)(h2: ∀v,v<plan.length→wB a who plan v=true):vA a who plan=true:=by unfold vA;rw [decide_eq_true h,xq h2];rfl
theorem Ye {a:Ar}{who:Int}{plan:List Int}(h:vA a who plan=true):plan.length=a.owner.length∧∀v,v<plan.length→gi plan v= -1∨(gi a.owner v=who∧zt (gl a.next v) (gi plan v)=true):=by
 unfold vA at h
 rw [Bool.and_eq_true,decide_eq_true_eq]at h
 refine⟨h.1,fun v hv=> ?_⟩
 have :=qI h.2 hv
 unfold wB at this
 rw [Bool.or_eq_true,Bool.and_eq_true,decide_eq_true_eq,decide_eq_true_eq]at this
 exact this
set_option maxRecDepth 20000 in
set_option maxHeartbeats 4000000 in
theorem zDt (a:Ar)(ha:a.Ln 1048576)(hnl:a.next.length=a.owner.length)(who:Int)(plan:List Int)(hp:plan.length≤1048576):Fn Try.prog tyT 93 [.agg (dAr a), .c (.int .i64 who), .c (DI plan)] [.c (.bool (vA a who plan))]:=by
 have hr: ∀v,(gl a.next v).length≤1048576:=fun v=>YB ha.next v
 have hno:=ha.owner
 unfold LnI at hno
 unfold dAr
 refine yG (fn:=Try.f93) (ts:= [6]) Try.func93 (by kernel_rfl) rfl rfl (by rw [Try.ntmps93];exact Nat.le_of_ble_eq_true rfl) rfl (by simp only [szA,List.mem_cons,List.not_mem_nil,or_false,forall_eq_or_imp,forall_eq,VT.cells,szL];try decide) ?_
 rw [Try.ntmps93]
 simp only [push_cast,↓zK,↓zJ,↓reduceIte,zA,zB,zC,zD,zE,zF,zG,zH,zI,reduceCtorEq]
 refine zL fun K hK=> ?_
 refine zM zQ zN [] rfl ?_
 all_goals simp only [push_cast,↓zK,↓zJ,↓reduceIte,zA,zB,zC,zD,zE,zF,zG,zH,zI,reduceCtorEq]
 all_goals repeat'(first|(apply zO<;>(intro hg;(try simp only [push_cast]at hg)))|(refine⟨_,yP (gl a.next k) _ (hr k),?_⟩;simp only [push_cast,↓zK,↓zJ,↓reduceIte,zA,zB,zC,zD,zE,zF,zG,zH,zI,reduceCtorEq])|apply And.intro|(intro hg;(try simp only [push_cast]at hg)))
 all_goals first|exact gA|(exact zP (by omega))|skip
 all_goals first|(refine hK _ ?_;clear hK K)|(simp only [push_cast];done)
 refine zL fun K1 hK1=> ?_
 refine zL fun K hK=> ?_
 refine zM zQ zN [] rfl ?_
 all_goals simp only [push_cast,↓zK,↓zJ,↓reduceIte,zA,zB,zC,zD,zE,zF,zG,zH,zI,reduceCtorEq]
 all_goals repeat'(first|(apply zO<;>(intro hg;(try simp only [push_cast]at hg)))|(refine⟨_,yP (gl a.next k) _ (hr k),?_⟩;simp only [push_cast,↓zK,↓zJ,↓reduceIte,zA,zB,zC,zD,zE,zF,zG,zH,zI,reduceCtorEq])|apply And.intro|(intro hg;(try simp only [push_cast]at hg)))
 all_goals first|exact gA|(exact zP (by omega))|skip
 all_goals first|(refine hK _ ?_;clear hK K)|(simp only [push_cast];done)
 refine zV rfl (fun hc=> ?_) (fun hc=> ?_)<;>(try simp only [push_cast]at hc)
 ·
  refine zL fun K hK=> ?_
  refine zM zQ zN [] rfl ?_
  all_goals simp only [push_cast,↓zK,↓zJ,↓reduceIte,zA,zB,zC,zD,zE,zF,zG,zH,zI,reduceCtorEq]
  all_goals repeat'(first|(apply zO<;>(intro hg;(try simp only [push_cast]at hg)))|(refine⟨_,yP (gl a.next k) _ (hr k),?_⟩;simp only [push_cast,↓zK,↓zJ,↓reduceIte,zA,zB,zC,zD,zE,zF,zG,zH,zI,reduceCtorEq])|apply And.intro|(intro hg;(try simp only [push_cast]at hg)))
  all_goals first|exact gA|(exact zP (by omega))|skip
  all_goals first|(refine hK _ ?_;clear hK K)|(simp only [push_cast];done)
  refine zZ ?_
  (try simp only [zR,zT])
  refine⟨Or.inl rfl,?_⟩
  simp only [zf,push_cast,↓zK,↓zJ,↓reduceIte,zA,zB,zC,zD,zE,zF,zG,zH,zI,reduceCtorEq]
  symm
  exact zEA (by omega)
 ·
  refine zX ?_
  (try simp only [zR,zT,reduceIte,zF]);refine hK1 _ ?_
  refine zL fun K2 hK2=> ?_
  refine zL fun K hK=> ?_
  refine zM zQ zN [] rfl ?_
  all_goals simp only [push_cast,↓zK,↓zJ,↓reduceIte,zA,zB,zC,zD,zE,zF,zG,zH,zI,reduceCtorEq]
  all_goals repeat'(first|(apply zO<;>(intro hg;(try simp only [push_cast]at hg)))|(refine⟨_,yP (gl a.next k) _ (hr k),?_⟩;simp only [push_cast,↓zK,↓zJ,↓reduceIte,zA,zB,zC,zD,zE,zF,zG,zH,zI,reduceCtorEq])|apply And.intro|(intro hg;(try simp only [push_cast]at hg)))
  all_goals first|exact gA|(exact zP (by omega))|skip
  all_goals first|(refine hK _ ?_;clear hK K)|(simp only [push_cast];done)
  refine zW ?_
  refine zk [6,7,14,15,16,17,18,19,20,21,22,23,24,25,26,27,28,29,30,31,32,33,34,35,36,37,38,39,40,41,42,43,44,45,46] [] (fun(k:Nat)=> [(7, .int .i64 k)]) (fun k=> []) (fun k=> []) (fun k=>k≤plan.length∧∀j,j<k→wB a who plan j=true) (fun k=>plan.length - k) 0 ?_ ⟨by omega,fun j hj=>by omega⟩ ?_
  ·
   refine zb rfl ?_ ?_ ?_<;>simp only [zi,zh,push_cast,↓zK,↓zJ,↓reduceIte,zA,zB,zC,zD,zE,zF,zG,zH,zI,reduceCtorEq]
  ·rintro k ⟨hk,hall⟩ KL0 hL0
   have hrk:=hr k
   simp only [push_cast,↓zK,↓zJ,↓reduceIte,zA,zB,zC,zD,zE,zF,zG,zH,zI,reduceCtorEq]
   refine zL fun K3 hK3=> ?_
   refine zL fun K hK=> ?_
   refine zM zQ zN [] rfl ?_
   all_goals simp only [push_cast,↓zK,↓zJ,↓reduceIte,zA,zB,zC,zD,zE,zF,zG,zH,zI,reduceCtorEq]
   all_goals repeat'(first|(apply zO<;>(intro hg;(try simp only [push_cast]at hg)))|(refine⟨_,yP (gl a.next k) _ (hr k),?_⟩;simp only [push_cast,↓zK,↓zJ,↓reduceIte,zA,zB,zC,zD,zE,zF,zG,zH,zI,reduceCtorEq])|apply And.intro|(intro hg;(try simp only [push_cast]at hg)))
   all_goals first|exact gA|(exact zP (by omega))|skip
   all_goals first|(refine hK _ ?_;clear hK K)|(simp only [push_cast];done)
   refine zV rfl (fun hc=> ?_) (fun hc=> ?_)<;>(try simp only [push_cast]at hc)
   ·
    refine zX ?_
    (try simp only [zR,zT,reduceIte,zF]);refine hK3 _ ?_
    refine zL fun K4 hK4=> ?_
    refine zW ?_
    refine zL fun K hK=> ?_
    refine yJ false zQ zN xC ?_ rfl ?_
    ·kernel_rfl
    intro E hE
    all_goals refine yw 24 (by decide) fun K9 hK9=> ?_
    all_goals simp only [push_cast,↓zK,↓zJ,↓reduceIte,zA,zB,zC,zD,zE,zF,zG,zH,zI,reduceCtorEq]
    all_goals repeat'(first|(apply zO<;>(intro hg;(try simp only [push_cast]at hg)))|(refine⟨_,yP (gl a.next k) _ (hr k),?_⟩;simp only [push_cast,↓zK,↓zJ,↓reduceIte,zA,zB,zC,zD,zE,zF,zG,zH,zI,reduceCtorEq])|apply And.intro|(intro hg;(try simp only [push_cast]at hg)))
    all_goals first|exact gA|(exact zP (by omega))|skip
    all_goals first|(refine hK9 _ _ ?_;clear hK9 K9)|(simp only [push_cast];done)
    all_goals simp only [push_cast,↓zK,↓zJ,↓reduceIte,zA,zB,zC,zD,zE,zF,zG,zH,zI,reduceCtorEq]
    all_goals repeat'(first|(apply zO<;>(intro hg;(try simp only [push_cast]at hg)))|(refine⟨_,yP (gl a.next k) _ (hr k),?_⟩;simp only [push_cast,↓zK,↓zJ,↓reduceIte,zA,zB,zC,zD,zE,zF,zG,zH,zI,reduceCtorEq])|apply And.intro|(intro hg;(try simp only [push_cast]at hg)))
    all_goals first|exact gA|(refine hE _ _ ?_ ?_;kernel_rfl)|(exact zP (by omega))|skip
    all_goals clear hE E
    all_goals first|(refine hK _ ?_;clear hK K)|(simp only [push_cast];done)
    all_goals refine zV rfl (fun hc=> ?_) (fun hc=> ?_)
    all_goals(first|(cases hc;done)|skip)
    all_goals(try simp only [push_cast]at hc)
    all_goals first
     |(
       refine zX ?_
       (try simp only [zR,zT,reduceIte,zF]);refine hK4 _ ?_
       refine zM zQ zN [] rfl ?_
       all_goals simp only [push_cast,↓zK,↓zJ,↓reduceIte,zA,zB,zC,zD,zE,zF,zG,zH,zI,reduceCtorEq]
       all_goals repeat'(first|(apply zO<;>(intro hg;(try simp only [push_cast]at hg)))|(refine⟨_,yP (gl a.next k) _ (hr k),?_⟩;simp only [push_cast,↓zK,↓zJ,↓reduceIte,zA,zB,zC,zD,zE,zF,zG,zH,zI,reduceCtorEq])|apply And.intro|(intro hg;(try simp only [push_cast]at hg)))
       all_goals first|exact gA|(exact zP (by omega))|skip
       refine hL0 _ ⟨k+1,⟨by omega,fun j hj=>(by
         by_cases hjk:j=k
         ·subst hjk;exact Kn (by first|exact Or.inl (by omega)|exact Or.inr ⟨by omega,by with_reducible assumption⟩)
         ·exact hall j (by omega))⟩,by omega,?_⟩
       refine zb rfl ?_ ?_ ?_<;>simp only [zi,zh,push_cast,↓zK,↓zJ,↓reduceIte,zA,zB,zC,zD,zE,zF,zG,zH,zI,reduceCtorEq]
       done)
     |(
       refine zL fun K hK=> ?_
       refine zM zQ zN [] rfl ?_
       all_goals simp only [push_cast,↓zK,↓zJ,↓reduceIte,zA,zB,zC,zD,zE,zF,zG,zH,zI,reduceCtorEq]
       all_goals repeat'(first|(apply zO<;>(intro hg;(try simp only [push_cast]at hg)))|(refine⟨_,yP (gl a.next k) _ (hr k),?_⟩;simp only [push_cast,↓zK,↓zJ,↓reduceIte,zA,zB,zC,zD,zE,zF,zG,zH,zI,reduceCtorEq])|apply And.intro|(intro hg;(try simp only [push_cast]at hg)))
       all_goals first|exact gA|(exact zP (by omega))|skip
       all_goals first|(refine hK _ ?_;clear hK K)|(simp only [push_cast];done)
       refine zZ ?_
       (try simp only [zR,zT])
       refine⟨Or.inl rfl,?_⟩
       simp only [zf,push_cast,↓zK,↓zJ,↓reduceIte,zA,zB,zC,zD,zE,zF,zG,zH,zI,reduceCtorEq]
       symm
       exact zFP (v:=k) (by omega) (zCm (by omega) (by first|exact Or.inl (by omega)|exact Or.inr (by with_reducible assumption)))
       done)
   ·
    refine zn ?_
    (try simp only [zR,zT,reduceIte,zF]);refine hK2 _ ?_
    refine zL fun K hK=> ?_
    refine zM zQ zN [] rfl ?_
    all_goals simp only [push_cast,↓zK,↓zJ,↓reduceIte,zA,zB,zC,zD,zE,zF,zG,zH,zI,reduceCtorEq]
    all_goals repeat'(first|(apply zO<;>(intro hg;(try simp only [push_cast]at hg)))|(refine⟨_,yP (gl a.next k) _ (hr k),?_⟩;simp only [push_cast,↓zK,↓zJ,↓reduceIte,zA,zB,zC,zD,zE,zF,zG,zH,zI,reduceCtorEq])|apply And.intro|(intro hg;(try simp only [push_cast]at hg)))
    all_goals first|exact gA|(exact zP (by omega))|skip
    all_goals first|(refine hK _ ?_;clear hK K)|(simp only [push_cast];done)
    refine zZ ?_
    (try simp only [zR,zT])
    refine⟨Or.inl rfl,?_⟩
    simp only [zf,push_cast,↓zK,↓zJ,↓reduceIte,zA,zB,zC,zD,zE,zF,zG,zH,zI,reduceCtorEq]
    symm
    exact kY (by omega) fun v hv=>hall v (by omega)
end Go.Proofs.Ytipplkjdmdlhpaa
