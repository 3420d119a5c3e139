/- BreaksFrom: from where one comes to a broken pair (walks) -/
import Derived.Test.YtggpbepdeilpgaaB17zmt
import Derived.Test.YtggpbepdeilpgaaB11zmt
import Derived.Test.YtggpbepdeilpgaaGWzmt
import Derived.Test.YtggpbepdeilpgaaB9zmt
import Derived.Test.YtggpbepdeilpgaaB7zmt
import Derived.Test.YtggpbepdeilpgaaB8zmt
import Derived.Test.YtggpbepdeilpgaaB16zmt
import Derived.Test.YtggpbepdeilpgaaB14zmt
namespace Go.Proofs.Ytggpbepdeilpgaa
open Nat renaming reduceMod → zA, reduceMul → zB, reduceDiv → zC, reduceAdd → zD, reduceSub → zE, reduceEqDiff → zF, reduceBEq → zG, reduceLT → zH, reduceLeDiff → zI
open Go.RowKit
set_option linter.unusedVariables false
set_option linter.unusedSimpArgs false
def edR (E:List (List Int))(x y:Nat):Prop:=(y:Int)∈gl E x
noncomputable def we (E:List (List Int))(goal:List Bool)(n:Nat):List Bool:=xG n fun x=> @decide (∃y,Rcx (edR E) x y∧gb goal y=true) (Classical.propDecidable _)
theorem jy {E:List (List Int)}{goal:List Bool}{n x:Nat}(h:x<n):gb (we E goal n) x=true↔∃y,Rcx (edR E) x y∧gb goal y=true:=by
 unfold we xG
 rw [YR h, @decide_eq_true_eq _ (Classical.propDecidable _)]
theorem VG (E:List (List Int))(goal:List Bool)(n:Nat):(we E goal n).length=n:=by simp [we,xG]
structure BfI (E:List (List Int))(goal:List Bool)(n:Nat)(out:List Bool):Prop where
 len:out.length=n
 up: ∀x,gb goal x=true→gb out x=true
 sd: ∀x,gb out x=true→∃y,Rcx (edR E) x y∧gb goal y=true
def ClB (E:List (List Int))(out:List Bool)(v k:Nat):Prop:=(∀x,x<v→∀j,j<(gl E x).length→gb out (gi (gl E x) j).toNat=true→gb out x=true)∧∀j,j<k→gb out (gi (gl E v) j).toNat=true→gb out v=true
section
variable {E:List (List Int)} {goal out:List Bool} {n v k:Nat}
theorem BfI.start (h:goal.length=n):BfI E goal n goal:=⟨h,fun x hx=>hx,fun x hx=>⟨x, .refl x,hx⟩⟩
theorem BfI.set (h:BfI E goal n out)(hv:v<n)(hk:k<(gl E v).length)(h0:0≤gi (gl E v) k)(hu:gb out (gi (gl E v) k).toNat=true):BfI E goal n (out.set v true):=by
 refine⟨by rw [List.length_set];exact h.len,fun x hx=> ?_,fun x hx=> ?_⟩
 ·rw [xI (by rw [h.len];exact hv)]
  split
  ·rfl
  ·exact h.up x hx
 ·rw [xI (by rw [h.len];exact hv)]at hx
  split at hx
  ·rename_i e
   subst e
   obtain⟨y,h1,h2⟩:=h.sd _ hu
   refine⟨y, .step ?_ h1,h2⟩
   unfold edR
   rw [Int.toNat_of_nonneg h0]
   exact List.mem_of_getElem? (Za hk)
  ·exact h.sd x hx
theorem ClB.start :ClB E out 0 0:=⟨fun x hx=>by omega,fun j hj=>by omega⟩
theorem ClB.step (h:ClB E out v k)(hu:gb out (gi (gl E v) k).toNat=false):ClB E out v (k+1):=⟨h.1,fun j hj hb=>by
 by_cases e:j=k
 ·subst e;rw [hb]at hu;cases hu
 ·exact h.2 j (by omega) hb⟩
theorem ClB.next (h:ClB E out v k)(hq: ¬(k<(gl E v).length∧gb out v=false)):ClB E out (v+1) 0:=by
 refine⟨fun x hx j hj hb=> ?_,fun j hj=>by omega⟩
 by_cases e:x=v
 ·subst e
  cases hv:gb out x with
  |true=>rfl
  |false=>
   have hk:(gl E x).length≤k:=by
    rcases Nat.lt_or_ge k (gl E x).length with h1|h1
    ·exact absurd ⟨h1,hv⟩ hq
    ·exact h1
   have :=h.2 j (by omega) hb
   rw [hv]at this
   exact this
 ·exact h.1 x (by omega) j hj hb
theorem BfI.fin (h:BfI E goal n out)(hc:ClB E out n 0)(hr: ∀x,x<n→∀j,j<(gl E x).length→0≤gi (gl E x) j∧gi (gl E x) j<n):out=we E goal n:=by
 refine JG (by rw [h.len,VG]) fun x hx=> ?_
 rw [h.len]at hx
 have key: ∀{x y:Nat},Rcx (edR E) x y→x<n→gb goal y=true→gb out x=true:=fun{x y} hr9=>by
  induction hr9 with
  |refl x=>exact fun _ hg=>h.up x hg
  | @step x z y h1 _ ih=>
   intro hx hg
   obtain⟨j,hj,e⟩:=List.getElem_of_mem h1
   have e2:gi (gl E x) j=(z:Int):=by
    unfold gi
    rw [List.getD_eq_getElem?_getD,List.getElem?_eq_getElem hj]
    exact e
   have hz:=hr x hx j hj
   rw [e2]at hz
   refine hc.1 x hx j hj ?_
   rw [e2,Int.toNat_natCast]
   exact ih (by omega) hg
 rw [Bool.eq_iff_iff,jy hx]
 exact⟨fun hb=>h.sd x hb,fun⟨y,h1,h2⟩=>key h1 hx h2⟩
end
set_option maxRecDepth 20000 in
set_option maxHeartbeats 4000000 in
theorem zDz (l:List Bool)(hl:l.length≤1048576):Fn Try.prog tyT 58 [.c (.lst 4 (dB l))] [.c (DI (xL l l.length))]:=by
 refine yK (fn:=Try.f58) (ts:= [2]) Try.func58 (by kernel_rfl) rfl rfl (by rw [Try.ntmps58];exact Nat.le_of_ble_eq_true rfl) rfl (by simp only [szA,List.mem_cons,List.not_mem_nil,or_false,forall_eq_or_imp,forall_eq,VT.cells,szL];try decide) ?_
 rw [Try.ntmps58]
 simp only [push_cast,↓zK,↓zJ,↓reduceIte,zA,zB,zC,zD,zE,zF,zG,zH,zI,reduceCtorEq]
 refine zL fun K hK=> ?_
 refine zM zQ zO [] rfl ?_
 simp only [push_cast,↓zK,↓zJ,↓reduceIte,zA,zB,zC,zD,zE,zF,zG,zH,zI,reduceCtorEq]
 repeat' apply And.intro
 all_goals try exact gB
 all_goals first|(refine hK _ ?_;clear hK K)|(simp only [push_cast];done)
 refine zL fun K hK=> ?_
 refine zM zQ zO [] rfl ?_
 simp only [push_cast,↓zK,↓zJ,↓reduceIte,zA,zB,zC,zD,zE,zF,zG,zH,zI,reduceCtorEq]
 repeat' apply And.intro
 all_goals try exact gB
 all_goals first|(refine hK _ ?_;clear hK K)|(simp only [push_cast];done)
 refine zL fun K1 hK1=> ?_
 refine zL fun K hK=> ?_
 refine zM zQ zO [] rfl ?_
 simp only [push_cast,↓zK,↓zJ,↓reduceIte,zA,zB,zC,zD,zE,zF,zG,zH,zI,reduceCtorEq]
 repeat' apply And.intro
 all_goals try exact gB
 all_goals first|(refine hK _ ?_;clear hK K)|(simp only [push_cast];done)
 refine zT ?_
 refine zh [3,4,6,7,8,9,10,11,12,13,14,15,16,17,18,19] [48] (fun(k:Nat)=> [(4, .int .i64 k),(3, .sl 48 [] 0 (xL l k).length 2)]) (fun k=> []) (fun k=> [(48,⟨.ex,2,dI (xL l k),none⟩)]) (fun k=>k≤l.length) (fun k=>l.length - k) 0 ?_ (by omega) ?_
 ·
  rw [show xL l 0= []from rfl,show dI ([]:List Int)= []from rfl]
  refine zX rfl ?_ ?_ ?_<;>simp only [zg,zf,push_cast,↓zK,↓zJ,↓reduceIte,zA,zB,zC,zD,zE,zF,zG,zH,zI,reduceCtorEq]
 ·rintro k hk KL0 hL0
  have hil:=XD l k
  simp only [push_cast,↓zK,↓zJ,↓reduceIte,zA,zB,zC,zD,zE,zF,zG,zH,zI,reduceCtorEq]
  refine zL fun K2 hK2=> ?_
  refine zL fun K hK=> ?_
  refine zM zQ zO [] rfl ?_
  simp only [push_cast,↓zK,↓zJ,↓reduceIte,zA,zB,zC,zD,zE,zF,zG,zH,zI,reduceCtorEq]
  repeat' apply And.intro
  all_goals try exact gB
  all_goals first|(refine hK _ ?_;clear hK K)|(simp only [push_cast];done)
  refine zU rfl (fun hc=> ?_) (fun hc=> ?_)<;>(try simp only [push_cast]at hc)
  ·
   refine zV ?_
   (try simp only [zR,zS,reduceIte,zF]);refine hK2 _ ?_
   refine zL fun K3 hK3=> ?_
   refine zT ?_
   refine zL fun K hK=> ?_
   refine zM zQ zO [] rfl ?_
   simp only [push_cast,↓zK,↓zJ,↓reduceIte,zA,zB,zC,zD,zE,zF,zG,zH,zI,reduceCtorEq]
   repeat' apply And.intro
   all_goals try exact gB
   all_goals first|(refine hK _ ?_;clear hK K)|(simp only [push_cast];done)
   refine zU rfl (fun hc=> ?_) (fun hc=> ?_)<;>(try simp only [push_cast]at hc)
   ·
    refine zM zQ zO [] rfl ?_
    simp only [push_cast,↓zK,↓zJ,↓reduceIte,zA,zB,zC,zD,zE,zF,zG,zH,zI,reduceCtorEq]
    repeat' apply And.intro
    all_goals try exact gB
    (try simp only [zR,zS,reduceIte,zF]);refine hK3 _ ?_
    refine zM zQ zO [] rfl ?_
    simp only [push_cast,↓zK,↓zJ,↓reduceIte,zA,zB,zC,zD,zE,zF,zG,zH,zI,reduceCtorEq]
    repeat' apply And.intro
    all_goals try exact gB
    refine hL0 _ ⟨k+1,by omega,by omega,?_⟩
    (try rw [List.take_of_length_le (l:=xL l k) (by omega)])
    rw [Zt (by with_reducible assumption)]
    simp only [List.length_append,List.length_cons,List.length_nil,Nat.zero_add]
    refine zX rfl ?_ ?_ ?_<;>simp only [zg,zf,push_cast,↓zK,↓zJ,↓reduceIte,zA,zB,zC,zD,zE,zF,zG,zH,zI,reduceCtorEq]
   ·
    refine zV ?_
    (try simp only [zR,zS,reduceIte,zF]);refine hK3 _ ?_
    refine zM zQ zO [] rfl ?_
    simp only [push_cast,↓zK,↓zJ,↓reduceIte,zA,zB,zC,zD,zE,zF,zG,zH,zI,reduceCtorEq]
    repeat' apply And.intro
    all_goals try exact gB
    refine hL0 _ ⟨k+1,by omega,by omega,?_⟩
    rw [Zs (by with_reducible assumption)]
    refine zX rfl ?_ ?_ ?_<;>simp only [zg,zf,push_cast,↓zK,↓zJ,↓reduceIte,zA,zB,zC,zD,zE,zF,zG,zH,zI,reduceCtorEq]
  ·
   refine zm ?_
   have hkk:k=l.length:=by omega
   subst hkk
   (try simp only [zR,zS,reduceIte,zF]);refine hK1 _ ?_
   refine zL fun K hK=> ?_
   refine zM zQ zO [] rfl ?_
   simp only [push_cast,↓zK,↓zJ,↓reduceIte,zA,zB,zC,zD,zE,zF,zG,zH,zI,reduceCtorEq]
   repeat' apply And.intro
   all_goals try exact gB
   all_goals first|(refine hK _ ?_;clear hK K)|(simp only [push_cast];done)
   refine zc ?_
   (try simp only [zR,zS])
   refine⟨Or.inl rfl,?_⟩
   simp only [zi,push_cast,↓zK,↓zJ,↓reduceIte,zA,zB,zC,zD,zE,zF,zG,zH,zI,reduceCtorEq]
   all_goals first|rfl|exact⟨rfl,rfl⟩|skip
set_option maxRecDepth 20000 in
set_option maxHeartbeats 8000000 in
theorem zAr (a:Ar)(ha:zu a=true)(goal:List Bool)(hg9:goal.length=a.owner.length):Fn Try.prog tyT 59 [.agg (dAr a), .c (.lst 4 (dB goal))] [.c (.lst 4 (dB (we a.next goal a.owner.length)))]:=by
 have hal:=zl ha
 have hE9: ∀x,x<a.owner.length→∀j,j<(gl a.next x).length→0≤gi (gl a.next x) j∧gi (gl a.next x) j<(a.owner.length:Nat):=fun x hx j hj=>KW (xO ha (v:=x) hx).2.2.2.2 (j:=j) hj
 have hEd:=fun x (hx:x<a.owner.length)=>(xO ha (v:=x) hx).2.2.2.1
 have hfin:=fun out h hc=>BfI.fin (E:=a.next) (goal:=goal) (n:=a.owner.length) (out:=out) h hc hE9
 have hbl:=VG a.next goal a.owner.length
 have hst:=BfI.start (E:=a.next) hg9
 generalize we a.next goal a.owner.length=RR at hfin hbl⊢
 unfold dAr
 obtain⟨n,hn⟩: ∃n,a.owner.length=n:=⟨_,rfl⟩
 rw [hn]at hg9 hal hE9 hEd hfin hbl hst
 (try rw [hn])
 refine yK (fn:=Try.f59) (ts:= [4]) Try.func59 (by kernel_rfl) rfl rfl (by rw [Try.ntmps59];exact Nat.le_of_ble_eq_true rfl) rfl (by simp only [szA,List.mem_cons,List.not_mem_nil,or_false,forall_eq_or_imp,forall_eq,VT.cells,szL];try decide) ?_
 rw [Try.ntmps59]
 simp only [push_cast,↓zK,↓zJ,↓reduceIte,zA,zB,zC,zD,zE,zF,zG,zH,zI,reduceCtorEq]
 refine zL fun K hK=> ?_
 refine zM zQ zO [] rfl ?_
 all_goals simp only [push_cast,↓zK,↓zJ,↓reduceIte,zA,zB,zC,zD,zE,zF,zG,zH,zI,reduceCtorEq]
 all_goals repeat'(first|(apply zP<;>(intro hg;(try simp only [push_cast]at hg)))|apply And.intro|(intro hg;(try simp only [push_cast]at hg)))
 all_goals first|exact gA|(exact zN (by omega))|skip
 all_goals first|(refine hK _ ?_;clear hK K)|(simp only [push_cast];done)
 refine zL fun K hK=> ?_
 refine zM zQ zO [] rfl ?_
 all_goals simp only [push_cast,↓zK,↓zJ,↓reduceIte,zA,zB,zC,zD,zE,zF,zG,zH,zI,reduceCtorEq]
 all_goals repeat'(first|(apply zP<;>(intro hg;(try simp only [push_cast]at hg)))|apply And.intro|(intro hg;(try simp only [push_cast]at hg)))
 all_goals first|exact gA|(exact zN (by omega))|skip
 all_goals first|(refine hK _ ?_;clear hK K)|(simp only [push_cast];done)
 refine zL fun K1 hK1=> ?_
 (try rw [hg9])
 (try rw [List.take_of_length_le (l:=goal) (by omega)])
 refine zL fun K hK=> ?_
 refine zM zQ zO [] rfl ?_
 all_goals simp only [push_cast,↓zK,↓zJ,↓reduceIte,zA,zB,zC,zD,zE,zF,zG,zH,zI,reduceCtorEq]
 all_goals repeat'(first|(apply zP<;>(intro hg;(try simp only [push_cast]at hg)))|apply And.intro|(intro hg;(try simp only [push_cast]at hg)))
 all_goals first|exact gA|(exact zN (by omega))|skip
 all_goals first|(refine hK _ ?_;clear hK K)|(simp only [push_cast];done)
 refine zT ?_
 refine zh [6,7,8,12,13,14,15,16,17,18,19,20,21,22,23,24,25,26,27,28,29,30,31,32,33,34,35,36,37,38,39,40,41,42,43,44,45,46,47,48,49,50] [80] (fun(p:List Bool×Bool)=> [(6, .bool p.2),(5, .sl 80 [] 0 n 4)]) (fun p=> []) (fun p=> [(80,⟨.ex,4,dB p.1,none⟩)]) (fun p=>BfI a.next goal n p.1∧(p.2=false→ClB a.next p.1 n 0)) (fun p=>2*(n - yj p.1 n)+(if p.2 then 1 else 0)) (goal,true) ?_ ⟨hst,fun h=>(by cases h)⟩ ?_
 ·
  refine zX rfl ?_ ?_ ?_<;>simp only [zg,zf,push_cast,↓zK,↓zJ,↓reduceIte,zA,zB,zC,zD,zE,zF,zG,zH,zI,reduceCtorEq]
  all_goals first|rfl|skip
 ·rintro⟨o0,m0⟩ ⟨hI,hcl⟩ KL0 hL0
  dsimp only at hI hcl
  have hct0:=wx o0 n
  simp only [push_cast,↓zK,↓zJ,↓reduceIte,zA,zB,zC,zD,zE,zF,zG,zH,zI,reduceCtorEq]
  refine zL fun K2 hK2=> ?_
  refine zL fun K hK=> ?_
  refine zM zQ zO [] rfl ?_
  all_goals simp only [push_cast,↓zK,↓zJ,↓reduceIte,zA,zB,zC,zD,zE,zF,zG,zH,zI,reduceCtorEq]
  all_goals repeat'(first|(apply zP<;>(intro hg;(try simp only [push_cast]at hg)))|apply And.intro|(intro hg;(try simp only [push_cast]at hg)))
  all_goals first|exact gA|(exact zN (by omega))|skip
  all_goals first|(refine hK _ ?_;clear hK K)|(simp only [push_cast];done)
  refine zU rfl (fun hc=> ?_) (fun hc=> ?_)<;>(try simp only [push_cast]at hc)
  ·
   refine zV ?_
   (try simp only [zR,zS,reduceIte,zF]);refine hK2 _ ?_
   refine zT ?_
   refine zL fun K hK=> ?_
   refine zM zQ zO [] rfl ?_
   all_goals simp only [push_cast,↓zK,↓zJ,↓reduceIte,zA,zB,zC,zD,zE,zF,zG,zH,zI,reduceCtorEq]
   all_goals repeat'(first|(apply zP<;>(intro hg;(try simp only [push_cast]at hg)))|apply And.intro|(intro hg;(try simp only [push_cast]at hg)))
   all_goals first|exact gA|(exact zN (by omega))|skip
   all_goals first|(refine hK _ ?_;clear hK K)|(simp only [push_cast];done)
   refine zL fun K hK=> ?_
   refine zM zQ zO [] rfl ?_
   all_goals simp only [push_cast,↓zK,↓zJ,↓reduceIte,zA,zB,zC,zD,zE,zF,zG,zH,zI,reduceCtorEq]
   all_goals repeat'(first|(apply zP<;>(intro hg;(try simp only [push_cast]at hg)))|apply And.intro|(intro hg;(try simp only [push_cast]at hg)))
   all_goals first|exact gA|(exact zN (by omega))|skip
   all_goals first|(refine hK _ ?_;clear hK K)|(simp only [push_cast];done)
   refine zT ?_
   refine zh [6,7,8,13,14,15,16,17,18,19,20,21,22,23,24,25,26,27,28,29,30,31,32,33,34,35,36,37,38,39,40,41,42,43,44,45,46,47,48,49,50] [80] (fun(p:Nat×List Bool×Bool)=> [(7, .int .i64 p.1),(6, .bool p.2.2),(5, .sl 80 [] 0 n 4)]) (fun p=> []) (fun p=> [(80,⟨.ex,4,dB p.2.1,none⟩)]) (fun p=>p.1≤n∧BfI a.next goal n p.2.1∧(p.2.2=false→p.2.1=o0∧ClB a.next o0 p.1 0)∧(p.2.2=true→yj o0 n<yj p.2.1 n)∧yj o0 n≤yj p.2.1 n) (fun p=>n - p.1) (0,o0,false) ?_ ⟨Nat.zero_le _,hI,fun _=>⟨rfl,ClB.start⟩,fun h=>(by cases h),Nat.le_refl _⟩ ?_
   ·
    refine zX rfl ?_ ?_ ?_<;>simp only [zg,zf,push_cast,↓zK,↓zJ,↓reduceIte,zA,zB,zC,zD,zE,zF,zG,zH,zI,reduceCtorEq]
    all_goals first|rfl|skip
   ·rintro⟨v,out,mr⟩ ⟨hv,hI1,hs1,hs2,hs3⟩ KL1 hL1
    dsimp only at hv hI1 hs1 hs2 hs3
    simp only [push_cast,↓zK,↓zJ,↓reduceIte,zA,zB,zC,zD,zE,zF,zG,zH,zI,reduceCtorEq]
    refine zL fun K3 hK3=> ?_
    refine zL fun K hK=> ?_
    refine zM zQ zO [] rfl ?_
    all_goals simp only [push_cast,↓zK,↓zJ,↓reduceIte,zA,zB,zC,zD,zE,zF,zG,zH,zI,reduceCtorEq]
    all_goals repeat'(first|(apply zP<;>(intro hg;(try simp only [push_cast]at hg)))|apply And.intro|(intro hg;(try simp only [push_cast]at hg)))
    all_goals first|exact gA|(exact zN (by omega))|skip
    all_goals first|(refine hK _ ?_;clear hK K)|(simp only [push_cast];done)
    refine zU rfl (fun hc=> ?_) (fun hc=> ?_)<;>(try simp only [push_cast]at hc)
    ·
     refine zV ?_
     (try simp only [zR,zS,reduceIte,zF]);refine hK3 _ ?_
     refine zL fun K4 hK4=> ?_
     refine zT ?_
     refine zL fun K hK=> ?_
     refine zM zQ zO [] rfl ?_
     all_goals simp only [push_cast,↓zK,↓zJ,↓reduceIte,zA,zB,zC,zD,zE,zF,zG,zH,zI,reduceCtorEq]
     all_goals repeat'(first|(apply zP<;>(intro hg;(try simp only [push_cast]at hg)))|apply And.intro|(intro hg;(try simp only [push_cast]at hg)))
     all_goals first|exact gA|(exact zN (by omega))|skip
     all_goals first|(refine hK _ ?_;clear hK K)|(simp only [push_cast];done)
     refine zT ?_
     refine zh [6,8,20,21,22,23,24,25,26,27,28,29,30,31,32,33,34,35,36,37,38,39,40,41,42,43,44,45,46,47,48,49,50] [80] (fun(p:Nat×List Bool×Bool)=> [(8, .int .i64 p.1),(6, .bool p.2.2),(5, .sl 80 [] 0 n 4)]) (fun p=> []) (fun p=> [(80,⟨.ex,4,dB p.2.1,none⟩)]) (fun p=>p.1≤(gl a.next v).length∧BfI a.next goal n p.2.1∧(p.2.2=false→p.2.1=o0∧ClB a.next o0 v p.1)∧(p.2.2=true→yj o0 n<yj p.2.1 n)∧yj o0 n≤yj p.2.1 n) (fun p=>(gl a.next v).length - p.1) (0,out,mr) ?_ ⟨Nat.zero_le _,hI1,hs1,hs2,hs3⟩ ?_
     ·
      refine zX rfl ?_ ?_ ?_<;>simp only [zg,zf,push_cast,↓zK,↓zJ,↓reduceIte,zA,zB,zC,zD,zE,zF,zG,zH,zI,reduceCtorEq]
      all_goals first|rfl|skip
     ·rintro⟨k,out,mr⟩ ⟨hk,hI2,ht1,ht2,ht3⟩ KL2 hL2
      dsimp only at hk hI2 ht1 ht2 ht3
      simp only [push_cast,↓zK,↓zJ,↓reduceIte,zA,zB,zC,zD,zE,zF,zG,zH,zI,reduceCtorEq]
      refine zL fun K5 hK5=> ?_
      by_cases hq:k<(gl a.next v).length∧gb out v=false
      ·
       have hlo:=hI2.len
       have hed:=hEd v (by omega)
       refine zL fun K hK=> ?_
       refine za false zQ zO ?_ rfl ?_
       ·kernel_rfl
       all_goals simp only [push_cast,↓zK,↓zJ,↓reduceIte,zA,zB,zC,zD,zE,zF,zG,zH,zI,reduceCtorEq]
       all_goals repeat'(first|(apply zP<;>(intro hg;(try simp only [push_cast]at hg)))|apply And.intro|(intro hg;(try simp only [push_cast]at hg)))
       all_goals first|exact gA|(exact zN (by omega))|skip
       all_goals first|(refine hK _ ?_;clear hK K)|(simp only [push_cast];done)
       all_goals first|exact absurd hq.1 (by omega)|skip
       all_goals(
         refine zU rfl (fun hc=> ?_) (fun hc=> ?_)
         rotate_left
         ·exfalso;first|(cases hc;done)|(simp [hq.2]at hc;done)|omega
         refine zV ?_
         (try simp only [zR,zS,reduceIte,zF]);refine hK5 _ ?_
         refine zL fun K6 hK6=> ?_
         refine zT ?_
         have her:=hE9 v (by omega) k (by omega)
         refine zL fun K hK=> ?_
         refine zM zQ zO [] rfl ?_
         all_goals simp only [push_cast,↓zK,↓zJ,↓reduceIte,zA,zB,zC,zD,zE,zF,zG,zH,zI,reduceCtorEq]
         all_goals repeat'(first|(apply zP<;>(intro hg;(try simp only [push_cast]at hg)))|apply And.intro|(intro hg;(try simp only [push_cast]at hg)))
         all_goals first|exact gA|(exact zN (by omega))|skip
         all_goals first|(refine hK _ ?_;clear hK K)|(simp only [push_cast];done)
         refine zU rfl (fun hc=> ?_) (fun hc=> ?_)<;>(try simp only [push_cast]at hc)
         ·
          refine zL fun K hK=> ?_
          refine zM zQ zO [] rfl ?_
          all_goals simp only [push_cast,↓zK,↓zJ,↓reduceIte,zA,zB,zC,zD,zE,zF,zG,zH,zI,reduceCtorEq]
          all_goals repeat'(first|(apply zP<;>(intro hg;(try simp only [push_cast]at hg)))|apply And.intro|(intro hg;(try simp only [push_cast]at hg)))
          all_goals first|exact gA|(exact zN (by omega))|skip
          all_goals first|(refine hK _ ?_;clear hK K)|(simp only [push_cast];done)
          have hcs:=KB (l:=out) (u:=v) (by first|exact hq.2|with_reducible assumption) (by omega) n (by omega)
          refine zM zQ zO [] rfl ?_
          all_goals simp only [push_cast,↓zK,↓zJ,↓reduceIte,zA,zB,zC,zD,zE,zF,zG,zH,zI,reduceCtorEq]
          all_goals repeat'(first|(apply zP<;>(intro hg;(try simp only [push_cast]at hg)))|apply And.intro|(intro hg;(try simp only [push_cast]at hg)))
          all_goals first|exact gA|(exact zN (by omega))|skip
          (try simp only [zR,zS,reduceIte,zF]);refine hK6 _ ?_
          refine zM zQ zO [] rfl ?_
          all_goals simp only [push_cast,↓zK,↓zJ,↓reduceIte,zA,zB,zC,zD,zE,zF,zG,zH,zI,reduceCtorEq]
          all_goals repeat'(first|(apply zP<;>(intro hg;(try simp only [push_cast]at hg)))|apply And.intro|(intro hg;(try simp only [push_cast]at hg)))
          all_goals first|exact gA|(exact zN (by omega))|skip
          refine hL2 _ ⟨(k+1,out.set v true,true),⟨by dsimp only;omega,hI2.set (by omega) (by omega) her.1 (by with_reducible assumption),fun h=>(by cases h),fun _=>(by dsimp only;omega),by dsimp only;omega⟩,by dsimp only;omega,?_⟩
          refine zX rfl ?_ ?_ ?_<;>simp only [zg,zf,push_cast,↓zK,↓zJ,↓reduceIte,zA,zB,zC,zD,zE,zF,zG,zH,zI,reduceCtorEq]
         ·
          refine zV ?_
          (try simp only [zR,zS,reduceIte,zF]);refine hK6 _ ?_
          refine zM zQ zO [] rfl ?_
          all_goals simp only [push_cast,↓zK,↓zJ,↓reduceIte,zA,zB,zC,zD,zE,zF,zG,zH,zI,reduceCtorEq]
          all_goals repeat'(first|(apply zP<;>(intro hg;(try simp only [push_cast]at hg)))|apply And.intro|(intro hg;(try simp only [push_cast]at hg)))
          all_goals first|exact gA|(exact zN (by omega))|skip
          refine hL2 _ ⟨(k+1,out,mr),⟨by dsimp only;omega,hI2,fun h=>(by obtain⟨q1,q2⟩:=ht1 h;subst q1;exact⟨rfl,q2.step (by first|with_reducible assumption|(simpa using ‹¬_›))⟩),ht2,ht3⟩,by dsimp only;omega,?_⟩
          refine zX rfl ?_ ?_ ?_<;>simp only [zg,zf,push_cast,↓zK,↓zJ,↓reduceIte,zA,zB,zC,zD,zE,zF,zG,zH,zI,reduceCtorEq])
      ·
       have hlo:=hI2.len
       have hed:=hEd v (by omega)
       refine zL fun K hK=> ?_
       refine za false zQ zO ?_ rfl ?_
       ·kernel_rfl
       all_goals simp only [push_cast,↓zK,↓zJ,↓reduceIte,zA,zB,zC,zD,zE,zF,zG,zH,zI,reduceCtorEq]
       all_goals repeat'(first|(apply zP<;>(intro hg;(try simp only [push_cast]at hg)))|apply And.intro|(intro hg;(try simp only [push_cast]at hg)))
       all_goals first|exact gA|(exact zN (by omega))|skip
       all_goals first|(refine hK _ ?_;clear hK K)|(simp only [push_cast];done)
       all_goals(
         refine zU rfl (fun hc=> ?_) (fun hc=> ?_)
         skip
         ·exfalso;first|(cases hc;done)|exact hq ⟨by omega,by first|with_reducible assumption|simpa using hc⟩
         refine zm ?_
         (try simp only [zR,zS,reduceIte,zF]);refine hK4 _ ?_
         refine zM zQ zO [] rfl ?_
         all_goals simp only [push_cast,↓zK,↓zJ,↓reduceIte,zA,zB,zC,zD,zE,zF,zG,zH,zI,reduceCtorEq]
         all_goals repeat'(first|(apply zP<;>(intro hg;(try simp only [push_cast]at hg)))|apply And.intro|(intro hg;(try simp only [push_cast]at hg)))
         all_goals first|exact gA|(exact zN (by omega))|skip
         refine hL1 _ ⟨(v+1,out,mr),⟨by dsimp only;omega,hI2,fun h=>(by obtain⟨q1,q2⟩:=ht1 h;subst q1;exact⟨rfl,q2.next hq⟩),ht2,ht3⟩,by dsimp only;omega,?_⟩
         refine zX rfl ?_ ?_ ?_<;>simp only [zg,zf,push_cast,↓zK,↓zJ,↓reduceIte,zA,zB,zC,zD,zE,zF,zG,zH,zI,reduceCtorEq])
    ·
     refine zm ?_
     refine hL0 _ ⟨(out,mr),⟨hI1,fun h=>by obtain⟨q1,q2⟩:=hs1 h;subst q1;have hvn:v=n:=(by omega);rw [hvn]at q2;exact q2⟩,by dsimp only;have hct1:=wx out n;cases mr with|true=>(have :=hs2 rfl;simp only [if_true];omega)|false=>(simp only [Bool.false_eq_true,if_false];first|omega|(rw [show m0=true by with_reducible assumption];simp only [if_true];omega)),?_⟩
     refine zX rfl ?_ ?_ ?_<;>simp only [zg,zf,push_cast,↓zK,↓zJ,↓reduceIte,zA,zB,zC,zD,zE,zF,zG,zH,zI,reduceCtorEq]
  ·
   refine zm ?_
   have hm9:m0=false:=by first|(simpa using hc)|(cases m0<;>simp_all)
   have hr9:=hfin o0 hI (hcl hm9)
   (try simp only [zR,zS,reduceIte,zF]);refine hK1 _ ?_
   refine zL fun K hK=> ?_
   refine zM zQ zO [] rfl ?_
   all_goals simp only [push_cast,↓zK,↓zJ,↓reduceIte,zA,zB,zC,zD,zE,zF,zG,zH,zI,reduceCtorEq]
   all_goals repeat'(first|(apply zP<;>(intro hg;(try simp only [push_cast]at hg)))|apply And.intro|(intro hg;(try simp only [push_cast]at hg)))
   all_goals first|exact gA|(exact zN (by omega))|skip
   all_goals first|(refine hK _ ?_;clear hK K)|(simp only [push_cast];done)
   refine zc ?_
   (try simp only [zR,zS])
   refine⟨Or.inl rfl,?_⟩
   simp only [zi,push_cast,↓zK,↓zJ,↓reduceIte,zA,zB,zC,zD,zE,zF,zG,zH,zI,reduceCtorEq]
   rw [←hr9]
   all_goals first|rfl|exact⟨rfl,by have :=hI.len;omega⟩|exact⟨rfl,hI.len.symm⟩|exact hI.len.symm|skip
set_option maxRecDepth 20000 in
set_option maxHeartbeats 8000000 in
theorem UG (a:Ar)(ha9:a.Ln 1048576)(ha:zu a=true)(ps:List Pr)(hps:PLn 1048576 ps)(hpr:vR ps a.owner.length=true):Fn Try.prog tyT 27 [.agg (dAr a), .c (.lst 76 (dII (ilv ps)))] [.c (DI (xL (we a.next (brA a.next a.owner.length ps ps.length) a.owner.length) a.owner.length))]:=by
 have hal:=zl ha
 have hA:=Xu a ha9
 have hP:=Jc ps hps a.owner.length
 rw [ha]at hA
 rw [hpr]at hP
 have hB:=kU a ha ps hps
 have hF:=zAr a ha _ (JB a.next a.owner.length ps ps.length)
 have hL:=zDz (we a.next (brA a.next a.owner.length ps ps.length) a.owner.length) (by rw [VG];omega)
 rw [VG]at hL
 unfold dAr at hA hB hF
 unfold dAr
 refine yK (fn:=Try.f27) (ts:= [4]) Try.func27 (by kernel_rfl) rfl rfl (by rw [Try.ntmps27];exact Nat.le_of_ble_eq_true rfl) rfl (by simp only [szA,List.mem_cons,List.not_mem_nil,or_false,forall_eq_or_imp,forall_eq,VT.cells,szL];try decide) ?_
 rw [Try.ntmps27]
 simp only [push_cast,↓zK,↓zJ,↓reduceIte,zA,zB,zC,zD,zE,zF,zG,zH,zI,reduceCtorEq]
 refine zL fun K hK=> ?_
 refine zM zQ zO [] rfl ?_
 simp only [push_cast,↓zK,↓zJ,↓reduceIte,zA,zB,zC,zD,zE,zF,zG,zH,zI,reduceCtorEq]
 repeat' apply And.intro
 all_goals try exact gB
 all_goals first|(refine hK _ ?_;clear hK K)|(simp only [push_cast];done)
 refine zL fun K1 hK1=> ?_
 refine zL fun K hK=> ?_
 refine za false zQ zO ?_ rfl ?_
 ·kernel_rfl
 all_goals refine zo 2 fun K9 hK9=> ?_
 all_goals simp only [push_cast,↓zK,↓zJ,↓reduceIte,zA,zB,zC,zD,zE,zF,zG,zH,zI,reduceCtorEq]
 all_goals repeat'(first|(apply zP<;>(intro hg;(try simp only [push_cast]at hg)))|(refine⟨_,hA,?_⟩;simp only [push_cast,↓zK,↓zJ,↓reduceIte,zA,zB,zC,zD,zE,zF,zG,zH,zI,reduceCtorEq])|(refine⟨_,hP,?_⟩;simp only [push_cast,↓zK,↓zJ,↓reduceIte,zA,zB,zC,zD,zE,zF,zG,zH,zI,reduceCtorEq])|apply And.intro|(intro hg;(try simp only [push_cast]at hg)))
 all_goals try exact gA
 all_goals first|(refine hK9 _ ?_;clear hK9 K9)|(simp only [push_cast];done)
 all_goals refine zo 7 fun K9 hK9=> ?_
 all_goals simp only [push_cast,↓zK,↓zJ,↓reduceIte,zA,zB,zC,zD,zE,zF,zG,zH,zI,reduceCtorEq]
 all_goals repeat'(first|(apply zP<;>(intro hg;(try simp only [push_cast]at hg)))|(refine⟨_,hA,?_⟩;simp only [push_cast,↓zK,↓zJ,↓reduceIte,zA,zB,zC,zD,zE,zF,zG,zH,zI,reduceCtorEq])|(refine⟨_,hP,?_⟩;simp only [push_cast,↓zK,↓zJ,↓reduceIte,zA,zB,zC,zD,zE,zF,zG,zH,zI,reduceCtorEq])|apply And.intro|(intro hg;(try simp only [push_cast]at hg)))
 all_goals try exact gA
 all_goals first|(refine hK9 _ ?_;clear hK9 K9)|(simp only [push_cast];done)
 all_goals simp only [push_cast,↓zK,↓zJ,↓reduceIte,zA,zB,zC,zD,zE,zF,zG,zH,zI,reduceCtorEq]
 all_goals repeat'(first|(apply zP<;>(intro hg;(try simp only [push_cast]at hg)))|(refine⟨_,hA,?_⟩;simp only [push_cast,↓zK,↓zJ,↓reduceIte,zA,zB,zC,zD,zE,zF,zG,zH,zI,reduceCtorEq])|(refine⟨_,hP,?_⟩;simp only [push_cast,↓zK,↓zJ,↓reduceIte,zA,zB,zC,zD,zE,zF,zG,zH,zI,reduceCtorEq])|apply And.intro|(intro hg;(try simp only [push_cast]at hg)))
 all_goals try exact gA
 all_goals first|(refine hK _ ?_;clear hK K)|(simp only [push_cast];done)
 all_goals refine zU rfl (fun hc=> ?_) (fun hc=> ?_)
 all_goals(first|(cases hc;done)|skip)
 all_goals(try simp only [push_cast]at hc)
 all_goals try(
   refine zL fun K hK=> ?_
   refine zM zQ zO [] rfl ?_
   simp only [push_cast,↓zK,↓zJ,↓reduceIte,zA,zB,zC,zD,zE,zF,zG,zH,zI,reduceCtorEq]
   repeat' apply And.intro
   all_goals try exact gB
   all_goals first|(refine hK _ ?_;clear hK K)|(simp only [push_cast];done)
   refine zc ?_
   (try simp only [zR,zS])
   refine⟨Or.inl rfl,?_⟩
   simp only [zi,push_cast,↓zK,↓zJ,↓reduceIte,zA,zB,zC,zD,zE,zF,zG,zH,zI,reduceCtorEq]
   skip
   done)
 refine zV ?_
 (try simp only [zR,zS,reduceIte,zF]);refine hK1 _ ?_
 refine zL fun K hK=> ?_
 refine yB false zQ zO xW ?_ rfl ?_
 ·kernel_rfl
 intro E hE
 all_goals refine yP 4 (by decide) fun K9 hK9=> ?_
 all_goals simp only [push_cast,↓zK,↓zJ,↓reduceIte,zA,zB,zC,zD,zE,zF,zG,zH,zI,reduceCtorEq]
 all_goals repeat'(first|(apply zP<;>(intro hg;(try simp only [push_cast]at hg)))|(refine⟨_,hB,?_⟩;simp only [push_cast,↓zK,↓zJ,↓reduceIte,zA,zB,zC,zD,zE,zF,zG,zH,zI,reduceCtorEq])|(refine⟨_,hF,?_⟩;simp only [push_cast,↓zK,↓zJ,↓reduceIte,zA,zB,zC,zD,zE,zF,zG,zH,zI,reduceCtorEq])|(refine⟨_,hL,?_⟩;simp only [push_cast,↓zK,↓zJ,↓reduceIte,zA,zB,zC,zD,zE,zF,zG,zH,zI,reduceCtorEq])|apply And.intro|(intro hg;(try simp only [push_cast]at hg)))
 all_goals try exact gA
 all_goals first|(refine hK9 _ _ ?_;clear hK9 K9)|(simp only [push_cast];done)
 all_goals refine yP 1 (by decide) fun K9 hK9=> ?_
 all_goals simp only [push_cast,↓zK,↓zJ,↓reduceIte,zA,zB,zC,zD,zE,zF,zG,zH,zI,reduceCtorEq]
 all_goals repeat'(first|(apply zP<;>(intro hg;(try simp only [push_cast]at hg)))|(refine⟨_,hB,?_⟩;simp only [push_cast,↓zK,↓zJ,↓reduceIte,zA,zB,zC,zD,zE,zF,zG,zH,zI,reduceCtorEq])|(refine⟨_,hF,?_⟩;simp only [push_cast,↓zK,↓zJ,↓reduceIte,zA,zB,zC,zD,zE,zF,zG,zH,zI,reduceCtorEq])|(refine⟨_,hL,?_⟩;simp only [push_cast,↓zK,↓zJ,↓reduceIte,zA,zB,zC,zD,zE,zF,zG,zH,zI,reduceCtorEq])|apply And.intro|(intro hg;(try simp only [push_cast]at hg)))
 all_goals try exact gA
 all_goals first|(refine hK9 _ _ ?_;clear hK9 K9)|(simp only [push_cast];done)
 all_goals refine yP 1 (by decide) fun K9 hK9=> ?_
 all_goals simp only [push_cast,↓zK,↓zJ,↓reduceIte,zA,zB,zC,zD,zE,zF,zG,zH,zI,reduceCtorEq]
 all_goals repeat'(first|(apply zP<;>(intro hg;(try simp only [push_cast]at hg)))|(refine⟨_,hB,?_⟩;simp only [push_cast,↓zK,↓zJ,↓reduceIte,zA,zB,zC,zD,zE,zF,zG,zH,zI,reduceCtorEq])|(refine⟨_,hF,?_⟩;simp only [push_cast,↓zK,↓zJ,↓reduceIte,zA,zB,zC,zD,zE,zF,zG,zH,zI,reduceCtorEq])|(refine⟨_,hL,?_⟩;simp only [push_cast,↓zK,↓zJ,↓reduceIte,zA,zB,zC,zD,zE,zF,zG,zH,zI,reduceCtorEq])|apply And.intro|(intro hg;(try simp only [push_cast]at hg)))
 all_goals try exact gA
 all_goals first|(refine hK9 _ _ ?_;clear hK9 K9)|(simp only [push_cast];done)
 all_goals simp only [push_cast,↓zK,↓zJ,↓reduceIte,zA,zB,zC,zD,zE,zF,zG,zH,zI,reduceCtorEq]
 all_goals repeat'(first|(apply zP<;>(intro hg;(try simp only [push_cast]at hg)))|(refine⟨_,hB,?_⟩;simp only [push_cast,↓zK,↓zJ,↓reduceIte,zA,zB,zC,zD,zE,zF,zG,zH,zI,reduceCtorEq])|(refine⟨_,hF,?_⟩;simp only [push_cast,↓zK,↓zJ,↓reduceIte,zA,zB,zC,zD,zE,zF,zG,zH,zI,reduceCtorEq])|(refine⟨_,hL,?_⟩;simp only [push_cast,↓zK,↓zJ,↓reduceIte,zA,zB,zC,zD,zE,zF,zG,zH,zI,reduceCtorEq])|apply And.intro|(intro hg;(try simp only [push_cast]at hg)))
 all_goals first|exact gA|(refine hE _ _ ?_ ?_;kernel_rfl)|skip
 all_goals clear hE E
 all_goals first|(refine hK _ ?_;clear hK K)|(simp only [push_cast];done)
 refine zc ?_
 (try simp only [zR,zS])
 refine⟨Or.inl rfl,?_⟩
 simp only [zi,push_cast,↓zK,↓zJ,↓reduceIte,zA,zB,zC,zD,zE,zF,zG,zH,zI,reduceCtorEq]
 all_goals first|rfl|exact⟨rfl,rfl⟩|skip
def JZ (a:Ar)(ps:List Pr)(l:Ls):Bool:=zu a&&vN a l&&vR ps a.owner.length&&(((bkN ps l.loop ps.length).length:Int)==0)
set_option maxRecDepth 20000 in
set_option maxHeartbeats 4000000 in
theorem UI (a:Ar)(ha:a.Ln 1048576)(ps:List Pr)(hps:PLn 1048576 ps)(l:Ls)(hl:l.Ln 1048576):Fn Try.prog tyT 28 [.agg (dAr a), .c (.lst 76 (dII (ilv ps))), .agg (dLs l)] [.c (.bool (JZ a ps l))]:=by
 have hL:=zBm a l ha hl
 have hP:=Jc ps hps a.owner.length
 have hB:=zAs ps hps l.loop hl.loop
 obtain⟨A,hA⟩: ∃A,(zu a&&vN a l)=A:=⟨_,rfl⟩
 rw [hA]at hL
 have hw:JZ a ps l=(A&&vR ps a.owner.length&&(((bkN ps l.loop ps.length).length:Int)==0)):=by unfold JZ;rw [hA]
 rw [hw]
 unfold dAr at hL
 unfold dLs at hL
 unfold dAr dLs
 refine yK (fn:=Try.f28) (ts:= [6]) Try.func28 (by kernel_rfl) rfl rfl (by rw [Try.ntmps28];exact Nat.le_of_ble_eq_true rfl) rfl (by simp only [szA,List.mem_cons,List.not_mem_nil,or_false,forall_eq_or_imp,forall_eq,VT.cells,szL];try decide) ?_
 rw [Try.ntmps28]
 simp only [push_cast,↓zK,↓zJ,↓reduceIte,zA,zB,zC,zD,zE,zF,zG,zH,zI,reduceCtorEq]
 refine zL fun K hK=> ?_
 refine zM zQ zO [] rfl ?_
 simp only [push_cast,↓zK,↓zJ,↓reduceIte,zA,zB,zC,zD,zE,zF,zG,zH,zI,reduceCtorEq]
 repeat' apply And.intro
 all_goals try exact gB
 all_goals first|(refine hK _ ?_;clear hK K)|(simp only [push_cast];done)
 refine zL fun K hK=> ?_
 refine za false zQ zO ?_ rfl ?_
 ·kernel_rfl
 all_goals refine zo 3 fun K9 hK9=> ?_
 all_goals simp only [push_cast,↓zK,↓zJ,↓reduceIte,zA,zB,zC,zD,zE,zF,zG,zH,zI,reduceCtorEq]
 all_goals repeat'(first|(apply zP<;>(intro hg;(try simp only [push_cast]at hg)))|(refine⟨_,hL,?_⟩;simp only [push_cast,↓zK,↓zJ,↓reduceIte,zA,zB,zC,zD,zE,zF,zG,zH,zI,reduceCtorEq])|(refine⟨_,hP,?_⟩;simp only [push_cast,↓zK,↓zJ,↓reduceIte,zA,zB,zC,zD,zE,zF,zG,zH,zI,reduceCtorEq])|(refine⟨_,hB,?_⟩;simp only [push_cast,↓zK,↓zJ,↓reduceIte,zA,zB,zC,zD,zE,zF,zG,zH,zI,reduceCtorEq])|apply And.intro|(intro hg;(try simp only [push_cast]at hg)))
 all_goals try exact gA
 all_goals first|(refine hK9 _ ?_;clear hK9 K9)|(simp only [push_cast];done)
 all_goals refine zo 6 fun K9 hK9=> ?_
 all_goals simp only [push_cast,↓zK,↓zJ,↓reduceIte,zA,zB,zC,zD,zE,zF,zG,zH,zI,reduceCtorEq]
 all_goals repeat'(first|(apply zP<;>(intro hg;(try simp only [push_cast]at hg)))|(refine⟨_,hL,?_⟩;simp only [push_cast,↓zK,↓zJ,↓reduceIte,zA,zB,zC,zD,zE,zF,zG,zH,zI,reduceCtorEq])|(refine⟨_,hP,?_⟩;simp only [push_cast,↓zK,↓zJ,↓reduceIte,zA,zB,zC,zD,zE,zF,zG,zH,zI,reduceCtorEq])|(refine⟨_,hB,?_⟩;simp only [push_cast,↓zK,↓zJ,↓reduceIte,zA,zB,zC,zD,zE,zF,zG,zH,zI,reduceCtorEq])|apply And.intro|(intro hg;(try simp only [push_cast]at hg)))
 all_goals try exact gA
 all_goals first|(refine hK9 _ ?_;clear hK9 K9)|(simp only [push_cast];done)
 all_goals refine zo 6 fun K9 hK9=> ?_
 all_goals simp only [push_cast,↓zK,↓zJ,↓reduceIte,zA,zB,zC,zD,zE,zF,zG,zH,zI,reduceCtorEq]
 all_goals repeat'(first|(apply zP<;>(intro hg;(try simp only [push_cast]at hg)))|(refine⟨_,hL,?_⟩;simp only [push_cast,↓zK,↓zJ,↓reduceIte,zA,zB,zC,zD,zE,zF,zG,zH,zI,reduceCtorEq])|(refine⟨_,hP,?_⟩;simp only [push_cast,↓zK,↓zJ,↓reduceIte,zA,zB,zC,zD,zE,zF,zG,zH,zI,reduceCtorEq])|(refine⟨_,hB,?_⟩;simp only [push_cast,↓zK,↓zJ,↓reduceIte,zA,zB,zC,zD,zE,zF,zG,zH,zI,reduceCtorEq])|apply And.intro|(intro hg;(try simp only [push_cast]at hg)))
 all_goals try exact gA
 all_goals first|(refine hK9 _ ?_;clear hK9 K9)|(simp only [push_cast];done)
 all_goals simp only [push_cast,↓zK,↓zJ,↓reduceIte,zA,zB,zC,zD,zE,zF,zG,zH,zI,reduceCtorEq]
 all_goals repeat'(first|(apply zP<;>(intro hg;(try simp only [push_cast]at hg)))|(refine⟨_,hL,?_⟩;simp only [push_cast,↓zK,↓zJ,↓reduceIte,zA,zB,zC,zD,zE,zF,zG,zH,zI,reduceCtorEq])|(refine⟨_,hP,?_⟩;simp only [push_cast,↓zK,↓zJ,↓reduceIte,zA,zB,zC,zD,zE,zF,zG,zH,zI,reduceCtorEq])|(refine⟨_,hB,?_⟩;simp only [push_cast,↓zK,↓zJ,↓reduceIte,zA,zB,zC,zD,zE,zF,zG,zH,zI,reduceCtorEq])|apply And.intro|(intro hg;(try simp only [push_cast]at hg)))
 all_goals try exact gA
 all_goals first|(refine hK _ ?_;clear hK K)|(simp only [push_cast];done)
 all_goals(
   refine zc ?_
   (try simp only [zR,zS])
   refine⟨Or.inl rfl,?_⟩
   simp only [zi,push_cast,↓zK,↓zJ,↓reduceIte,zA,zB,zC,zD,zE,zF,zG,zH,zI,reduceCtorEq]
   all_goals first|rfl|(rw [show A=false from by with_reducible assumption];rfl)|(rw [show A=true from by with_reducible assumption,show vR ps a.owner.length=false from by with_reducible assumption];rfl)|(rw [show A=true from by with_reducible assumption,show vR ps a.owner.length=true from by with_reducible assumption];rfl)|trace_state)
def Xa (xs:List (List Int))(plan:List Int)(y:Nat→Int)(j:Nat):List Int:=if 0≤gi plan j then [y j]else gl xs j
def wA (xs:List (List Int))(plan:List Int)(y:Nat→Int)(v:Nat):List (List Int):=(List.range v).map (Xa xs plan y)++xs.drop v
theorem zKP (xs:List (List Int))(plan:List Int)(y:Nat→Int):wA xs plan y 0=xs:=by simp [wA]
theorem VL {xs:List (List Int)}{plan:List Int}{y:Nat→Int}{v:Nat}(h:v≤xs.length):(wA xs plan y v).length=xs.length:=by simp [wA];omega
theorem zE9 {xs:List (List Int)}{plan:List Int}{y:Nat→Int}{v:Nat}(h:v<xs.length):(wA xs plan y v).set v (Xa xs plan y v)=wA xs plan y (v+1):=by
 have hl:((List.range v).map (Xa xs plan y)).length=v:=by simp
 unfold wA
 rw [List.set_append_right _ _ (by omega),hl,Nat.sub_self,zAW h,List.set_cons_zero,List.range_succ,List.map_append,List.append_assoc]
 rfl
theorem zGw {xs:List (List Int)}{plan:List Int}{y:Nat→Int}{v:Nat}(h:v<xs.length)(hp:0≤gi plan v):(wA xs plan y v).set v [y v]=wA xs plan y (v+1):=by
 rw [←zE9 h,Xa,if_pos hp]
theorem zK9 {xs:List (List Int)}{v:Nat}(h:v<xs.length):xs.set v (gl xs v)=xs:=by
 refine List.ext_getElem? fun i=> ?_
 rw [List.getElem?_set]
 split
 ·rename_i e;subst e;exact(UV h).symm
 ·rfl
theorem zIx {xs:List (List Int)}{plan:List Int}{y:Nat→Int}{v:Nat}(h:v<xs.length):gl (wA xs plan y v) v=gl xs v:=by
 have hl:((List.range v).map (Xa xs plan y)).length=v:=by simp
 unfold wA
 rw [zAW h]
 exact zGy (xs:=(List.range v).map (Xa xs plan y)) (ys:=gl xs v::xs.drop (v+1)) (k:=0) hl
theorem zE8 {xs:List (List Int)}{plan:List Int}{y:Nat→Int}{v:Nat}(h:v<xs.length)(hp: ¬0≤gi plan v):wA xs plan y (v+1)=wA xs plan y v:=by
 rw [←zE9 h,Xa,if_neg hp,←zIx h,zK9 (by rw [VL (by omega)];exact h)]
theorem zIw {xs:List (List Int)}{plan:List Int}{y:Nat→Int}{j:Nat}(h:j<xs.length):gl (wA xs plan y xs.length) j=Xa xs plan y j:=by
 unfold wA
 rw [List.drop_length,List.append_nil]
 unfold gl
 rw [List.getD_eq_getElem?_getD,List.getElem?_map,List.getElem?_range h]
 rfl
def xm (a:Ar)(plan:List Int):Ar:=⟨a.owner,wA a.next plan (fun j=>gi plan j) a.next.length⟩
def WN (a:Ar)(who:Int)(plan:List Int):Ar:=if yh a who plan then xm a plan else⟨[],[]⟩
theorem zFA {a:Ar}{who:Int}{plan:List Int}(h:yh a who plan=false):WN a who plan=⟨[],[]⟩:=by unfold WN;rw [h];rfl
theorem jD {a:Ar}{who:Int}{plan:List Int}(h:yh a who plan=true):WN a who plan=xm a plan:=by unfold WN;rw [h];rfl
theorem Wd {a:Ar}{who:Int}{plan:List Int}(h:yh a who plan=true):zu a=true∧(0≤who∧who≤1)∧yU a who plan=true:=by
 unfold yh at h
 rw [Bool.and_eq_true,Bool.and_eq_true,decide_eq_true_eq]at h
 exact⟨h.1,h.2.1,h.2.2⟩
set_option maxRecDepth 20000 in
set_option maxHeartbeats 4000000 in
theorem zBl (a:Ar)(ha:a.Ln 1048576)(who:Int)(plan:List Int)(hpl:plan.length≤1048576):Fn Try.prog tyT 24 [.agg (dAr a), .c (.int .i64 who), .c (DI plan)] [.agg (dAr (WN a who plan)), .c (.bool (yh a who plan))]:=by
 have h0:=ha.owner
 have h1:=ha.next.1
 unfold LnI at h0
 have hP:=zDV a ha who plan hpl
 have hC:=kV a ha
 unfold dAr at hC hP
 unfold dAr
 refine Vs (fn:=Try.f24) (rs:= [.cell 6 33, .tmp 7]) zQ zO Try.func24 (by kernel_rfl) rfl rfl (by rw [Try.ntmps24];exact Nat.le_of_ble_eq_true rfl) rfl (by simp only [szA,List.mem_cons,List.not_mem_nil,or_false,forall_eq_or_imp,forall_eq,VT.cells,szL];try decide) ?_
 rw [Try.ntmps24]
 simp only [push_cast,↓zK,↓zJ,↓reduceIte,zA,zB,zC,zD,zE,zF,zG,zH,zI,reduceCtorEq]
 refine zL fun K hK=> ?_
 refine zM zQ zO [] rfl ?_
 all_goals simp only [push_cast,↓zK,↓zJ,↓reduceIte,zA,zB,zC,zD,zE,zF,zG,zH,zI,reduceCtorEq]
 all_goals repeat'(first|(apply zP<;>(intro hg;(try simp only [push_cast]at hg)))|apply And.intro|(intro hg;(try simp only [push_cast]at hg)))
 all_goals first|exact gA|(exact zN (by omega))|(simp only [yw];omega)|skip
 all_goals first|(refine hK _ ?_;clear hK K)|(simp only [push_cast];done)
 refine zL fun K1 hK1=> ?_
 refine zL fun K hK=> ?_
 refine zM zQ zO [] rfl ?_
 all_goals refine yz 4 fun K9 hK9=> ?_
 all_goals simp only [push_cast,↓zK,↓zJ,↓reduceIte,zA,zB,zC,zD,zE,zF,zG,zH,zI,reduceCtorEq]
 all_goals repeat'(first|(apply zP<;>(intro hg;(try simp only [push_cast]at hg)))|(refine⟨_,hP,?_⟩;simp only [push_cast,↓zK,↓zJ,↓reduceIte,zA,zB,zC,zD,zE,zF,zG,zH,zI,reduceCtorEq])|apply And.intro|(intro hg;(try simp only [push_cast]at hg)))
 all_goals first|exact gA|(exact zN (by omega))|(simp only [yw];omega)|skip
 all_goals first|(refine hK9 _ ?_;clear hK9 K9)|(simp only [push_cast];done)
 all_goals simp only [push_cast,↓zK,↓zJ,↓reduceIte,zA,zB,zC,zD,zE,zF,zG,zH,zI,reduceCtorEq]
 all_goals repeat'(first|(apply zP<;>(intro hg;(try simp only [push_cast]at hg)))|(refine⟨_,hP,?_⟩;simp only [push_cast,↓zK,↓zJ,↓reduceIte,zA,zB,zC,zD,zE,zF,zG,zH,zI,reduceCtorEq])|apply And.intro|(intro hg;(try simp only [push_cast]at hg)))
 all_goals first|exact gA|(exact zN (by omega))|(simp only [yw];omega)|skip
 all_goals first|(refine hK _ ?_;clear hK K)|(simp only [push_cast];done)
 refine zU rfl (fun hc=> ?_) (fun hc=> ?_)<;>(try simp only [push_cast]at hc)
 ·
  refine zL fun K hK=> ?_
  refine zM zQ zO [] rfl ?_
  all_goals simp only [push_cast,↓zK,↓zJ,↓reduceIte,zA,zB,zC,zD,zE,zF,zG,zH,zI,reduceCtorEq]
  all_goals repeat'(first|(apply zP<;>(intro hg;(try simp only [push_cast]at hg)))|apply And.intro|(intro hg;(try simp only [push_cast]at hg)))
  all_goals first|exact gA|(exact zN (by omega))|(simp only [yw];omega)|skip
  all_goals first|(refine hK _ ?_;clear hK K)|(simp only [push_cast];done)
  refine zc ?_
  (try simp only [zR,zS])
  refine⟨Or.inl rfl,?_⟩
  simp only [zi,yS,xU,push_cast,↓zK,↓zJ,↓reduceIte,zA,zB,zC,zD,zE,zF,zG,zH,zI,reduceCtorEq]
  have h9:yh a who plan=false:=by with_reducible assumption
  rw [zFA h9,h9]
  all_goals first|rfl|(simp [dI,dII];done)
 ·
  refine zV ?_
  (try simp only [zR,zS,reduceIte,zF]);refine hK1 _ ?_
  have hok:yh a who plan=true:=by with_reducible assumption
  have hnl:=(zl (Wd hok).1).2.2
  have hp:=(wC (Wd hok).2.2).1
  refine zL fun K hK=> ?_
  refine zM zQ zO [] rfl ?_
  all_goals refine yz 2 fun K9 hK9=> ?_
  all_goals simp only [push_cast,↓zK,↓zJ,↓reduceIte,zA,zB,zC,zD,zE,zF,zG,zH,zI,reduceCtorEq]
  all_goals repeat'(first|(apply zP<;>(intro hg;(try simp only [push_cast]at hg)))|(refine⟨_,hC,?_⟩;simp only [push_cast,↓zK,↓zJ,↓reduceIte,zA,zB,zC,zD,zE,zF,zG,zH,zI,reduceCtorEq])|apply And.intro|(intro hg;(try simp only [push_cast]at hg)))
  all_goals first|exact gA|(exact zN (by omega))|(simp only [yw];omega)|skip
  all_goals first|(refine hK9 _ ?_;clear hK9 K9)|(simp only [push_cast];done)
  all_goals simp only [push_cast,↓zK,↓zJ,↓reduceIte,zA,zB,zC,zD,zE,zF,zG,zH,zI,reduceCtorEq]
  all_goals repeat'(first|(apply zP<;>(intro hg;(try simp only [push_cast]at hg)))|(refine⟨_,hC,?_⟩;simp only [push_cast,↓zK,↓zJ,↓reduceIte,zA,zB,zC,zD,zE,zF,zG,zH,zI,reduceCtorEq])|apply And.intro|(intro hg;(try simp only [push_cast]at hg)))
  all_goals first|exact gA|(exact zN (by omega))|(simp only [yw];omega)|skip
  all_goals first|(refine hK _ ?_;clear hK K)|(simp only [push_cast];done)
  refine zL fun K2 hK2=> ?_
  refine zL fun K hK=> ?_
  refine zM zQ zO [] rfl ?_
  all_goals simp only [push_cast,↓zK,↓zJ,↓reduceIte,zA,zB,zC,zD,zE,zF,zG,zH,zI,reduceCtorEq]
  all_goals repeat'(first|(apply zP<;>(intro hg;(try simp only [push_cast]at hg)))|apply And.intro|(intro hg;(try simp only [push_cast]at hg)))
  all_goals first|exact gA|(exact zN (by omega))|(simp only [yw];omega)|skip
  all_goals first|(refine hK _ ?_;clear hK K)|(simp only [push_cast];done)
  refine zT ?_
  refine zh [8,9,18,19,20,21,22,23,24,25,26,27,28,29,30,31,32,33,34,35,36,37] [] (fun(k:Nat)=> [(9, .int .i64 k),(8, .bp 8 0)]) (fun k=> [(8,[.sl 128 [] 0 a.owner.length 2, .sl 129 [] 0 a.next.length 22])]) (fun k=> [(128,⟨.ex,2,dI a.owner,none⟩),(129,⟨.ex,22,dII (wA a.next plan (fun j=>gi plan j) k),none⟩)]) (fun k=>k≤a.owner.length) (fun k=>a.owner.length - k) 0 ?_ (by omega) ?_
  ·
   rw [zKP]
   refine zX rfl ?_ ?_ ?_<;>simp only [zg,zf,push_cast,↓zK,↓zJ,↓reduceIte,zA,zB,zC,zD,zE,zF,zG,zH,zI,reduceCtorEq]
  ·rintro k hk KL0 hL0
   have hfl:=VL (xs:=a.next) (plan:=plan) (y:=(fun j=>gi plan j)) (v:=k) (by omega)
   simp only [push_cast,↓zK,↓zJ,↓reduceIte,zA,zB,zC,zD,zE,zF,zG,zH,zI,reduceCtorEq]
   refine zL fun K3 hK3=> ?_
   refine zL fun K hK=> ?_
   refine zM zQ zO [] rfl ?_
   all_goals simp only [push_cast,↓zK,↓zJ,↓reduceIte,zA,zB,zC,zD,zE,zF,zG,zH,zI,reduceCtorEq]
   all_goals repeat'(first|(apply zP<;>(intro hg;(try simp only [push_cast]at hg)))|apply And.intro|(intro hg;(try simp only [push_cast]at hg)))
   all_goals first|exact gA|(exact zN (by omega))|(simp only [yw];omega)|skip
   all_goals first|(refine hK _ ?_;clear hK K)|(simp only [push_cast];done)
   refine zU rfl (fun hc=> ?_) (fun hc=> ?_)<;>(try simp only [push_cast]at hc)
   ·
    refine zV ?_
    (try simp only [zR,zS,reduceIte,zF]);refine hK3 _ ?_
    refine zL fun K4 hK4=> ?_
    refine zT ?_
    refine zL fun K hK=> ?_
    refine zM zQ zO [] rfl ?_
    all_goals simp only [push_cast,↓zK,↓zJ,↓reduceIte,zA,zB,zC,zD,zE,zF,zG,zH,zI,reduceCtorEq]
    all_goals repeat'(first|(apply zP<;>(intro hg;(try simp only [push_cast]at hg)))|apply And.intro|(intro hg;(try simp only [push_cast]at hg)))
    all_goals first|exact gA|(exact zN (by omega))|(simp only [yw];omega)|skip
    all_goals first|(refine hK _ ?_;clear hK K)|(simp only [push_cast];done)
    refine zU rfl (fun hc=> ?_) (fun hc=> ?_)<;>(try simp only [push_cast]at hc)
    ·
     refine yB true zQ zO xW ?_ rfl ?_
     ·kernel_rfl
     intro E hE
     all_goals simp only [push_cast,↓zK,↓zJ,↓reduceIte,zA,zB,zC,zD,zE,zF,zG,zH,zI,reduceCtorEq]
     all_goals repeat'(first|(apply zP<;>(intro hg;(try simp only [push_cast]at hg)))|apply And.intro|(intro hg;(try simp only [push_cast]at hg)))
     all_goals first|exact gA|(refine hE _ _ ?_ ?_;kernel_rfl)|(exact zN (by omega))|(simp only [yw];omega)|skip
     all_goals clear hE E
     (try simp only [zR,zS,reduceIte,zF]);refine hK4 _ ?_
     refine zM zQ zO [] rfl ?_
     all_goals simp only [push_cast,↓zK,↓zJ,↓reduceIte,zA,zB,zC,zD,zE,zF,zG,zH,zI,reduceCtorEq]
     all_goals repeat'(first|(apply zP<;>(intro hg;(try simp only [push_cast]at hg)))|apply And.intro|(intro hg;(try simp only [push_cast]at hg)))
     all_goals first|exact gA|(exact zN (by omega))|(simp only [yw];omega)|skip
     refine hL0 _ ⟨k+1,by omega,by omega,?_⟩
     rw [zKu,zG5 (by omega),zGw (y:=(fun j=>gi plan j)) (by omega) (by omega)]
     refine zX rfl ?_ ?_ ?_<;>simp only [zg,zf,push_cast,↓zK,↓zJ,↓reduceIte,zA,zB,zC,zD,zE,zF,zG,zH,zI,reduceCtorEq]
    ·
     refine zV ?_
     (try simp only [zR,zS,reduceIte,zF]);refine hK4 _ ?_
     refine zM zQ zO [] rfl ?_
     all_goals simp only [push_cast,↓zK,↓zJ,↓reduceIte,zA,zB,zC,zD,zE,zF,zG,zH,zI,reduceCtorEq]
     all_goals repeat'(first|(apply zP<;>(intro hg;(try simp only [push_cast]at hg)))|apply And.intro|(intro hg;(try simp only [push_cast]at hg)))
     all_goals first|exact gA|(exact zN (by omega))|(simp only [yw];omega)|skip
     refine hL0 _ ⟨k+1,by omega,by omega,?_⟩
     rw [zE8 (by omega) (by omega)]
     refine zX rfl ?_ ?_ ?_<;>simp only [zg,zf,push_cast,↓zK,↓zJ,↓reduceIte,zA,zB,zC,zD,zE,zF,zG,zH,zI,reduceCtorEq]
   ·
    refine zm ?_
    have hkk:k=a.next.length:=by omega
    subst hkk
    (try simp only [zR,zS,reduceIte,zF]);refine hK2 _ ?_
    refine zL fun K hK=> ?_
    refine zM zQ zO [] rfl ?_
    all_goals simp only [push_cast,↓zK,↓zJ,↓reduceIte,zA,zB,zC,zD,zE,zF,zG,zH,zI,reduceCtorEq]
    all_goals repeat'(first|(apply zP<;>(intro hg;(try simp only [push_cast]at hg)))|apply And.intro|(intro hg;(try simp only [push_cast]at hg)))
    all_goals first|exact gA|(exact zN (by omega))|(simp only [yw];omega)|skip
    all_goals first|(refine hK _ ?_;clear hK K)|(simp only [push_cast];done)
    refine zc ?_
    (try simp only [zR,zS])
    refine⟨Or.inl rfl,?_⟩
    simp only [zi,yS,xU,push_cast,↓zK,↓zJ,↓reduceIte,zA,zB,zC,zD,zE,zF,zG,zH,zI,reduceCtorEq]
    rw [jD hok,hok]
    unfold xm
    all_goals first|rfl|(simp [VL (Nat.le_refl _)];done)
theorem Rch.last {E:List (List Int)}{ins:List Bool}{v u:Nat}(h:Rch E ins v u):gb ins u=true:=by cases h<;>assumption
theorem Rch.trans {E:List (List Int)}{ins:List Bool}{v x u:Nat}(h1:Rch E ins v x)(h2:Rch E ins x u):Rch E ins v u:=by
 induction h2 with
 |one hj hb=>exact .step h1 hj hb
 |step _ hj hb ih=>exact .step ih hj hb
theorem Rch.rcx {n:Nat}{E:List (List Int)}{ins:List Bool}(hg: ∀v u,u∈gl E v→0≤u∧u<(n:Int)){v u:Nat}(h:Rch E ins v u):Rcx (edR E) v u:=by
 have key: ∀{x j:Nat},j<(gl E x).length→edR E x (gi (gl E x) j).toNat:=fun{x j} hj=>by
  have hm:gi (gl E x) j∈gl E x:=List.mem_of_getElem? (Za hj)
  unfold edR
  rw [Int.toNat_of_nonneg (hg x _ hm).1]
  exact hm
 induction h with
 |one hj _=>exact .one (key hj)
 |step _ hj _ ih=>exact ih.trans (.one (key hj))
theorem Wb {E:List (List Int)}{ins:List Bool}{v n y:Nat}(hv:v<n):(y:Int)∈yZ E ins v n↔y<n∧Rch E ins v v∧Rch E ins v y∧Rch E ins y v:=by
 unfold yZ
 cases hb:gb (vX E ins v n) v with
 |false=>
  rw [if_neg (by decide)]
  constructor
  ·intro h;cases h
  ·rintro⟨-,h,-⟩
   rw [(Zo hv).2 h]at hb
   cases hb
 |true=>
  rw [if_pos rfl,wy]
  constructor
  ·rintro⟨w,h1,h2,h3⟩
   have :y=w:=by omega
   subst this
   rw [ki h1,Bool.and_eq_true]at h2
   exact⟨h1,(Zo hv).1 hb,(Zo h1).1 h2.1,(Zo hv).1 h2.2⟩
  ·rintro⟨h1,-,h2,h3⟩
   exact⟨y,h1,by rw [ki h1,(Zo h1).2 h2,(Zo hv).2 h3];rfl,rfl⟩
theorem kn {y:Nat}: ∀{p:List Int} {d:List Bool},(∀u∈p,0≤u∧u<(d.length:Nat))→(gb (wI d p) y=true↔gb d y=true∨(y:Int)∈p)
 | [],d,_=>by simp [wI]
 |u::p,d,h=>by
  have hu:=h u (List.mem_cons_self ..)
  have ih:=kn (y:=y) (p:=p) (d:=d.set u.toNat true) (fun w hw=>by rw [List.length_set];exact h w (List.mem_cons_of_mem _ hw))
  have e:wI d (u::p)=wI (d.set u.toNat true) p:=rfl
  rw [e,ih,xI (by omega),List.mem_cons]
  by_cases h1:y=u.toNat
  ·rw [if_pos h1]
   have :(y:Int)=u:=by omega
   simp [this]
  ·rw [if_neg h1]
   have : ¬(y:Int)=u:=by omega
   simp [this]
theorem zDB {E:List (List Int)}{ins:List Bool}{n:Nat}: ∀v,∀p∈(ptS E ins n v).1,∃w,w<v∧p=yZ E ins w n
 |0=>fun p hp=>by cases hp
 |v+1=>by
  have ih:=zDB (E:=E) (ins:=ins) (n:=n) v
  by_cases hc:gb ins v=false∨gb (ptS E ins n v).2 v=true
  ·rw [Vg hc]
   exact fun p hp=>by obtain⟨w,h1,h2⟩:=ih p hp;exact⟨w,by omega,h2⟩
  ·have ha:gb ins v=true:=by cases hb:gb ins v with|true=>rfl|false=>exact absurd (.inl hb) hc
   have hb:gb (ptS E ins n v).2 v=false:=by cases hb:gb (ptS E ins n v).2 v with|false=>rfl|true=>exact absurd (.inr hb) hc
   rw [Wg ha hb]
   intro p hp
   simp only at hp
   split at hp
   ·rcases List.mem_append.1 hp with hp|hp
    ·obtain⟨w,h1,h2⟩:=ih p hp;exact⟨w,by omega,h2⟩
    ·rw [List.mem_singleton]at hp
     exact⟨v,by omega,hp⟩
   ·obtain⟨w,h1,h2⟩:=ih p hp;exact⟨w,by omega,h2⟩
theorem zDA {E:List (List Int)}{ins:List Bool}{n:Nat}: ∀v,v≤n→(∀x,gb (ptS E ins n v).2 x=true→∃p∈(ptS E ins n v).1,(x:Int)∈p)∧∀z,z<v→gb ins z=true→Rch E ins z z→∃p∈(ptS E ins n v).1,(z:Int)∈p
 |0,_=>⟨fun x hx=>(by simp only [ptS]at hx;rw [jE]at hx;cases hx),fun z hz=>by omega⟩
 |v+1,hv=>by
  obtain⟨h1,h2⟩:=zDA (E:=E) (ins:=ins) (n:=n) v (by omega)
  by_cases hc:gb ins v=false∨gb (ptS E ins n v).2 v=true
  ·rw [Vg hc]
   refine⟨h1,fun z hz hi hr=> ?_⟩
   by_cases e:z=v
   ·subst e
    rcases hc with hc|hc
    ·rw [hi]at hc;cases hc
    ·exact h1 _ hc
   ·exact h2 z (by omega) hi hr
  ·have ha:gb ins v=true:=by cases hb:gb ins v with|true=>rfl|false=>exact absurd (.inl hb) hc
   have hb:gb (ptS E ins n v).2 v=false:=by cases hb:gb (ptS E ins n v).2 v with|false=>rfl|true=>exact absurd (.inr hb) hc
   have hl:=(Ql (E:=E) (ins:=ins) (n:=n) v).1
   rw [Wg ha hb]
   have hsub: ∀p∈(ptS E ins n v).1,p∈(if 0<(yZ E ins v n).length then(ptS E ins n v).1++ [yZ E ins v n]else(ptS E ins n v).1):=fun p hp=>by
    split
    ·exact List.mem_append_left _ hp
    ·exact hp
   have hnew: ∀x:Int,x∈yZ E ins v n→yZ E ins v n∈(if 0<(yZ E ins v n).length then(ptS E ins n v).1++ [yZ E ins v n]else(ptS E ins n v).1):=fun x hx=>by
    rw [if_pos (List.length_pos_of_mem hx)]
    simp
   refine⟨fun x hx=> ?_,fun z hz hi hr=> ?_⟩
   ·simp only at hx⊢
    rcases(kn (fun u hu=>by rw [hl];exact Vc hu)).1 hx with h3|h3
    ·obtain⟨p,h4,h5⟩:=h1 x h3
     exact⟨p,hsub p h4,h5⟩
    ·exact⟨_,hnew _ h3,h3⟩
   ·simp only
    by_cases e:z=v
    ·subst e
     have :(z:Int)∈yZ E ins z n:=(Wb (by omega)).2 ⟨by omega,hr,hr,hr⟩
     exact⟨_,hnew _ this,this⟩
    ·obtain⟨p,h4,h5⟩:=h2 z (by omega) hi hr
     exact⟨p,hsub p h4,h5⟩
theorem zEu {q:List Int}{L:List (List Int)}{d:List Bool}{y:Nat}(h: ∀j,j<L.length→∀u∈gl L j,0≤u∧u<(d.length:Nat)): ∀k,k≤L.length→(gb (brP q L d k) y=true↔gb d y=true∨∃j,j<k∧vb q (gl L j)=true∧(y:Int)∈gl L j)
 |0,_=>by
  constructor
  ·exact .inl
  ·rintro(h|⟨j,hj,-⟩)
   ·exact h
   ·omega
 |k+1,hk=>by
  have ih:=zEu (q:=q) (y:=y) h k (by omega)
  cases hm:vb q (gl L k)with
  |true=>
   rw [zCc hm,kn (fun u hu=>by rw [JC];exact h k (by omega) u hu),ih]
   constructor
   ·rintro((h1|⟨j,h1,h2⟩)|h1)
    ·exact .inl h1
    ·exact .inr ⟨j,by omega,h2⟩
    ·exact .inr ⟨k,by omega,hm,h1⟩
   ·rintro(h1|⟨j,h1,h2⟩)
    ·exact .inl (.inl h1)
    ·by_cases e:j=k
     ·subst e;exact .inr h2.2
     ·exact .inl (.inr ⟨j,by omega,h2⟩)
  |false=>
   rw [zEv hm,ih]
   constructor
   ·rintro(h1|⟨j,h1,h2⟩)
    ·exact .inl h1
    ·exact .inr ⟨j,by omega,h2⟩
   ·rintro(h1|⟨j,h1,h2⟩)
    ·exact .inl h1
    ·by_cases e:j=k
     ·subst e;rw [hm]at h2;cases h2.1
     ·exact .inr ⟨j,by omega,h2⟩
theorem glB {L:List (List Int)}{j:Nat}(h:j<L.length):gl L j∈L:=List.mem_of_getElem? (zFN h)
theorem zAJ {E:List (List Int)}{n:Nat}{ps:List Pr}{y:Nat}: ∀i,(gb (brA E n ps i) y=true↔∃i',i'<i∧∃p∈(ptS E (opI (gp ps i').give n) n n).1,vb (gp ps i').ask p=true∧(y:Int)∈p)
 |0=>by
  constructor
  ·intro h;simp only [brA]at h;rw [jE]at h;cases h
  ·rintro⟨i,h,-⟩;omega
 |i+1=>by
  have ih:=zAJ (E:=E) (n:=n) (ps:=ps) (y:=y) i
  have h9:=(Ql (E:=E) (ins:=opI (gp ps i).give n) (n:=n) n).2.2
  simp only [brA]
  rw [zEu (fun j hj u hu=>by rw [JB];exact(h9 _ (glB hj)).2 u hu) _ (Nat.le_refl _),ih]
  constructor
  ·rintro(⟨i',h1,h2⟩|⟨j,h1,h2,h3⟩)
   ·exact⟨i',by omega,h2⟩
   ·exact⟨i,by omega,_,glB h1,h2,h3⟩
  ·rintro⟨i',h1,p,h2,h3,h4⟩
   by_cases e:i'=i
   ·subst e
    obtain⟨j,hj,rfl⟩:=zC4 h2
    exact .inr ⟨j,hj,h3,h4⟩
   ·exact .inl ⟨i',by omega,p,h2,h3,h4⟩
theorem JP {a b:List Int}:vb a b=true↔∃x,x∈a∧x∈b:=by
 unfold vb
 rw [List.any_eq_true]
 constructor
 ·rintro⟨x,h1,h2⟩;exact⟨x,h1,(yg _ _).1 h2⟩
 ·rintro⟨x,h1,h2⟩;exact⟨x,h1,(yg _ _).2 h2⟩
theorem zGm {E:List (List Int)}{n:Nat}{ps:List Pr}{y:Nat}(h:gb (brA E n ps ps.length) y=true): ∃i,i<ps.length∧∃z:Nat,z<n∧zn (gp ps i).ask (z:Int)=true∧Rch E (opI (gp ps i).give n) y z∧Rch E (opI (gp ps i).give n) z z:=by
 obtain⟨i,hi,p,h1,h2,h3⟩:=(zAJ _).1 h
 obtain⟨w,hw,rfl⟩:=zDB _ p h1
 obtain⟨x,hx1,hx2⟩:=JP.1 h2
 have hr:=Vc hx2
 obtain⟨z,rfl⟩: ∃z:Nat,x=(z:Int):=⟨x.toNat,by omega⟩
 obtain⟨q1,q2,q3,q4⟩:=(Wb hw).1 hx2
 obtain⟨r1,r2,r3,r4⟩:=(Wb hw).1 h3
 exact⟨i,hi,z,q1,(yg _ _).2 hx1,r4.trans q3,q4.trans q3⟩
theorem zGl {E:List (List Int)}{n:Nat}{ps:List Pr}{i z:Nat}(hi:i<ps.length)(hz:z<n)(ha:zn (gp ps i).ask (z:Int)=true)(hr:Rch E (opI (gp ps i).give n) z z):gb (brA E n ps ps.length) z=true:=by
 obtain⟨p,h1,h2⟩:=(zDA (E:=E) (ins:=opI (gp ps i).give n) (n:=n) n (Nat.le_refl _)).2 z hz hr.last hr
 exact(zAJ _).2 ⟨i,hi,p,h1,JP.2 ⟨z,(yg _ _).1 ha,h2⟩,h2⟩
def aN (P:List Plc)(x:Nat):Nat:=(gq P x).at_.toNat
structure Sim (X:List (List Int))(P:List Plc)(F:List (List Int))(n:Nat)(s:Int):Prop where
 xl:X.length=P.length
 fl: ∀v u,u∈gl F v→0≤u∧u<(n:Int)
 rg: ∀x,x<P.length→0≤(gq P x).at_∧(gq P x).at_<n
 fw: ∀x,x<P.length→∀u∈gl X x,(0≤u∧u<(P.length:Nat))∧(gq P u.toNat).at_∈gl F (aN P x)
 bw: ∀x,x<P.length→∀w∈gl F (aN P x),∃u∈gl X x,(gq P u.toNat).at_=w
 inj: ∀x y,x<P.length→y<P.length→(gq P x).at_=(gq P y).at_→x=y
 ps:0<P.length
 st:(gq P 0).at_=s
 rc: ∀x,x<P.length→Rcx (edR F) s.toNat (aN P x)
section
variable {X F:List (List Int)} {P:List Plc} {n:Nat} {s:Int} {g:List Int}
theorem Sim.aN (h:Sim X P F n s){x:Nat}(hx:x<P.length):((aN P x:Nat):Int)=(gq P x).at_∧aN P x<n:=by
 have :=h.rg x hx
 unfold Go.Proofs.Ytggpbepdeilpgaa.aN
 omega
theorem zFo {x:Nat}(hx:x<n):gb (opI g n) x= !zn g (x:Int):=YR hx
theorem Sim.win (h:Sim X P F n s){x:Nat}(hx:x<P.length):gb (opW g P P.length) x=gb (opI g n) (Go.Proofs.Ytggpbepdeilpgaa.aN P x):=by
 rw [zKv hx,zFo (h.aN hx).2,(h.aN hx).1]
theorem Sim.find (h:Sim X P F n s){b w:Nat}(hr:Rcx (edR F) b w): ∀x,x<P.length→Go.Proofs.Ytggpbepdeilpgaa.aN P x=b→∃y,y<P.length∧Go.Proofs.Ytggpbepdeilpgaa.aN P y=w:=by
 induction hr with
 |refl b=>exact fun x hx e=>⟨x,hx,e⟩
 | @step b c w h1 _ ih=>
  intro x hx e
  subst e
  obtain⟨u,hu,e2⟩:=h.bw x hx c h1
  obtain⟨h3,-⟩:=h.fw x hx u hu
  refine ih u.toNat (by omega) ?_
  unfold Go.Proofs.Ytggpbepdeilpgaa.aN
  omega
theorem Sim.get (h:Sim X P F n s){w:Nat}(hr:Rcx (edR F) s.toNat w): ∃y,y<P.length∧Go.Proofs.Ytggpbepdeilpgaa.aN P y=w:=h.find hr 0 h.ps (by unfold Go.Proofs.Ytggpbepdeilpgaa.aN;rw [h.st])
theorem Sim.hop (h:Sim X P F n s){x y:Nat}(hx:x<P.length)(hh:yd X (opW g P P.length) x y):y<P.length∧yd F (opI g n) (Go.Proofs.Ytggpbepdeilpgaa.aN P x) (Go.Proofs.Ytggpbepdeilpgaa.aN P y):=by
 obtain⟨h1,h2,h3⟩:=hh
 obtain⟨h4,h5⟩:=h.fw x hx y h3
 have hy:y<P.length:=by omega
 rw [Int.toNat_natCast]at h5
 exact⟨hy,by rw [←h.win hx];exact h1,by rw [←h.win hy];exact h2,by rw [(h.aN hy).1];exact h5⟩
theorem Sim.way (h:Sim X P F n s){x y:Nat}(hr:Rcx (yd X (opW g P P.length)) x y):x<P.length→y<P.length∧Rcx (yd F (opI g n)) (Go.Proofs.Ytggpbepdeilpgaa.aN P x) (Go.Proofs.Ytggpbepdeilpgaa.aN P y):=by
 induction hr with
 |refl x=>exact fun hx=>⟨hx, .refl _⟩
 |step h1 _ ih=>
  intro hx
  obtain⟨h2,h3⟩:=h.hop hx h1
  obtain⟨h4,h5⟩:=ih h2
  exact⟨h4, .step h3 h5⟩
theorem Sim.down (h:Sim X P F n s){x w:Nat}(hx:x<P.length)(hh:yd F (opI g n) (Go.Proofs.Ytggpbepdeilpgaa.aN P x) w): ∃y,y<P.length∧Go.Proofs.Ytggpbepdeilpgaa.aN P y=w∧yd X (opW g P P.length) x y:=by
 obtain⟨h1,h2,h3⟩:=hh
 obtain⟨u,hu,e2⟩:=h.bw x hx w h3
 obtain⟨h4,-⟩:=h.fw x hx u hu
 obtain⟨y,rfl⟩: ∃y:Nat,u=(y:Int):=⟨u.toNat,by omega⟩
 rw [Int.toNat_natCast]at e2
 have hy:y<P.length:=by omega
 have e3:Go.Proofs.Ytggpbepdeilpgaa.aN P y=w:=by have :=(h.aN hy).1;omega
 exact⟨y,hy,e3,by rw [h.win hx];exact h1,by rw [h.win hy,e3];exact h2,hu⟩
theorem Sim.lift (h:Sim X P F n s){b w:Nat}(hr:Rcx (yd F (opI g n)) b w): ∀x,x<P.length→Go.Proofs.Ytggpbepdeilpgaa.aN P x=b→∃y,y<P.length∧Go.Proofs.Ytggpbepdeilpgaa.aN P y=w∧Rcx (yd X (opW g P P.length)) x y:=by
 induction hr with
 |refl b=>exact fun x hx e=>⟨x,hx,e, .refl _⟩
 |step h1 _ ih=>
  intro x hx e
  subst e
  obtain⟨y,h2,h3,h4⟩:=h.down hx h1
  obtain⟨z,h5,h6,h7⟩:=ih y h2 h3
  exact⟨z,h5,h6, .step h4 h7⟩
theorem Sim.loop (h:Sim X P F n s){x:Nat}(hx:x<P.length):ZM X (opW g P P.length) x↔ZM F (opI g n) (Go.Proofs.Ytggpbepdeilpgaa.aN P x):=by
 constructor
 ·rintro⟨y,h1,h2⟩
  obtain⟨h3,h4⟩:=h.hop hx h1
  exact⟨_,h4,(h.way h2 h3).2⟩
 ·rintro⟨w,h1,h2⟩
  obtain⟨y,h3,h4,h5⟩:=h.down hx h1
  obtain⟨z,h6,h7,h8⟩:=h.lift h2 y h3 h4
  have :z=x:=h.inj z x h6 hx (by rw [←(h.aN h6).1,←(h.aN hx).1,h7])
  subst this
  exact⟨y,h5,h8⟩
theorem Sim.gr (h:Sim X P F n s)(hF:F.length=n)(g:List Int):Gr n F (opI g n):=⟨hF,zC7 g n,h.fl⟩
theorem Sim.bad (h:Sim X P F n s)(hF:F.length=n){p:Pr}{x:Nat}:Xv X P p x↔x<P.length∧zn p.ask ((Go.Proofs.Ytggpbepdeilpgaa.aN P x:Nat):Int)=true∧Rch F (opI p.give n) (Go.Proofs.Ytggpbepdeilpgaa.aN P x) (Go.Proofs.Ytggpbepdeilpgaa.aN P x):=by
 constructor
 ·rintro⟨h1,h2,h3⟩
  have h4:=(h.loop h1).1 h3
  have hw:gb (opI p.give n) (Go.Proofs.Ytggpbepdeilpgaa.aN P x)=true:=by obtain⟨y,h5,-⟩:=h4;exact h5.1
  exact⟨h1,by rw [(h.aN h1).1];exact h2,(zA1 (h.gr hF _) hw).1 h4⟩
 ·rintro⟨h1,h2,h3⟩
  exact⟨h1,by rw [←(h.aN h1).1];exact h2,(h.loop h1).2 ((zA1 (h.gr hF _) h3.last).2 h3)⟩
theorem Sim.tells (h:Sim X P F n s)(hF:F.length=n)(hs:0≤s∧s<n){ps:List Pr}:(∀i,i<ps.length→∀x,¬Xv X P (gp ps i) x)↔zn (xL (we F (brA F n ps ps.length) n) n) s=false:=by
 have hst:(zn (xL (we F (brA F n ps ps.length) n) n) s=true)↔∃y,Rcx (edR F) s.toNat y∧gb (brA F n ps ps.length) y=true:=by
  rw [yg,wy]
  constructor
  ·rintro⟨v,h1,h2,h3⟩
   have :s.toNat=v:=by omega
   rw [this]
   exact(jy h1).1 h2
  ·intro h2
   exact⟨s.toNat,by omega,(jy (by omega)).2 h2,by omega⟩
 constructor
 ·intro hno
  cases hb:zn (xL (we F (brA F n ps ps.length) n) n) s with
  |false=>rfl
  |true=>
   exfalso
   obtain⟨y,h1,h2⟩:=hst.1 hb
   obtain⟨i,hi,z,h3,h4,h5,h6⟩:=zGm h2
   obtain⟨x,h7,h8⟩:=h.get (h1.trans (h5.rcx h.fl))
   exact hno i hi x ((h.bad hF).2 ⟨h7,by rw [h8];exact h4,by rw [h8];exact h6⟩)
 ·intro hb i hi x hx
  obtain⟨h1,h2,h3⟩:=(h.bad hF).1 hx
  have :=hst.2 ⟨_,h.rc x h1,zGl hi (h.aN h1).2 h2 h3⟩
  rw [hb]at this
  cases this
end
theorem wD {a:Ar}{who:Int}{plan:List Int}(h:yU a who plan=true):plan.length=a.owner.length∧∀v,v<a.owner.length→gi plan v= -1∨(gi a.owner v=who∧gi plan v∈gl a.next v):=by
 unfold yU at h
 rw [Bool.and_eq_true,decide_eq_true_eq]at h
 refine⟨h.1,fun v hv=> ?_⟩
 have :=xt h.2 (show v<plan.length by omega)
 unfold vQ at this
 rw [Bool.or_eq_true,Bool.and_eq_true,decide_eq_true_eq,decide_eq_true_eq,yg]at this
 exact this
theorem zBN {a:Ar}(ha:zu a=true){v:Nat}(hv:v<a.owner.length){u:Int}(hu:u∈gl a.next v):0≤u∧u<(a.owner.length:Nat):=by
 obtain⟨j,hj,rfl⟩:=Yp hu
 exact KW (xO ha hv).2.2.2.2 hj
def mPl (plan:List Int):Me:=⟨[List.replicate plan.length 0],[plan]⟩
section
variable {a:Ar} {plan:List Int} {s:Int}
theorem zFc (ha:zu a=true)(hp:yU a 0 plan=true):va a (mPl plan)=true:=by
 refine zA4 ⟨Nat.le_refl 1,show 1≤24 by decide,rfl⟩ fun t ht=> ?_
 have ht0:t=0:=by simp [mPl]at ht;exact ht
 subst ht0
 refine uj ?_ hp fun v hv=> ?_
 ·show(List.replicate plan.length (0:Int)).length=_
  rw [List.length_replicate]
  exact(wD hp).1
 ·show 0≤gi (List.replicate plan.length (0:Int)) v∧gi (List.replicate plan.length (0:Int)) v<_
  have :gi (List.replicate plan.length (0:Int)) v=0:=by
   unfold gi
   rw [List.getD_eq_getElem?_getD,List.getElem?_replicate]
   split<;>rfl
  rw [this]
  exact⟨Int.le_refl 0,show(0:Int)<1 by decide⟩
theorem Yn (ha:zu a=true){v:Nat}(hv:v<a.owner.length):gl (xm a plan).next v=if 0≤gi plan v then [gi plan v]else gl a.next v:=zIw (by rw [(zl ha).2.2];exact hv)
theorem JF (ha:zu a=true):(xm a plan).next.length=a.owner.length:=(VL (Nat.le_refl _)).trans (zl ha).2.2
theorem zFC (ha:zu a=true)(hp:yU a 0 plan=true)(v:Nat)(u:Int)(hu:u∈gl (xm a plan).next v):0≤u∧u<(a.owner.length:Int):=by
 have hv:=JK hu
 rw [JF ha]at hv
 rw [Yn ha hv]at hu
 split at hu
 ·rw [List.mem_singleton]at hu
  subst hu
  rcases(wD hp).2 v hv with h1|⟨-,h1⟩
  ·omega
  ·exact zBN ha hv h1
 ·exact zBN ha hv hu
theorem zBd (ha:zu a=true)(hp:yU a 0 plan=true)(hfull: ∀v,v<a.owner.length→gi a.owner v=0→0≤gi plan v){p:Plc}(hok:OkM a (mPl plan) p):usM a (mPl plan) p=gl (xm a plan).next p.at_.toNat∧gi p.record 0=0:=by
 obtain⟨h1,h2,h3,h4,h5⟩:=hok
 have h5':gi p.record 0<1:=h5
 have h6:gi p.record 0=0:=by omega
 have hv:p.at_.toNat<a.owner.length:=by omega
 refine⟨?_,h6⟩
 have hch:chM a (mPl plan) p=gi plan p.at_.toNat:=by unfold chM;rw [h6];rfl
 rw [Yn ha hv]
 by_cases ho:gi a.owner p.at_.toNat=0
 ·have :=hfull _ hv ho
  rw [JY ho (by rw [hch];omega),hch,if_pos this]
 ·rw [Qs ho]
  rcases(wD hp).2 _ hv with h7|⟨h7,-⟩
  ·rw [if_neg (by omega)]
  ·exact absurd h7 ho
end
theorem zK5 {a:Ar}{m:Me}{s:Int}(h:MmI a m s){x:Nat}(hx:x<(stM a m s 6145).length){j:Nat}(hj:j<(usM a m (gq (stM a m s 6145) x)).length):gq (stM a m s 6145) (gi (gl (rsM a m s (stM a m s 6145).length) x) j).toNat=⟨gi (usM a m (gq (stM a m s 6145) x)) j,rcM m (gq (stM a m s 6145) x)⟩:=by
 obtain⟨hx2,hq⟩:=zH2 h hx
 rw [zH7 hx]
 unfold rwM
 rw [←hq]at hj⊢
 obtain⟨h1,h2⟩:=zBL (r:=rcM m (gq (stM a m s x) x)) (us:=usM a m (gq (stM a m s x) x)) (ps:=stM a m s x) (k:=(usM a m (gq (stM a m s x) x)).length) (Nat.le_refl _) j hj
 rw [←jg hx2]at h1 h2
 have hf:=jA h 6145
 have :=JV (us:=usM a m) (rc:=rcM m) (p0:=⟨s,[0]⟩) (i:=x+1) (k:=(gi (zt (rcM m (gq (stM a m s x) x)) (usM a m (gq (stM a m s x) x)) (stM a m s x) (usM a m (gq (stM a m s x) x)).length).2 j).toNat) (by have h3:=h1;unfold stM at h3⊢;omega) (6145 - (x+1))
 rw [show x+1+(6145 - (x+1))=6145 by omega]at this
 exact this.trans h2
theorem zHJ {P:List Plc}(h:P.Nodup){x y:Nat}(hx:x<P.length)(hy:y<P.length)(e:gq P x=gq P y):x=y:=by
 rw [←zAj hx,←zAj hy]at e
 have h2:=List.pairwise_iff_getElem.1 h
 rcases Nat.lt_trichotomy x y with h1|h1|h1
 ·exact absurd e (h2 x y hx hy h1)
 ·exact h1
 ·exact absurd e.symm (h2 y x hy hx h1)
theorem zHc {a:Ar}{plan:List Int}{s:Int}(ha:zu a=true)(hp:yU a 0 plan=true)(hfull: ∀v,v<a.owner.length→gi a.owner v=0→0≤gi plan v)(hs:0≤s∧s<a.owner.length):
  Sim (rsM a (mPl plan) s (stM a (mPl plan) s 6145).length) (stM a (mPl plan) s 6145) (xm a plan).next a.owner.length s:=by
 have hm:MmI a (mPl plan) s:=⟨ha,zFc ha hp,hs⟩
 have hok:=vJ hm 6145
 have hus:=fun p hp9=>zBd ha hp hfull (hok p hp9)
 have hrow:=fun x (hx:x<(stM a (mPl plan) s 6145).length)=>je hm hx
 have hpl:=fun x (hx:x<(stM a (mPl plan) s 6145).length) j hj=>zK5 hm hx (j:=j) hj
 refine⟨Yt _ _ _ _,zFC ha hp,fun x hx=> ?_,fun x hx u hu=> ?_,fun x hx w hw=> ?_,fun x y hx hy e=> ?_,zIC hm,by rw [zGv hm],fun x hx=> ?_⟩
 ·have :=hok _ (xz hx)
  exact⟨this.1,this.2.1⟩
 ·obtain⟨h1,h2⟩:=hrow x hx
  refine⟨h2 u hu,?_⟩
  obtain⟨j,hj,rfl⟩:=Yp hu
  rw [hpl x hx j (by omega)]
  show gi _ j∈_
  unfold aN
  rw [←(hus _ (xz hx)).1]
  exact WP (by omega)
 ·obtain⟨h1,h2⟩:=hrow x hx
  unfold aN at hw
  rw [←(hus _ (xz hx)).1]at hw
  obtain⟨j,hj,rfl⟩:=Yp hw
  refine⟨gi (gl (rsM a (mPl plan) s (stM a (mPl plan) s 6145).length) x) j,WP (by omega),?_⟩
  rw [hpl x hx j hj]
 ·refine zHJ (zLC _) hx hy (zFv e ?_)
  have h1:=(hok _ (xz hx)).2.2.1
  have h2:=(hok _ (xz hy)).2.2.1
  rw [(hus _ (xz hx)).2]at h1
  rw [(hus _ (xz hy)).2]at h2
  rw [h1,h2]
 ·have key: ∀p∈stM a (mPl plan) s 6145,OkM a (mPl plan) p∧Rcx (edR (xm a plan).next) s.toNat p.at_.toNat:=by
   refine Qo (O:=fun p=>OkM a (mPl plan) p∧Rcx (edR (xm a plan).next) s.toNat p.at_.toNat) ⟨hok _ (zCj hm), .refl _⟩ (fun p hp9 u hu=> ?_) 6145
   obtain⟨h1,h2⟩:=hp9
   obtain⟨h3,h4,h5,h6⟩:=Wn hm h1
   have h7:=h4 u hu
   refine⟨⟨h7.1,h7.2,rfl,h5,h6⟩,h2.trans (.one ?_)⟩
   unfold edR
   show((u.toNat:Nat):Int)∈_
   rw [Int.toNat_of_nonneg h7.1,←(zBd ha hp hfull h1).1]
   exact hu
  exact(key _ (xz hx)).2
end Go.Proofs.Ytggpbepdeilpgaa
