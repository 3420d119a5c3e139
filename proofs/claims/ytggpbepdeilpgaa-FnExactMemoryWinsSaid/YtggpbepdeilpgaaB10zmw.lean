/- l19Back: is there a way back -/
import Derived.Test.YtggpbepdeilpgaaB7zmw
import Derived.Test.YtggpbepdeilpgaaB9zmw
import Derived.Test.YtggpbepdeilpgaaB4zmw
import Derived.Test.YtggpbepdeilpgaaB5zmw
import Derived.Test.YtggpbepdeilpgaaB6zmw
namespace Go.Proofs.Ytggpbepdeilpgaa
open Nat renaming reduceMod → zA, reduceMul → zB, reduceDiv → zC, reduceAdd → zD, reduceSub → zE, reduceEqDiff → zF, reduceBEq → zG, reduceLT → zH, reduceLeDiff → zI
open Go.RowKit
set_option linter.unusedVariables false
set_option linter.unusedSimpArgs false
def vu (s:List Bool):List Bool:=s.map fun b=> !b
theorem zE7 {s:List Bool}{u:Nat}(h:u<s.length):gb (vu s) u= !gb s u:=by
 unfold gb vu
 rw [List.getD_eq_getElem?_getD,List.getD_eq_getElem?_getD,List.getElem?_map,List.getElem?_eq_getElem h]
 rfl
theorem zFg {E:List (List Int)}{ins:List Bool}{v x z:Nat}(h:Rcx (yl E ins) x z):Rch E ins v x→Rch E ins v z:=by
 induction h with
 |refl=>exact fun h=>h
 | @step x y z h1 _ ih=>
  intro hx
  obtain⟨-,h2,h3⟩:=h1
  obtain⟨j,hj,e⟩:=List.getElem_of_mem h3
  have e2:gi (gl E x) j=(y:Int):=by
   unfold gi
   rw [List.getD_eq_getElem?_getD,List.getElem?_eq_getElem hj]
   exact e
  have :=Rch.step hx hj (by rw [e2];exact h2)
  rw [e2]at this
  exact ih this
theorem zFf {n:Nat}{E:List (List Int)}{ins:List Bool}(hg:Gr n E ins){v u:Nat}(hv:gb ins v=true)(h:Rch E ins v u):gb ins u=true∧∃y,yl E ins v y∧Rcx (yl E ins) y u:=by
 have key: ∀{x j:Nat},gb ins x=true→j<(gl E x).length→gb ins (gi (gl E x) j).toNat=true→yl E ins x (gi (gl E x) j).toNat:=fun{x j} hx hj hb=>by
  have hm:=Yu hj
  have :=hg.rng x _ hm
  exact⟨hx,hb,by rw [Int.toNat_of_nonneg this.1];exact hm⟩
 induction h with
 |one hj hb=>exact⟨hb,_,key hv hj hb, .refl _⟩
 |step _ hj hb ih=>
  obtain⟨h1,y,h2,h3⟩:=ih
  exact⟨hb,y,h2,h3.trans (.one (key h1 hj hb))⟩
theorem uH {n:Nat}{E:List (List Int)}{ins:List Bool}(hg:Gr n E ins){v:Nat}(hv:gb ins v=true):ZR E ins v↔Rch E ins v v:=by
 constructor
 ·rintro⟨y,h1,h2⟩
  obtain⟨-,h3,h4⟩:=h1
  obtain⟨j,hj,e⟩:=List.getElem_of_mem h4
  have e2:gi (gl E v) j=(y:Int):=by
   unfold gi
   rw [List.getD_eq_getElem?_getD,List.getElem?_eq_getElem hj]
   exact e
  have :=Rch.one (E:=E) (ins:=ins) (v:=v) hj (by rw [e2];exact h3)
  rw [e2]at this
  exact zFg h2 this
 ·intro h
  obtain⟨-,y,h1,h2⟩:=zFf hg hv h
  exact⟨y,h1,h2⟩
set_option maxRecDepth 20000 in
set_option maxHeartbeats 8000000 in
theorem zA4 (E:List (List Int))(shut:List Bool)(v n:Nat)(hv:v<n)(hn:n≤6144)(hEn:E.length=n)(hIn:shut.length=n)(hEd: ∀x,x<n→(gl E x).length≤256)(hE9: ∀x,x<n→∀j,j<(gl E x).length→0≤gi (gl E x) j∧gi (gl E x) j<n)(hvs:gb shut v=false):Fn Try.prog tyT 37 [.c (DII E), .c (.lst 4 (dB shut)), .c (.int .i64 v)] [.c (.bool (gb (Zl E (vu shut) v n) v))]:=by
 have hfin:=fun out h=>ByI.fin (E:=E) (ins:=vu shut) (n:=n) (v:=v) (out:=out) h hv hE9
 have hRv:=fun h=>(Qx (E:=E) (ins:=vu shut) (v:=v) (u:=v) hv).2 h
 have hnb:=fun u (h:u<n)=>zE7 (s:=shut) (u:=u) (by omega)
 generalize Zl E (vu shut) v n=R at hfin hRv⊢
 refine yC (fn:=Try.f37) (ts:= [6]) Try.func37 (by kernel_rfl) rfl rfl (by rw [Try.ntmps37];exact Nat.le_of_ble_eq_true rfl) rfl (by simp only [szA,List.mem_cons,List.not_mem_nil,or_false,forall_eq_or_imp,forall_eq,VT.cells,szL];try decide) ?_
 rw [Try.ntmps37]
 simp only [push_cast,↓zK,↓zJ,↓reduceIte,zA,zB,zC,zD,zE,zF,zG,zH,zI,reduceCtorEq]
 refine zL fun K hK=> ?_
 refine zM zQ zO [] rfl ?_
 all_goals simp only [push_cast,↓zK,↓zJ,↓reduceIte,zA,zB,zC,zD,zE,zF,zG,zH,zI,reduceCtorEq]
 all_goals repeat'(first|(apply zP<;>(intro hg;(try simp only [push_cast]at hg)))|apply And.intro|(intro hg;(try simp only [push_cast]at hg)))
 all_goals first|exact gA|(exact zN (by omega))|skip
 all_goals first|(refine hK _ ?_;clear hK K)|(simp only [push_cast];done)
 (try rw [hEn])
 refine zL fun K hK=> ?_
 refine zM zQ zO [] rfl ?_
 all_goals simp only [push_cast,↓zK,↓zJ,↓reduceIte,zA,zB,zC,zD,zE,zF,zG,zH,zI,reduceCtorEq]
 all_goals repeat'(first|(apply zP<;>(intro hg;(try simp only [push_cast]at hg)))|apply And.intro|(intro hg;(try simp only [push_cast]at hg)))
 all_goals first|exact gA|(exact zN (by omega))|skip
 all_goals first|(refine hK _ ?_;clear hK K)|(simp only [push_cast];done)
 refine zL fun K hK=> ?_
 refine zM zQ zO [] rfl ?_
 all_goals simp only [push_cast,↓zK,↓zJ,↓reduceIte,zA,zB,zC,zD,zE,zF,zG,zH,zI,reduceCtorEq]
 all_goals repeat'(first|(apply zP<;>(intro hg;(try simp only [push_cast]at hg)))|apply And.intro|(intro hg;(try simp only [push_cast]at hg)))
 all_goals first|exact gA|(exact zN (by omega))|skip
 all_goals first|(refine hK _ ?_;clear hK K)|(simp only [push_cast];done)
 refine zL fun K1 hK1=> ?_
 refine zX ?_
 refine zn [6,8,9,10,11,17,18,19,20,21,22,23,24,25,26,27,28,29,30,31,32,33,34,35,36,37,38,39,40,41,42,43,44,45,46,47,48,49,50,51,52,53,54,55,56,57,58,59,60,61,62,63,64,65,66,67,68] [112,128] (fun(p:List Bool×List Int×List Int)=> [(7, .sl 112 [] 0 n 4),(8, .sl 128 [] 0 p.2.1.length 2)]) (fun p=> []) (fun p=> [(112,⟨.ex,4,dB p.1,none⟩),(128,⟨.ex,2,dI p.2.2,none⟩)]) (fun p=>ByI E (vu shut) n v (fun _ _=>False) p.1 p.2.1∧p.2.2.take p.2.1.length=p.2.1∧2*(n - wQ p.1 n)+p.2.1.length≤2*n+1∧gb p.1 v=false) (fun p=>2*(n - wQ p.1 n)+p.2.1.length) (List.replicate n false,[(v:Int)],[(v:Int)]) ?_ ⟨ByI.start hv,rfl,by dsimp only;simp only [List.length_cons,List.length_nil];omega,kq⟩ ?_
 ·
  refine zb rfl ?_ ?_ ?_<;>simp only [zj,zi,push_cast,↓zK,↓zJ,↓reduceIte,zA,zB,zC,zD,zE,zF,zG,zH,zI,reduceCtorEq]
  all_goals first|rfl|skip
 ·rintro⟨out,td,fl⟩ ⟨hI,hpre,hMb,hvf⟩ KL0 hL0
  dsimp only at hI hpre hMb hvf
  have hpl:=zAP hpre
  have hlo0:=hI.lo
  simp only [push_cast,↓zK,↓zJ,↓reduceIte,zA,zB,zC,zD,zE,zF,zG,zH,zI,reduceCtorEq]
  refine zL fun K2 hK2=> ?_
  refine zL fun K hK=> ?_
  refine zM zQ zO [] rfl ?_
  all_goals simp only [push_cast,↓zK,↓zJ,↓reduceIte,zA,zB,zC,zD,zE,zF,zG,zH,zI,reduceCtorEq]
  all_goals repeat'(first|(apply zP<;>(intro hg;(try simp only [push_cast]at hg)))|apply And.intro|(intro hg;(try simp only [push_cast]at hg)))
  all_goals first|exact gA|(exact zN (by omega))|skip
  all_goals first|(refine hK _ ?_;clear hK K)|(simp only [push_cast];done)
  refine zU rfl (fun hc=> ?_) (fun hc=> ?_)<;>(try simp only [push_cast]at hc)
  ·
   refine zV ?_
   (try simp only [zS,zT,reduceIte,zF]);refine hK2 _ ?_
   refine zX ?_
   have hlo:=hI.lo
   have hla:=hI.last (by omega)
   have hpg:=zGt hpre (i:=td.length - 1) (by omega)
   refine zL fun K hK=> ?_
   refine zM zQ zO [] rfl ?_
   all_goals simp only [push_cast,↓zK,↓zJ,↓reduceIte,zA,zB,zC,zD,zE,zF,zG,zH,zI,reduceCtorEq]
   all_goals repeat'(first|(apply zP<;>(intro hg;(try simp only [push_cast]at hg)))|apply And.intro|(intro hg;(try simp only [push_cast]at hg)))
   all_goals first|exact gA|(exact zN (by omega))|skip
   all_goals first|(refine hK _ ?_;clear hK K)|(simp only [push_cast];done)
   refine zL fun K hK=> ?_
   refine zM zQ zO [] rfl ?_
   all_goals simp only [push_cast,↓zK,↓zJ,↓reduceIte,zA,zB,zC,zD,zE,zF,zG,zH,zI,reduceCtorEq]
   all_goals repeat'(first|(apply zP<;>(intro hg;(try simp only [push_cast]at hg)))|apply And.intro|(intro hg;(try simp only [push_cast]at hg)))
   all_goals first|exact gA|(exact zN (by omega))|skip
   all_goals first|(refine hK _ ?_;clear hK K)|(simp only [push_cast];done)
   have hpop:=hI.pop (by omega)
   have hdl:td.dropLast.length=td.length - 1:=List.length_dropLast
   refine zL fun K hK=> ?_
   refine zM zQ zO [] rfl ?_
   all_goals simp only [push_cast,↓zK,↓zJ,↓reduceIte,zA,zB,zC,zD,zE,zF,zG,zH,zI,reduceCtorEq]
   all_goals repeat'(first|(apply zP<;>(intro hg;(try simp only [push_cast]at hg)))|apply And.intro|(intro hg;(try simp only [push_cast]at hg)))
   all_goals first|exact gA|(exact zN (by omega))|skip
   all_goals first|(refine hK _ ?_;clear hK K)|(simp only [push_cast];done)
   refine zX ?_
   obtain⟨x0,hx00⟩: ∃x0:Nat,gi td (td.length - 1)=(x0:Int):=⟨_,(Int.toNat_of_nonneg hla.1.1).symm⟩
   rw [hpg,hx00]
   rw [hx00,Int.toNat_natCast]at hla hpop
   have hx0n:x0<n:=by omega
   have hx0v:x0=v∨(x0<n∧gb out x0=true):=hla.2.imp id fun h=>⟨hx0n,h⟩
   obtain⟨M0,hM0⟩: ∃M0,2*(n - wQ out n)+td.length=M0:=⟨_,rfl⟩
   rw [hM0]at hMb
   refine zn [6,8,10,11,17,20,21,24,26,27,30,31,32,33,34,35,36,37,38,39,40,41,42,43,44,45,46,47,48,49,50,51,52,53,54,55,56,57,58,59,60,61,62,63,64,65,66,67,68] [112,128] (fun(p:Nat×List Bool×List Int×List Int)=> [(10, .int .i64 p.1),(7, .sl 112 [] 0 n 4),(8, .sl 128 [] 0 p.2.2.1.length 2)]) (fun p=> []) (fun p=> [(112,⟨.ex,4,dB p.2.1,none⟩),(128,⟨.ex,2,dI p.2.2.2,none⟩)]) (fun p=>p.1≤(gl E x0).length∧ByI E (vu shut) n v (fun x j=>x=x0∧p.1≤j) p.2.1 p.2.2.1∧p.2.2.2.take p.2.2.1.length=p.2.2.1∧2*(n - wQ p.2.1 n)+p.2.2.1.length<M0∧(x0=v∨(x0<n∧gb p.2.1 x0=true))∧gb p.2.1 v=false) (fun p=>(gl E x0).length - p.1) (0,out,td.dropLast,fl) ?_ ⟨Nat.zero_le _,hpop,by rw [hdl];exact zD7 hpre,by dsimp only;omega,hx0v,hvf⟩ ?_
   ·
    rw [hdl]
    skip
    refine zb rfl ?_ ?_ ?_<;>simp only [zj,zi,push_cast,↓zK,↓zJ,↓reduceIte,zA,zB,zC,zD,zE,zF,zG,zH,zI,reduceCtorEq]
   ·rintro⟨i,out,td,fl⟩ ⟨hi,hI2,hpre2,hM2,hx02,hvf2⟩ KL1 hL1
    dsimp only at hi hI2 hpre2 hM2 hx02 hvf2
    have hpl2:=zAP hpre2
    simp only [push_cast,↓zK,↓zJ,↓reduceIte,zA,zB,zC,zD,zE,zF,zG,zH,zI,reduceCtorEq]
    refine zL fun K3 hK3=> ?_
    refine zL fun K hK=> ?_
    refine zM zQ zO [] rfl ?_
    all_goals simp only [push_cast,↓zK,↓zJ,↓reduceIte,zA,zB,zC,zD,zE,zF,zG,zH,zI,reduceCtorEq]
    all_goals repeat'(first|(apply zP<;>(intro hg;(try simp only [push_cast]at hg)))|apply And.intro|(intro hg;(try simp only [push_cast]at hg)))
    all_goals first|exact gA|(exact zN (by omega))|skip
    all_goals first|(refine hK _ ?_;clear hK K)|(simp only [push_cast];done)
    refine zU rfl (fun hc=> ?_) (fun hc=> ?_)<;>(try simp only [push_cast]at hc)
    ·
     refine zV ?_
     (try simp only [zS,zT,reduceIte,zF]);refine hK3 _ ?_
     refine zL fun K4 hK4=> ?_
     refine zX ?_
     have hlo2:=hI2.lo
     have her:=hE9 x0 hx0n i (by omega)
     have hed:=hEd x0 hx0n
     have hnu:=hnb (gi (gl E x0) i).toNat (by omega)
     refine zL fun K hK=> ?_
     refine zM zQ zO [] rfl ?_
     all_goals simp only [push_cast,↓zK,↓zJ,↓reduceIte,zA,zB,zC,zD,zE,zF,zG,zH,zI,reduceCtorEq]
     all_goals repeat'(first|(apply zP<;>(intro hg;(try simp only [push_cast]at hg)))|apply And.intro|(intro hg;(try simp only [push_cast]at hg)))
     all_goals first|exact gA|(exact zN (by omega))|skip
     all_goals first|(refine hK _ ?_;clear hK K)|(simp only [push_cast];done)
     refine zL fun K5 hK5=> ?_
     refine zL fun K hK=> ?_
     refine zM zQ zO [] rfl ?_
     all_goals simp only [push_cast,↓zK,↓zJ,↓reduceIte,zA,zB,zC,zD,zE,zF,zG,zH,zI,reduceCtorEq]
     all_goals repeat'(first|(apply zP<;>(intro hg;(try simp only [push_cast]at hg)))|apply And.intro|(intro hg;(try simp only [push_cast]at hg)))
     all_goals first|exact gA|(exact zN (by omega))|skip
     all_goals first|(refine hK _ ?_;clear hK K)|(simp only [push_cast];done)
     refine zU rfl (fun hc=> ?_) (fun hc=> ?_)<;>(try simp only [push_cast]at hc)
     ·
      refine zL fun K hK=> ?_
      refine zM zQ zO [] rfl ?_
      all_goals simp only [push_cast,↓zK,↓zJ,↓reduceIte,zA,zB,zC,zD,zE,zF,zG,zH,zI,reduceCtorEq]
      all_goals repeat'(first|(apply zP<;>(intro hg;(try simp only [push_cast]at hg)))|apply And.intro|(intro hg;(try simp only [push_cast]at hg)))
      all_goals first|exact gA|(exact zN (by omega))|skip
      all_goals first|(refine hK _ ?_;clear hK K)|(simp only [push_cast];done)
      refine za ?_
      (try simp only [zS,zT])
      refine⟨Or.inl rfl,?_⟩
      simp only [ze,push_cast,↓zK,↓zJ,↓reduceIte,zA,zB,zC,zD,zE,zF,zG,zH,zI,reduceCtorEq]
      have huv:(gi (gl E x0) i).toNat=v:=by omega
      have hR:Rch E (vu shut) v (gi (gl E x0) i).toNat:=by
       have hin:gb (vu shut) (gi (gl E x0) i).toNat=true:=by rw [hnu,huv,hvs];rfl
       rcases hx02 with rfl|⟨hx,hb⟩
       ·exact .one (by omega) hin
       ·exact .step (hI2.snd _ hx hb) (by omega) hin
      rw [huv]at hR
      rw [hRv hR]
     ·
      refine zV ?_
      (try simp only [zS,zT,reduceIte,zF]);refine hK5 _ ?_
      refine zL fun K hK=> ?_
      refine zf false zQ zO ?_ rfl ?_
      ·kernel_rfl
      all_goals simp only [push_cast,↓zK,↓zJ,↓reduceIte,zA,zB,zC,zD,zE,zF,zG,zH,zI,reduceCtorEq]
      all_goals repeat'(first|(apply zP<;>(intro hg;(try simp only [push_cast]at hg)))|apply And.intro|(intro hg;(try simp only [push_cast]at hg)))
      all_goals first|exact gA|(exact zN (by omega))|skip
      all_goals first|(refine hK _ ?_;clear hK K)|(simp only [push_cast];done)
      all_goals refine zU rfl (fun hc=> ?_) (fun hc=> ?_)
      all_goals(first|(cases hc;done)|skip)
      all_goals(try simp only [push_cast]at hc)
      all_goals first
       |(
         refine zV ?_
         (try simp only [zS,zT,reduceIte,zF]);refine hK4 _ ?_
         refine zM zQ zO [] rfl ?_
         all_goals simp only [push_cast,↓zK,↓zJ,↓reduceIte,zA,zB,zC,zD,zE,zF,zG,zH,zI,reduceCtorEq]
         all_goals repeat'(first|(apply zP<;>(intro hg;(try simp only [push_cast]at hg)))|apply And.intro|(intro hg;(try simp only [push_cast]at hg)))
         all_goals first|exact gA|(exact zN (by omega))|skip
         refine hL1 _ ⟨(i+1,out,td,fl),⟨by dsimp only;omega,hI2.skip (by rw [hnu];first|exact .inl (by simp only [‹gb shut _=true›];rfl)|exact .inr (by with_reducible assumption)),hpre2,hM2,hx02,hvf2⟩,by dsimp only;omega,?_⟩
         skip
         refine zb rfl ?_ ?_ ?_<;>simp only [zj,zi,push_cast,↓zK,↓zJ,↓reduceIte,zA,zB,zC,zD,zE,zF,zG,zH,zI,reduceCtorEq]
         done)
       |(
         have hcs:=kY (l:=out) (u:=(gi (gl E x0) i).toNat) (by with_reducible assumption) (by omega) n (by omega)
         have hct:=kZ (out.set (gi (gl E x0) i).toNat true) n
         refine zL fun K hK=> ?_
         refine zM zQ zO [] rfl ?_
         all_goals simp only [push_cast,↓zK,↓zJ,↓reduceIte,zA,zB,zC,zD,zE,zF,zG,zH,zI,reduceCtorEq]
         all_goals repeat'(first|(apply zP<;>(intro hg;(try simp only [push_cast]at hg)))|apply And.intro|(intro hg;(try simp only [push_cast]at hg)))
         all_goals first|exact gA|(exact zN (by omega))|skip
         all_goals first|(refine hK _ ?_;clear hK K)|(simp only [push_cast];done)
         refine zM zQ zO [] rfl ?_
         all_goals simp only [push_cast,↓zK,↓zJ,↓reduceIte,zA,zB,zC,zD,zE,zF,zG,zH,zI,reduceCtorEq]
         all_goals repeat'(first|(apply zP<;>(intro hg;(try simp only [push_cast]at hg)))|apply And.intro|(intro hg;(try simp only [push_cast]at hg)))
         all_goals first|exact gA|(rw [List.length_set];omega)|(exact zN (by omega))|skip
         (try simp only [zS,zT,reduceIte,zF]);refine hK4 _ ?_
         refine zM zQ zO [] rfl ?_
         all_goals simp only [push_cast,↓zK,↓zJ,↓reduceIte,zA,zB,zC,zD,zE,zF,zG,zH,zI,reduceCtorEq]
         all_goals repeat'(first|(apply zP<;>(intro hg;(try simp only [push_cast]at hg)))|apply And.intro|(intro hg;(try simp only [push_cast]at hg)))
         all_goals first|exact gA|(exact zN (by omega))|skip
         refine hL1 _ ⟨(i+1,out.set (gi (gl E x0) i).toNat true,td++ [(gi (gl E x0) i)],td++ [(gi (gl E x0) i)]),⟨by dsimp only;omega,hI2.push hx02 (by omega) her (by rw [hnu];simp only [‹gb shut _=false›];rfl),List.take_length,by simp only [List.length_append,List.length_cons,List.length_nil];omega,hx02.imp id fun h=>⟨h.1,by rw [xH (by omega)];split;rfl;exact h.2⟩,by rw [xH (by omega),if_neg (by omega)];exact hvf2⟩,by dsimp only;omega,?_⟩
         rw [hpre2]
         simp only [List.length_append,List.length_cons,List.length_nil,Nat.zero_add]
         refine zb rfl ?_ ?_ ?_<;>simp only [zj,zi,push_cast,↓zK,↓zJ,↓reduceIte,zA,zB,zC,zD,zE,zF,zG,zH,zI,reduceCtorEq]
         done)
    ·
     refine zp ?_
     refine hL0 _ ⟨(out,td,fl),⟨hI2.done (by omega),hpre2,by dsimp only;omega,hvf2⟩,by dsimp only;omega,?_⟩
     refine zb rfl ?_ ?_ ?_<;>simp only [zj,zi,push_cast,↓zK,↓zJ,↓reduceIte,zA,zB,zC,zD,zE,zF,zG,zH,zI,reduceCtorEq]
  ·
   refine zp ?_
   have htd:td= []:=List.eq_nil_of_length_eq_zero (by omega)
   subst htd
   have hr9:=hfin out hI
   (try simp only [zS,zT,reduceIte,zF]);refine hK1 _ ?_
   refine zL fun K hK=> ?_
   refine zM zQ zO [] rfl ?_
   all_goals simp only [push_cast,↓zK,↓zJ,↓reduceIte,zA,zB,zC,zD,zE,zF,zG,zH,zI,reduceCtorEq]
   all_goals repeat'(first|(apply zP<;>(intro hg;(try simp only [push_cast]at hg)))|apply And.intro|(intro hg;(try simp only [push_cast]at hg)))
   all_goals first|exact gA|(exact zN (by omega))|skip
   all_goals first|(refine hK _ ?_;clear hK K)|(simp only [push_cast];done)
   refine za ?_
   (try simp only [zS,zT])
   refine⟨Or.inl rfl,?_⟩
   simp only [ze,push_cast,↓zK,↓zJ,↓reduceIte,zA,zB,zC,zD,zE,zF,zG,zH,zI,reduceCtorEq]
   rw [←hr9,hvf]
structure Plc where
 at_:Int
 record:List Int
 deriving DecidableEq
def dPlc (x:Plc):List D:= [.int .i64 x.at_,DI x.record]
def Plc.tot (x:Plc):Nat:=x.record.length
structure Plc.Ln (B:Nat)(x:Plc):Prop where
 record:LnI B x.record
theorem Plc.ln_of {B:Nat}{x:Plc}(h:x.tot≤B):x.Ln B:=by
 unfold Plc.tot at h
 exact⟨ZD (by omega)⟩
def yj (ps:List Plc):List D:=ps.flatMap dPlc
def gq (ps:List Plc)(k:Nat):Plc:=ps.getD k ⟨0,[]⟩
theorem vI (p:Plc)(ps:List Plc):yj (p::ps)= .int .i64 p.at_::DI p.record::yj ps:=rfl
theorem m2q (n:Nat):n*2 / 2=n:=by omega
theorem uA (ps:List Plc):(yj ps).length=ps.length*2:=by
 induction ps with
 |nil=>rfl
 |cons p ps ih=>rw [vI,List.length_cons,List.length_cons,ih,List.length_cons];omega
theorem zC9 (ps qs:List Plc):yj (ps++qs)=yj ps++yj qs:=List.flatMap_append ..
theorem Ka (ps:List Plc)(x:Int)(r:List Int):yj ps++ [D.int .i64 x,D.lst 2 (dI r)]=yj (ps++ [⟨x,r⟩]):=by rw [zC9];rfl
theorem zBO (ps:List Plc):(yj ps).take (ps.length*2)=yj ps:=List.take_of_length_le (by rw [uA];exact Nat.le_refl _)
theorem zEN {ps:List Plc}{k:Nat}(h:k<ps.length):ps[k]? =some (gq ps k):=by
 unfold gq
 rw [List.getD_eq_getElem?_getD,List.getElem?_eq_getElem h]
 rfl
theorem zEM {ps:List Plc}{k:Nat}(h:ps.length≤k):gq ps k=⟨0,[]⟩:=by
 unfold gq
 rw [List.getD_eq_getElem?_getD,List.getElem?_eq_none h]
 rfl
theorem vk {ps:List Plc}{k:Nat}(h:k<ps.length):gq ps k∈ps:=List.mem_of_getElem? (zEN h)
theorem kb (ps:List Plc)(k:Nat):(yj ps)[k*2]? =if k<ps.length then some (.int .i64 (gq ps k).at_)else none:=by
 induction ps generalizing k with
 |nil=>rfl
 |cons p ps ih=>
  cases k with
  |zero=>rfl
  |succ k=>
   rw [show(k+1)*2=k*2+1+1 from by omega,vI,List.getElem?_cons_succ,List.getElem?_cons_succ,ih,List.length_cons]
   simp only [gq,List.getD_cons_succ]
   split<;>split<;>first|rfl|omega
theorem XW (ps:List Plc)(k:Nat):(yj ps)[k*2+1]? =if k<ps.length then some (DI (gq ps k).record)else none:=by
 induction ps generalizing k with
 |nil=>rfl
 |cons p ps ih=>
  cases k with
  |zero=>rfl
  |succ k=>
   rw [show(k+1)*2+1=k*2+1+1+1 from by omega,vI,List.getElem?_cons_succ,List.getElem?_cons_succ,ih,List.length_cons]
   simp only [gq,List.getD_cons_succ]
   split<;>split<;>first|rfl|omega
theorem zB2 (ps:List Plc)(k:Nat):XZ (yj ps) (k*2)=(gq ps k).at_:=by
 unfold XZ
 rw [kb]
 by_cases h:k<ps.length
 ·rw [if_pos h]
 ·rw [if_neg h,zEM (by omega)]
theorem zB3 (ps:List Plc)(k:Nat):yx (yj ps) (k*2+1)=dI (gq ps k).record:=by
 unfold yx
 rw [XW]
 by_cases h:k<ps.length
 ·rw [if_pos h]
 ·rw [if_neg h,zEM (by omega)];rfl
theorem zR {ps:List Plc}{k:Nat}(h:k<ps.length):xw (yj ps) (k*2+1)=2:=by
 unfold xw
 rw [XW,if_pos h]
theorem zAb (ps:List Plc)(k:Nat):xK (.int .i64) (yj ps) (k*2)=(k<ps.length):=by
 unfold xK
 rw [kb]
 apply propext
 constructor
 ·rintro⟨n,h⟩;split at h;assumption;cases h
 ·intro h;rw [if_pos h];exact⟨_,rfl⟩
theorem zAc (ps:List Plc)(k:Nat):xK (.sl 2) (yj ps) (k*2+1)=(k<ps.length):=by
 unfold xK
 rw [XW]
 apply propext
 constructor
 ·rintro⟨n,h⟩;split at h;assumption;cases h
 ·intro h;rw [if_pos h];exact⟨_,rfl⟩
theorem UX (ps:List Plc)(k:Nat):zk (yj ps) [k*2+1]=(k<ps.length):=by
 unfold zk
 rw [XW]
 apply propext
 constructor
 ·rintro⟨e,ys,h,-⟩;split at h;assumption;cases h
 ·intro h;rw [if_pos h];exact⟨_,_,rfl,trivial⟩
theorem zCd (ps:List Plc)(k:Nat)(n:Int):(yj ps).set (k*2) (.int .i64 n)=yj (ps.set k ⟨n,(gq ps k).record⟩):=by
 induction ps generalizing k with
 |nil=>simp [yj]
 |cons p ps ih=>
  cases k with
  |zero=>rfl
  |succ k=>rw [show(k+1)*2=k*2+1+1 from by omega,vI,List.set_cons_succ,List.set_cons_succ,ih,List.set_cons_succ,vI];rfl
theorem zCe (ps:List Plc)(k:Nat)(r:List Int):(yj ps).set (k*2+1) (.lst 2 (dI r))=yj (ps.set k ⟨(gq ps k).at_,r⟩):=by
 induction ps generalizing k with
 |nil=>simp [yj]
 |cons p ps ih=>
  cases k with
  |zero=>rfl
  |succ k=>rw [show(k+1)*2+1=k*2+1+1+1 from by omega,vI,List.set_cons_succ,List.set_cons_succ,ih,List.set_cons_succ,vI];rfl
attribute [push_cast] m2q uA zBO Ka zB2 zB3 zAb zAc UX zCd zCe
def QLn (B:Nat)(ps:List Plc):Prop:=ps.length≤B∧∀p∈ps,p.record.length≤B
theorem zDe :min 1 64=1:=rfl
theorem pow_1 :(2:Int)^1=2:=rfl
attribute [push_cast] zDe pow_1
theorem zEA {xs:List Int}{k:Nat}(h:k<xs.length):xs.take (k+1)=xs.take k++ [gi xs k]:=by rw [List.take_add_one,ZY h];rfl
set_option maxRecDepth 20000 in
set_option maxHeartbeats 4000000 in
theorem vx (s:List Int)(hs:s.length≤1048576)(n:Int)(hn:0≤n∧n≤256):Fn Try.prog tyT 65 [.c (DI s), .c (.int .i64 n)] [.c (.bool (xS s n))]:=by
 refine yC (fn:=Try.f65) (ts:= [4]) Try.func65 (by kernel_rfl) rfl rfl (by rw [Try.ntmps65];exact Nat.le_of_ble_eq_true rfl) rfl (by simp only [szA,List.mem_cons,List.not_mem_nil,or_false,forall_eq_or_imp,forall_eq,VT.cells,szL];try decide) ?_
 rw [Try.ntmps65]
 simp only [push_cast,↓zK,↓zJ,↓reduceIte,zA,zB,zC,zD,zE,zF,zG,zH,zI,reduceCtorEq]
 refine zL fun K hK=> ?_
 refine zM zQ zO [] rfl ?_
 simp only [push_cast,↓zK,↓zJ,↓reduceIte,zA,zB,zC,zD,zE,zF,zG,zH,zI,reduceCtorEq]
 repeat' apply And.intro
 all_goals try exact gB
 all_goals first|(refine hK _ ?_;clear hK K)|(simp only [push_cast];done)
 refine zL fun K hK=> ?_
 refine zf false zQ zO ?_ rfl ?_
 ·kernel_rfl
 all_goals refine yE 2 fun K9 hK9=> ?_
 all_goals simp only [push_cast,↓zK,↓zJ,↓reduceIte,zA,zB,zC,zD,zE,zF,zG,zH,zI,reduceCtorEq]
 all_goals repeat'(first|(apply zP<;>(intro hg;(try simp only [push_cast]at hg)))|(refine⟨_,yM _ _ _,?_⟩;simp only [push_cast,↓zK,↓zJ,↓reduceIte,zA,zB,zC,zD,zE,zF,zG,zH,zI,reduceCtorEq])|(refine⟨_,yn s n hs (by omega) (by omega),?_⟩;simp only [push_cast,↓zK,↓zJ,↓reduceIte,zA,zB,zC,zD,zE,zF,zG,zH,zI,reduceCtorEq])|apply And.intro|(intro hg;(try simp only [push_cast]at hg)))
 all_goals try exact gA
 all_goals first|(refine hK9 _ ?_;clear hK9 K9)|(simp only [push_cast];done)
 all_goals refine yE 4 fun K9 hK9=> ?_
 all_goals simp only [push_cast,↓zK,↓zJ,↓reduceIte,zA,zB,zC,zD,zE,zF,zG,zH,zI,reduceCtorEq]
 all_goals repeat'(first|(apply zP<;>(intro hg;(try simp only [push_cast]at hg)))|(refine⟨_,yM _ _ _,?_⟩;simp only [push_cast,↓zK,↓zJ,↓reduceIte,zA,zB,zC,zD,zE,zF,zG,zH,zI,reduceCtorEq])|(refine⟨_,yn s n hs (by omega) (by omega),?_⟩;simp only [push_cast,↓zK,↓zJ,↓reduceIte,zA,zB,zC,zD,zE,zF,zG,zH,zI,reduceCtorEq])|apply And.intro|(intro hg;(try simp only [push_cast]at hg)))
 all_goals try exact gA
 all_goals first|(refine hK9 _ ?_;clear hK9 K9)|(simp only [push_cast];done)
 all_goals simp only [push_cast,↓zK,↓zJ,↓reduceIte,zA,zB,zC,zD,zE,zF,zG,zH,zI,reduceCtorEq]
 all_goals repeat'(first|(apply zP<;>(intro hg;(try simp only [push_cast]at hg)))|(refine⟨_,yM _ _ _,?_⟩;simp only [push_cast,↓zK,↓zJ,↓reduceIte,zA,zB,zC,zD,zE,zF,zG,zH,zI,reduceCtorEq])|(refine⟨_,yn s n hs (by omega) (by omega),?_⟩;simp only [push_cast,↓zK,↓zJ,↓reduceIte,zA,zB,zC,zD,zE,zF,zG,zH,zI,reduceCtorEq])|apply And.intro|(intro hg;(try simp only [push_cast]at hg)))
 all_goals try exact gA
 all_goals first|(refine hK _ ?_;clear hK K)|(simp only [push_cast];done)
 all_goals(
   refine za ?_
   (try simp only [zS,zT])
   refine⟨Or.inl rfl,?_⟩
   simp only [ze,push_cast,↓zK,↓zJ,↓reduceIte,zA,zB,zC,zD,zE,zF,zG,zH,zI,reduceCtorEq]
   all_goals first|rfl|omega|(symm;with_reducible assumption))
set_option maxRecDepth 20000 in
set_option maxHeartbeats 4000000 in
theorem ZJ (xs:List Int)(x:Int)(hl:xs.length≤1048576):Fn Try.prog tyT 36 [.c (DI xs), .c (.int .i64 x)] [.c (.bool (yR xs x))]:=by
 refine yC (fn:=Try.f36) (ts:= [4]) Try.func36 (by kernel_rfl) rfl rfl (by rw [Try.ntmps36];exact Nat.le_of_ble_eq_true rfl) rfl (by simp only [szA,List.mem_cons,List.not_mem_nil,or_false,forall_eq_or_imp,forall_eq,VT.cells,szL];try decide) ?_
 rw [Try.ntmps36]
 simp only [push_cast,↓zK,↓zJ,↓reduceIte,zA,zB,zC,zD,zE,zF,zG,zH,zI,reduceCtorEq]
 refine zL fun K hK=> ?_
 refine zM zQ zO [] rfl ?_
 simp only [push_cast,↓zK,↓zJ,↓reduceIte,zA,zB,zC,zD,zE,zF,zG,zH,zI,reduceCtorEq]
 repeat' apply And.intro
 all_goals try exact gB
 all_goals first|(refine hK _ ?_;clear hK K)|(simp only [push_cast];done)
 refine zL fun K1 hK1=> ?_
 refine zL fun K hK=> ?_
 refine zM zQ zO [] rfl ?_
 simp only [push_cast,↓zK,↓zJ,↓reduceIte,zA,zB,zC,zD,zE,zF,zG,zH,zI,reduceCtorEq]
 repeat' apply And.intro
 all_goals try exact gB
 all_goals first|(refine hK _ ?_;clear hK K)|(simp only [push_cast];done)
 refine zX ?_
 refine zn [4,5,6,7,8,9,10,11,12,13,14,15,16,17] [] (fun(k:Nat)=> [(5, .int .i64 k)]) (fun k=> []) (fun k=> []) (fun k=>k≤xs.length∧∀j,j<k→¬gi xs j=x) (fun k=>xs.length - k) 0 ?_ ⟨by omega,fun j hj=>by omega⟩ ?_
 ·
  refine zb rfl ?_ ?_ ?_<;>simp only [zj,zi,push_cast,↓zK,↓zJ,↓reduceIte,zA,zB,zC,zD,zE,zF,zG,zH,zI,reduceCtorEq]
 ·rintro k ⟨hk,hall⟩ KL0 hL0
  simp only [push_cast,↓zK,↓zJ,↓reduceIte,zA,zB,zC,zD,zE,zF,zG,zH,zI,reduceCtorEq]
  refine zL fun K2 hK2=> ?_
  refine zL fun K hK=> ?_
  refine zM zQ zO [] rfl ?_
  simp only [push_cast,↓zK,↓zJ,↓reduceIte,zA,zB,zC,zD,zE,zF,zG,zH,zI,reduceCtorEq]
  repeat' apply And.intro
  all_goals try exact gB
  all_goals first|(refine hK _ ?_;clear hK K)|(simp only [push_cast];done)
  refine zU rfl (fun hc=> ?_) (fun hc=> ?_)<;>(try simp only [push_cast]at hc)
  ·
   refine zV ?_
   (try simp only [zS,zT,reduceIte,zF]);refine hK2 _ ?_
   refine zL fun K3 hK3=> ?_
   refine zX ?_
   refine zL fun K hK=> ?_
   refine zM zQ zO [] rfl ?_
   simp only [push_cast,↓zK,↓zJ,↓reduceIte,zA,zB,zC,zD,zE,zF,zG,zH,zI,reduceCtorEq]
   repeat' apply And.intro
   all_goals try exact gB
   all_goals first|(refine hK _ ?_;clear hK K)|(simp only [push_cast];done)
   refine zU rfl (fun hc=> ?_) (fun hc=> ?_)<;>(try simp only [push_cast]at hc)
   ·
    refine zL fun K hK=> ?_
    refine zM zQ zO [] rfl ?_
    simp only [push_cast,↓zK,↓zJ,↓reduceIte,zA,zB,zC,zD,zE,zF,zG,zH,zI,reduceCtorEq]
    repeat' apply And.intro
    all_goals try exact gB
    all_goals first|(refine hK _ ?_;clear hK K)|(simp only [push_cast];done)
    refine za ?_
    (try simp only [zS,zT])
    refine⟨Or.inl rfl,?_⟩
    simp only [ze,push_cast,↓zK,↓zJ,↓reduceIte,zA,zB,zC,zD,zE,zF,zG,zH,zI,reduceCtorEq]
    have hf:ZN xs x=k:=Jo (by omega) hall (by omega)
    unfold yR
    rw [hf]
    exact(decide_eq_true (by omega)).symm
   ·
    refine zV ?_
    (try simp only [zS,zT,reduceIte,zF]);refine hK3 _ ?_
    refine zM zQ zO [] rfl ?_
    simp only [push_cast,↓zK,↓zJ,↓reduceIte,zA,zB,zC,zD,zE,zF,zG,zH,zI,reduceCtorEq]
    repeat' apply And.intro
    all_goals try exact gB
    refine hL0 _ ⟨k+1,⟨by omega,fun j hj=>(by
      by_cases hjk:j=k
      ·subst hjk;omega
      ·exact hall j (by omega))⟩,by omega,?_⟩
    refine zb rfl ?_ ?_ ?_<;>simp only [zj,zi,push_cast,↓zK,↓zJ,↓reduceIte,zA,zB,zC,zD,zE,zF,zG,zH,zI,reduceCtorEq]
  ·
   refine zp ?_
   (try simp only [zS,zT,reduceIte,zF]);refine hK1 _ ?_
   refine zL fun K hK=> ?_
   refine zM zQ zO [] rfl ?_
   simp only [push_cast,↓zK,↓zJ,↓reduceIte,zA,zB,zC,zD,zE,zF,zG,zH,zI,reduceCtorEq]
   repeat' apply And.intro
   all_goals try exact gB
   all_goals first|(refine hK _ ?_;clear hK K)|(simp only [push_cast];done)
   refine za ?_
   (try simp only [zS,zT])
   refine⟨Or.inl rfl,?_⟩
   simp only [ze,push_cast,↓zK,↓zJ,↓reduceIte,zA,zB,zC,zD,zE,zF,zG,zH,zI,reduceCtorEq]
   unfold yR
   rw [QT (fun j hj=>hall j (by omega))]
   exact(decide_eq_false (by omega)).symm
def yD (u:Int)(r:List Int)(p:Plc):Bool:=decide (p.at_=u)&&decide (p.record=r)
theorem jE {u:Int}{r:List Int}{p:Plc}(h: ¬p.at_=u):yD u r p=false:=by unfold yD;rw [decide_eq_false h];rfl
theorem jF {u:Int}{r:List Int}{p:Plc}(h: ¬p.record=r):yD u r p=false:=by unfold yD;rw [decide_eq_false h,Bool.and_false]
theorem YP {u:Int}{r:List Int}{p:Plc}(h:p.at_=u)(h2:p.record=r):yD u r p=true:=by unfold yD;rw [decide_eq_true h,decide_eq_true h2];rfl
def ixQ (p:Plc→Bool)(ps:List Plc):Int:=if ps.findIdx p<ps.length then ps.findIdx p else -1
theorem zGd {ps:List Plc}{k:Nat}(h:k<ps.length):ps[k]=gq ps k:=by
 have :=zEN h
 rw [List.getElem?_eq_getElem h]at this
 exact Option.some.inj this
def jh (r:List Int)(s:List Plc×List Int)(u:Int):List Plc×List Int:=if ixQ (yD u r) s.1<0 then(s.1++ [⟨u,r⟩],s.2++ [(s.1.length:Int)])else(s.1,s.2++ [ixQ (yD u r) s.1])
def zh (r us:List Int)(ps:List Plc)(k:Nat):List Plc×List Int:=(us.take k).foldl (jh r) (ps,[])
theorem Qk (r us:List Int)(ps:List Plc):zh r us ps 0=(ps,[]):=rfl
theorem zCY {r us:List Int}{ps:List Plc}{k:Nat}(h:k<us.length):zh r us ps (k+1)=jh r (zh r us ps k) (gi us k):=by
 unfold zh
 rw [zEA h,List.foldl_append]
 rfl
theorem qH {r us:List Int}{ps:List Plc}{k:Nat}(h:k<us.length)(h2:ixQ (yD (gi us k) r) (zh r us ps k).1<0):zh r us ps (k+1)=((zh r us ps k).1++ [⟨gi us k,r⟩],(zh r us ps k).2++ [((zh r us ps k).1.length:Int)]):=by
 rw [zCY h];unfold jh;rw [if_pos h2]
theorem qI {r us:List Int}{ps:List Plc}{k:Nat}(h:k<us.length)(h2: ¬ixQ (yD (gi us k) r) (zh r us ps k).1<0):zh r us ps (k+1)=((zh r us ps k).1,(zh r us ps k).2++ [ixQ (yD (gi us k) r) (zh r us ps k).1]):=by
 rw [zCY h];unfold jh;rw [if_neg h2]
theorem qn {r us:List Int}{ps:List Plc}: ∀{k:Nat},k≤us.length→(zh r us ps k).2.length=k∧ps.length≤(zh r us ps k).1.length∧(zh r us ps k).1.length≤ps.length+k
 |0,_=>by rw [Qk];exact⟨rfl,Nat.le_refl _,Nat.le_refl _⟩
 |k+1,h=>by
  have h1:=qn (r:=r) (us:=us) (ps:=ps) (k:=k) (by omega)
  by_cases h2:ixQ (yD (gi us k) r) (zh r us ps k).1<0
  ·rw [qH (by omega) h2];simp only [List.length_append,List.length_cons,List.length_nil];omega
  ·rw [qI (by omega) h2];simp only [List.length_append,List.length_cons,List.length_nil];omega
theorem zCA (p:Plc→Bool)(ps:List Plc): -1≤ixQ p ps∧ixQ p ps<ps.length:=by unfold ixQ;split<;>omega
theorem Xs {r us:List Int}{ps:List Plc}{O:Plc→Prop}(h0: ∀p∈ps,O p)(h1: ∀u∈us,O ⟨u,r⟩): ∀{k:Nat},k≤us.length→∀p∈(zh r us ps k).1,O p
 |0,_,p,hp=>h0 p hp
 |k+1,h,p,hp=>by
  by_cases h2:ixQ (yD (gi us k) r) (zh r us ps k).1<0
  ·rw [qH (by omega) h2,List.mem_append]at hp
   rcases hp with hp|hp
   ·exact Xs h0 h1 (by omega) p hp
   ·rw [List.mem_singleton]at hp;subst hp;exact h1 _ (zB4 (by omega))
  ·rw [qI (by omega) h2]at hp
   exact Xs h0 h1 (by omega) p hp
section
variable (us rc:Plc→List Int) (p0:Plc)
def stQ :Nat→List Plc
 |0=> [p0]
 |i+1=>if i<(stQ i).length then(zh (rc (gq (stQ i) i)) (us (gq (stQ i) i)) (stQ i) (us (gq (stQ i) i)).length).1 else stQ i
def rowQ (i k:Nat):List Plc×List Int:=zh (rc (gq (stQ us rc p0 i) i)) (us (gq (stQ us rc p0 i) i)) (stQ us rc p0 i) k
def plQ (i:Nat):Plc:=gq (stQ us rc p0 i) i
end
variable {us rc:Plc→List Int} {p0:Plc}
theorem JP {i:Nat}(h:i<(stQ us rc p0 i).length):stQ us rc p0 (i+1)=(rowQ us rc p0 i (us (plQ us rc p0 i)).length).1:=by
 show(if i<(stQ us rc p0 i).length then _ else _)=_
 rw [if_pos h];rfl
theorem Zv {i:Nat}(h: ¬i<(stQ us rc p0 i).length):stQ us rc p0 (i+1)=stQ us rc p0 i:=by
 show(if i<(stQ us rc p0 i).length then _ else _)=_
 rw [if_neg h]
theorem ui {i j:Nat}(h:i≤j):(stQ us rc p0 i).length≤(stQ us rc p0 j).length:=by
 induction j with
 |zero=>
      have :i=0:=by omega
      subst this;exact Nat.le_refl _
 |succ j ih=>
  rcases Nat.lt_or_ge j i with h1|h1
  ·have :i=j+1:=by omega
   subst this;exact Nat.le_refl _
  ·have h2:=ih h1
   by_cases h3:j<(stQ us rc p0 j).length
   ·rw [JP h3]
    have :=(qn (r:=rc (gq (stQ us rc p0 j) j)) (us:=us (gq (stQ us rc p0 j) j)) (ps:=stQ us rc p0 j) (Nat.le_refl _)).2.1
    exact Nat.le_trans h2 this
   ·rw [Zv h3];exact h2
theorem zDy {i:Nat}(h: ¬i<(stQ us rc p0 i).length){j:Nat}(hj:i≤j):stQ us rc p0 j=stQ us rc p0 i:=by
 induction j with
 |zero=>
      have :i=0:=by omega
      subst this;rfl
 |succ j ih=>
  rcases Nat.lt_or_ge j i with h1|h1
  ·have :i=j+1:=by omega
   subst this;rfl
  ·have h2:=ih h1
   rw [Zv (by rw [h2];omega),h2]
theorem VO {O:Plc→Prop}(h0:O p0)(h1: ∀p,O p→∀u∈us p,O ⟨u,rc p⟩): ∀i,∀p∈stQ us rc p0 i,O p
 |0,p,hp=>by rw [show stQ us rc p0 0= [p0]from rfl,List.mem_singleton]at hp;subst hp;exact h0
 |i+1,p,hp=>by
  by_cases h:i<(stQ us rc p0 i).length
  ·rw [JP h]at hp
   refine Xs (O:=O) (VO h0 h1 i) (fun u hu=>h1 _ (VO h0 h1 i _ (vk h)) u hu) (Nat.le_refl _) p hp
  ·rw [Zv h]at hp
   exact VO h0 h1 i p hp
section
variable (a:Ar) (rc:Plc→List Int) (pr:Plc→Int) (p0:Plc)
end
variable {a:Ar} {rc:Plc→List Int} {pr:Plc→Int} {p0:Plc}
theorem zGc {ps qs:List Plc}{i:Nat}(h:i<ps.length):gq (ps++qs) i=gq ps i:=by
 unfold gq
 rw [List.getD_eq_getElem?_getD,List.getElem?_append_left h,List.getD_eq_getElem?_getD]
structure PlOk (a:Ar)(rc:Plc→List Int)(p0:Plc)(V:List Int→Prop)(B:Nat):Prop where
 first:0≤p0.at_∧p0.at_<(a.owner.length:Int)∧V p0.record
 next: ∀p:Plc,0≤p.at_→p.at_<(a.owner.length:Int)→V p.record→V (rc p)
 small: ∀r,V r→r.length≤B
theorem zB5 {xs:List Int}{x:Int}{j:Nat}(h:j<xs.length):gi (xs++ [x]) j=gi xs j:=by
 unfold gi
 rw [List.getD_eq_getElem?_getD,List.getD_eq_getElem?_getD,List.getElem?_append_left h]
theorem zB6 (xs:List Int)(x:Int):gi (xs++ [x]) xs.length=x:=by
 unfold gi
 rw [List.getD_eq_getElem?_getD,List.getElem?_append_right (Nat.le_refl _)]
 simp
theorem zGe (ps:List Plc)(p:Plc):gq (ps++ [p]) ps.length=p:=by
 unfold gq
 rw [List.getD_eq_getElem?_getD,List.getElem?_append_right (Nat.le_refl _)]
 simp
theorem zGh {p:Plc→Bool}{ps:List Plc}(h: ¬ixQ p ps<0):(ixQ p ps).toNat<ps.length∧p (gq ps (ixQ p ps).toNat)=true:=by
 unfold ixQ at h⊢
 split
 ·rename_i h1
  rw [Int.toNat_natCast]
  refine⟨h1,?_⟩
  rw [←zGd h1]
  exact List.findIdx_getElem (w:=h1)
 ·rename_i h1
  rw [if_neg h1]at h
  omega
theorem zDt {u:Int}{r:List Int}{p:Plc}(h:yD u r p=true):p=⟨u,r⟩:=by
 unfold yD at h
 rw [Bool.and_eq_true,decide_eq_true_eq,decide_eq_true_eq]at h
 obtain⟨a,b⟩:=p
 obtain⟨h1,h2⟩:=h
 simp only at h1 h2
 rw [h1,h2]
theorem zCa {r us:List Int}{ps:List Plc}: ∀{k:Nat},k≤us.length→∀j,j<k→(0≤gi (zh r us ps k).2 j∧gi (zh r us ps k).2 j<(zh r us ps k).1.length)∧gq (zh r us ps k).1 (gi (zh r us ps k).2 j).toNat=⟨gi us j,r⟩
 |0,_,j,hj=>absurd hj (Nat.not_lt_zero j)
 |k+1,hk,j,hj=>by
  have ih:=zCa (r:=r) (us:=us) (ps:=ps) (k:=k) (by omega)
  have hl:=qn (r:=r) (us:=us) (ps:=ps) (k:=k) (by omega)
  by_cases h2:ixQ (yD (gi us k) r) (zh r us ps k).1<0
  ·rw [qH (by omega) h2]
   simp only
   by_cases e:j=k
   ·subst e
    rw [show gi ((zh r us ps j).2++ [((zh r us ps j).1.length:Int)]) j=((zh r us ps j).1.length:Int)from by
     have :=zB6 (zh r us ps j).2 ((zh r us ps j).1.length:Int)
     rw [hl.1]at this
     exact this]
    rw [List.length_append,List.length_singleton,Int.toNat_natCast,zGe]
    exact⟨by omega,rfl⟩
   ·have h3:=ih j (by omega)
    rw [zB5 (by omega),List.length_append,List.length_singleton,zGc (by omega)]
    exact⟨by omega,h3.2⟩
  ·rw [qI (by omega) h2]
   simp only
   by_cases e:j=k
   ·subst e
    have h4:=zGh h2
    rw [show gi ((zh r us ps j).2++ [ixQ (yD (gi us j) r) (zh r us ps j).1]) j=ixQ (yD (gi us j) r) (zh r us ps j).1 from by
     have :=zB6 (zh r us ps j).2 (ixQ (yD (gi us j) r) (zh r us ps j).1)
     rw [hl.1]at this
     exact this]
    exact⟨by omega,zDt h4.2⟩
   ·have h3:=ih j (by omega)
    rw [zB5 (by omega)]
    exact h3
theorem zA1 {r:List Int}{i:Nat}(h:i<r.length):gi r i=r[i]:=by
 unfold gi
 rw [List.getD_eq_getElem?_getD,List.getElem?_eq_getElem h]
 rfl
section
variable {a:Ar} {rc:Plc→List Int} {pr:Plc→Int} {p0:Plc} {V:List Int→Prop} {B:Nat}
end
def qz (a:Ar)(who:Int)(plan:List Int)(v:Nat):Bool:=decide (gi plan v= -1)||(decide (gi a.owner v=who)&&yR (gl a.next v) (gi plan v))
def vc (a:Ar)(who:Int)(plan:List Int):Bool:=decide (plan.length=a.owner.length)&&wa plan.length (qz a who plan)
theorem JK {a:Ar}{who:Int}{plan:List Int}{v:Nat}(h:gi plan v= -1∨(gi a.owner v=who∧yR (gl a.next v) (gi plan v)=true)):qz a who plan v=true:=by
 unfold qz
 rw [Bool.or_eq_true,Bool.and_eq_true,decide_eq_true_eq,decide_eq_true_eq]
 exact h
theorem JJ {a:Ar}{who:Int}{plan:List Int}{v:Nat}(h: ¬gi plan v= -1)(h2: ¬gi a.owner v=who∨yR (gl a.next v) (gi plan v)=false):qz a who plan v=false:=by
 unfold qz
 rw [decide_eq_false h,Bool.false_or,Bool.and_eq_false_iff,decide_eq_false_iff_not]
 exact h2
theorem jB {a:Ar}{who:Int}{plan:List Int}(h: ¬plan.length=a.owner.length):vc a who plan=false:=by unfold vc;rw [decide_eq_false h];rfl
theorem uT {a:Ar}{who:Int}{plan:List Int}{v:Nat}(hv:v<plan.length)(h:qz a who plan v=false):vc a who plan=false:=by unfold vc;rw [qf hv h,Bool.and_false]
theorem jC {a:Ar}{who:Int}{plan:List Int}(h:plan.length=a.owner.length)(h2: ∀v,v<plan.length→qz a who plan v=true):vc a who plan=true:=by unfold vc;rw [decide_eq_true h,vE h2];rfl
theorem WF {a:Ar}{who:Int}{plan:List Int}(h:vc a who plan=true):plan.length=a.owner.length∧∀v,v<plan.length→gi plan v= -1∨(gi a.owner v=who∧yR (gl a.next v) (gi plan v)=true):=by
 unfold vc at h
 rw [Bool.and_eq_true,decide_eq_true_eq]at h
 refine⟨h.1,fun v hv=> ?_⟩
 have :=vy h.2 hv
 unfold qz at this
 rw [Bool.or_eq_true,Bool.and_eq_true,decide_eq_true_eq,decide_eq_true_eq]at this
 exact this
set_option maxRecDepth 20000 in
set_option maxHeartbeats 4000000 in
theorem zB8 (a:Ar)(ha:a.Ln 1048576)(hnl:a.next.length=a.owner.length)(who:Int)(plan:List Int)(hp:plan.length≤1048576):Fn Try.prog tyT 68 [.agg (dAr a), .c (.int .i64 who), .c (DI plan)] [.c (.bool (vc a who plan))]:=by
 have hr: ∀v,(gl a.next v).length≤1048576:=fun v=>wx ha.next v
 have hno:=ha.owner
 unfold LnI at hno
 unfold dAr
 refine yC (fn:=Try.f68) (ts:= [6]) Try.func68 (by kernel_rfl) rfl rfl (by rw [Try.ntmps68];exact Nat.le_of_ble_eq_true rfl) rfl (by simp only [szA,List.mem_cons,List.not_mem_nil,or_false,forall_eq_or_imp,forall_eq,VT.cells,szL];try decide) ?_
 rw [Try.ntmps68]
 simp only [push_cast,↓zK,↓zJ,↓reduceIte,zA,zB,zC,zD,zE,zF,zG,zH,zI,reduceCtorEq]
 refine zL fun K hK=> ?_
 refine zM zQ zO [] rfl ?_
 all_goals simp only [push_cast,↓zK,↓zJ,↓reduceIte,zA,zB,zC,zD,zE,zF,zG,zH,zI,reduceCtorEq]
 all_goals repeat'(first|(apply zP<;>(intro hg;(try simp only [push_cast]at hg)))|(refine⟨_,yB (gl a.next k) _ (hr k),?_⟩;simp only [push_cast,↓zK,↓zJ,↓reduceIte,zA,zB,zC,zD,zE,zF,zG,zH,zI,reduceCtorEq])|apply And.intro|(intro hg;(try simp only [push_cast]at hg)))
 all_goals first|exact gA|(exact zN (by omega))|skip
 all_goals first|(refine hK _ ?_;clear hK K)|(simp only [push_cast];done)
 refine zL fun K1 hK1=> ?_
 refine zL fun K hK=> ?_
 refine zM zQ zO [] rfl ?_
 all_goals simp only [push_cast,↓zK,↓zJ,↓reduceIte,zA,zB,zC,zD,zE,zF,zG,zH,zI,reduceCtorEq]
 all_goals repeat'(first|(apply zP<;>(intro hg;(try simp only [push_cast]at hg)))|(refine⟨_,yB (gl a.next k) _ (hr k),?_⟩;simp only [push_cast,↓zK,↓zJ,↓reduceIte,zA,zB,zC,zD,zE,zF,zG,zH,zI,reduceCtorEq])|apply And.intro|(intro hg;(try simp only [push_cast]at hg)))
 all_goals first|exact gA|(exact zN (by omega))|skip
 all_goals first|(refine hK _ ?_;clear hK K)|(simp only [push_cast];done)
 refine zU rfl (fun hc=> ?_) (fun hc=> ?_)<;>(try simp only [push_cast]at hc)
 ·
  refine zL fun K hK=> ?_
  refine zM zQ zO [] rfl ?_
  all_goals simp only [push_cast,↓zK,↓zJ,↓reduceIte,zA,zB,zC,zD,zE,zF,zG,zH,zI,reduceCtorEq]
  all_goals repeat'(first|(apply zP<;>(intro hg;(try simp only [push_cast]at hg)))|(refine⟨_,yB (gl a.next k) _ (hr k),?_⟩;simp only [push_cast,↓zK,↓zJ,↓reduceIte,zA,zB,zC,zD,zE,zF,zG,zH,zI,reduceCtorEq])|apply And.intro|(intro hg;(try simp only [push_cast]at hg)))
  all_goals first|exact gA|(exact zN (by omega))|skip
  all_goals first|(refine hK _ ?_;clear hK K)|(simp only [push_cast];done)
  refine za ?_
  (try simp only [zS,zT])
  refine⟨Or.inl rfl,?_⟩
  simp only [ze,push_cast,↓zK,↓zJ,↓reduceIte,zA,zB,zC,zD,zE,zF,zG,zH,zI,reduceCtorEq]
  symm
  exact jB (by omega)
 ·
  refine zV ?_
  (try simp only [zS,zT,reduceIte,zF]);refine hK1 _ ?_
  refine zL fun K2 hK2=> ?_
  refine zL fun K hK=> ?_
  refine zM zQ zO [] rfl ?_
  all_goals simp only [push_cast,↓zK,↓zJ,↓reduceIte,zA,zB,zC,zD,zE,zF,zG,zH,zI,reduceCtorEq]
  all_goals repeat'(first|(apply zP<;>(intro hg;(try simp only [push_cast]at hg)))|(refine⟨_,yB (gl a.next k) _ (hr k),?_⟩;simp only [push_cast,↓zK,↓zJ,↓reduceIte,zA,zB,zC,zD,zE,zF,zG,zH,zI,reduceCtorEq])|apply And.intro|(intro hg;(try simp only [push_cast]at hg)))
  all_goals first|exact gA|(exact zN (by omega))|skip
  all_goals first|(refine hK _ ?_;clear hK K)|(simp only [push_cast];done)
  refine zX ?_
  refine zn [6,7,8,17,18,19,20,21,22,23,24,25,26,27,28,29,30,31,32,33,34,35,36,37,38,39,40,41,42,43] [] (fun(k:Nat)=> [(17, .int .i64 k)]) (fun k=> []) (fun k=> []) (fun k=>k≤plan.length∧∀j,j<k→qz a who plan j=true) (fun k=>plan.length - k) 0 ?_ ⟨by omega,fun j hj=>by omega⟩ ?_
  ·
   refine zb rfl ?_ ?_ ?_<;>simp only [zj,zi,push_cast,↓zK,↓zJ,↓reduceIte,zA,zB,zC,zD,zE,zF,zG,zH,zI,reduceCtorEq]
  ·rintro k ⟨hk,hall⟩ KL0 hL0
   have hrk:=hr k
   simp only [push_cast,↓zK,↓zJ,↓reduceIte,zA,zB,zC,zD,zE,zF,zG,zH,zI,reduceCtorEq]
   refine zL fun K hK=> ?_
   refine zM zQ zO [] rfl ?_
   all_goals simp only [push_cast,↓zK,↓zJ,↓reduceIte,zA,zB,zC,zD,zE,zF,zG,zH,zI,reduceCtorEq]
   all_goals repeat'(first|(apply zP<;>(intro hg;(try simp only [push_cast]at hg)))|(refine⟨_,yB (gl a.next k) _ (hr k),?_⟩;simp only [push_cast,↓zK,↓zJ,↓reduceIte,zA,zB,zC,zD,zE,zF,zG,zH,zI,reduceCtorEq])|apply And.intro|(intro hg;(try simp only [push_cast]at hg)))
   all_goals first|exact gA|(exact zN (by omega))|skip
   all_goals first|(refine hK _ ?_;clear hK K)|(simp only [push_cast];done)
   refine zL fun K3 hK3=> ?_
   refine zU rfl (fun hc=> ?_) (fun hc=> ?_)<;>(try simp only [push_cast]at hc)
   ·
    refine zV ?_
    (try simp only [zS,zT,reduceIte,zF]);refine hK3 _ ?_
    refine zL fun K4 hK4=> ?_
    refine zX ?_
    refine zL fun K hK=> ?_
    refine zM zQ zO [] rfl ?_
    all_goals simp only [push_cast,↓zK,↓zJ,↓reduceIte,zA,zB,zC,zD,zE,zF,zG,zH,zI,reduceCtorEq]
    all_goals repeat'(first|(apply zP<;>(intro hg;(try simp only [push_cast]at hg)))|(refine⟨_,yB (gl a.next k) _ (hr k),?_⟩;simp only [push_cast,↓zK,↓zJ,↓reduceIte,zA,zB,zC,zD,zE,zF,zG,zH,zI,reduceCtorEq])|apply And.intro|(intro hg;(try simp only [push_cast]at hg)))
    all_goals first|exact gA|(exact zN (by omega))|skip
    all_goals first|(refine hK _ ?_;clear hK K)|(simp only [push_cast];done)
    refine zL fun K hK=> ?_
    refine zf false zQ zO ?_ rfl ?_
    ·kernel_rfl
    all_goals refine yE 18 fun K9 hK9=> ?_
    all_goals simp only [push_cast,↓zK,↓zJ,↓reduceIte,zA,zB,zC,zD,zE,zF,zG,zH,zI,reduceCtorEq]
    all_goals repeat'(first|(apply zP<;>(intro hg;(try simp only [push_cast]at hg)))|(refine⟨_,yB (gl a.next k) _ (hr k),?_⟩;simp only [push_cast,↓zK,↓zJ,↓reduceIte,zA,zB,zC,zD,zE,zF,zG,zH,zI,reduceCtorEq])|apply And.intro|(intro hg;(try simp only [push_cast]at hg)))
    all_goals first|exact gA|(exact zN (by omega))|skip
    all_goals first|(refine hK9 _ ?_;clear hK9 K9)|(simp only [push_cast];done)
    all_goals simp only [push_cast,↓zK,↓zJ,↓reduceIte,zA,zB,zC,zD,zE,zF,zG,zH,zI,reduceCtorEq]
    all_goals repeat'(first|(apply zP<;>(intro hg;(try simp only [push_cast]at hg)))|(refine⟨_,yB (gl a.next k) _ (hr k),?_⟩;simp only [push_cast,↓zK,↓zJ,↓reduceIte,zA,zB,zC,zD,zE,zF,zG,zH,zI,reduceCtorEq])|apply And.intro|(intro hg;(try simp only [push_cast]at hg)))
    all_goals first|exact gA|(exact zN (by omega))|skip
    all_goals first|(refine hK _ ?_;clear hK K)|(simp only [push_cast];done)
    all_goals refine zU rfl (fun hc=> ?_) (fun hc=> ?_)
    all_goals(first|(cases hc;done)|skip)
    all_goals(try simp only [push_cast]at hc)
    all_goals first
     |(
       refine zV ?_
       (try simp only [zS,zT,reduceIte,zF]);refine hK4 _ ?_
       refine zM zQ zO [] rfl ?_
       all_goals simp only [push_cast,↓zK,↓zJ,↓reduceIte,zA,zB,zC,zD,zE,zF,zG,zH,zI,reduceCtorEq]
       all_goals repeat'(first|(apply zP<;>(intro hg;(try simp only [push_cast]at hg)))|(refine⟨_,yB (gl a.next k) _ (hr k),?_⟩;simp only [push_cast,↓zK,↓zJ,↓reduceIte,zA,zB,zC,zD,zE,zF,zG,zH,zI,reduceCtorEq])|apply And.intro|(intro hg;(try simp only [push_cast]at hg)))
       all_goals first|exact gA|(exact zN (by omega))|skip
       refine hL0 _ ⟨k+1,⟨by omega,fun j hj=>(by
         by_cases hjk:j=k
         ·subst hjk;exact JK (by first|exact Or.inl (by omega)|exact Or.inr ⟨by omega,by with_reducible assumption⟩)
         ·exact hall j (by omega))⟩,by omega,?_⟩
       refine zb rfl ?_ ?_ ?_<;>simp only [zj,zi,push_cast,↓zK,↓zJ,↓reduceIte,zA,zB,zC,zD,zE,zF,zG,zH,zI,reduceCtorEq]
       done)
     |(
       refine zL fun K hK=> ?_
       refine zM zQ zO [] rfl ?_
       all_goals simp only [push_cast,↓zK,↓zJ,↓reduceIte,zA,zB,zC,zD,zE,zF,zG,zH,zI,reduceCtorEq]
       all_goals repeat'(first|(apply zP<;>(intro hg;(try simp only [push_cast]at hg)))|(refine⟨_,yB (gl a.next k) _ (hr k),?_⟩;simp only [push_cast,↓zK,↓zJ,↓reduceIte,zA,zB,zC,zD,zE,zF,zG,zH,zI,reduceCtorEq])|apply And.intro|(intro hg;(try simp only [push_cast]at hg)))
       all_goals first|exact gA|(exact zN (by omega))|skip
       all_goals first|(refine hK _ ?_;clear hK K)|(simp only [push_cast];done)
       refine za ?_
       (try simp only [zS,zT])
       refine⟨Or.inl rfl,?_⟩
       simp only [ze,push_cast,↓zK,↓zJ,↓reduceIte,zA,zB,zC,zD,zE,zF,zG,zH,zI,reduceCtorEq]
       symm
       exact uT (v:=k) (by omega) (JJ (by omega) (by first|exact Or.inl (by omega)|exact Or.inr (by with_reducible assumption)))
       done)
   ·
    refine zp ?_
    (try simp only [zS,zT,reduceIte,zF]);refine hK2 _ ?_
    refine zL fun K hK=> ?_
    refine zM zQ zO [] rfl ?_
    all_goals simp only [push_cast,↓zK,↓zJ,↓reduceIte,zA,zB,zC,zD,zE,zF,zG,zH,zI,reduceCtorEq]
    all_goals repeat'(first|(apply zP<;>(intro hg;(try simp only [push_cast]at hg)))|(refine⟨_,yB (gl a.next k) _ (hr k),?_⟩;simp only [push_cast,↓zK,↓zJ,↓reduceIte,zA,zB,zC,zD,zE,zF,zG,zH,zI,reduceCtorEq])|apply And.intro|(intro hg;(try simp only [push_cast]at hg)))
    all_goals first|exact gA|(exact zN (by omega))|skip
    all_goals first|(refine hK _ ?_;clear hK K)|(simp only [push_cast];done)
    refine za ?_
    (try simp only [zS,zT])
    refine⟨Or.inl rfl,?_⟩
    simp only [ze,push_cast,↓zK,↓zJ,↓reduceIte,zA,zB,zC,zD,zE,zF,zG,zH,zI,reduceCtorEq]
    symm
    exact jC (by omega) fun v hv=>hall v (by omega)
end Go.Proofs.Ytggpbepdeilpgaa
