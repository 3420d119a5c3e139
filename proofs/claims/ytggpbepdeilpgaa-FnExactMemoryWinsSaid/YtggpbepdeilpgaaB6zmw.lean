/- the laws' helpers of Memory -/
import Derived.Test.YtggpbepdeilpgaaB4zmw
import Derived.Test.YtggpbepdeilpgaaB5zmw
import Derived.Test.YtggpbepdeilpgaaGEzmw
namespace Go.Proofs.Ytggpbepdeilpgaa
open Nat renaming reduceMod → zA, reduceMul → zB, reduceDiv → zC, reduceAdd → zD, reduceSub → zE, reduceEqDiff → zF, reduceBEq → zG, reduceLT → zH, reduceLeDiff → zI
open Go.RowKit
set_option linter.unusedVariables false
set_option linter.unusedSimpArgs false
structure Me where
 next:List (List Int)
 choice:List (List Int)
 deriving DecidableEq
def dMe (x:Me):List D:= [DII x.next,DII x.choice]
def Me.tot (x:Me):Nat:=xO x.next+xO x.choice
structure Me.Ln (B:Nat)(x:Me):Prop where
 next:qN B x.next
 choice:qN B x.choice
theorem Me.ln_of {B:Nat}{x:Me}(h:x.tot≤B):x.Ln B:=by
 unfold Me.tot at h
 exact⟨Yo (by omega),Yo (by omega)⟩
set_option maxHeartbeats 1000000 in
theorem zFl (x:Me)(l:Int)(h0:0≤l)(h1:l≤1048576)(ha:x.Ln 9223372036854775807):Fn Try.prog tyT 7 [.agg (dMe x), .c (.int .i64 l)] [.c (.int .i64 (szl l x.tot))]:=by
 have ht:x.tot=xO x.next+xO x.choice:=by unfold Me.tot; omega
 unfold dMe
 refine yC (fn:=Try.f7) (ts:= [4]) Try.func7 (by kernel_rfl) rfl rfl (by rw [Try.ntmps7];exact Nat.le_of_ble_eq_true rfl) rfl (by simp only [szA,List.mem_cons,List.not_mem_nil,or_false,forall_eq_or_imp,forall_eq,VT.cells,szL];try decide) ?_
 rw [Try.ntmps7]
 simp only [push_cast,↓zK,↓zJ,↓reduceIte,zA,zB,zC,zD,zE,zF,zG,zH,zI,reduceCtorEq]
 refine zL fun K hK=> ?_
 refine zM zQ zO [] rfl ?_
 simp only [push_cast,↓zK,↓zJ,↓reduceIte,zA,zB,zC,zD,zE,zF,zG,zH,zI,reduceCtorEq]
 repeat' apply And.intro
 all_goals try exact gB
 all_goals first|(refine hK _ ?_;clear hK K)|(simp only [push_cast];done)
 have hA:=KH x.next (l) (by omega) (by omega) ha.next
 refine zL fun K hK=> ?_
 refine zM zQ zO [] rfl ?_
 simp only [push_cast,↓zK,↓zJ,↓reduceIte,zA,zB,zC,zD,zE,zF,zG,zH,zI,reduceCtorEq]
 refine⟨_,hA,?_⟩
 simp only [push_cast,↓zK,↓zJ,↓reduceIte,zA,zB,zC,zD,zE,zF,zG,zH,zI,reduceCtorEq]
 repeat' apply And.intro
 all_goals try exact gB
 refine hK _ ?_
 clear hK K hA
 refine zL fun K0 hK0=> ?_
 refine zL fun K hK=> ?_
 refine zM zQ zO [] rfl ?_
 simp only [push_cast,↓zK,↓zJ,↓reduceIte,zA,zB,zC,zD,zE,zF,zG,zH,zI,reduceCtorEq]
 repeat' apply And.intro
 all_goals try exact gB
 all_goals first|(refine hK _ ?_;clear hK K)|(simp only [push_cast];done)
 by_cases hn0:(l)<(xO x.next:Nat)
 ·rw [yZ hn0]
  refine zU rfl (fun hc=> ?_) (fun hc=> ?_)<;>(try simp only [push_cast]at hc)
  ·
   refine zL fun K hK=> ?_
   refine zM zQ zO [] rfl ?_
   simp only [push_cast,↓zK,↓zJ,↓reduceIte,zA,zB,zC,zD,zE,zF,zG,zH,zI,reduceCtorEq]
   repeat' apply And.intro
   all_goals try exact gB
   all_goals first|(refine hK _ ?_;clear hK K)|(simp only [push_cast];done)
   refine za ?_
   (try simp only [zS,zT])
   refine⟨Or.inl rfl,?_⟩
   simp only [ze,push_cast,↓zK,↓zJ,↓reduceIte,zA,zB,zC,zD,zE,zF,zG,zH,zI,reduceCtorEq]
   rw [yZ (by omega)]
  ·exact absurd hc (by decide)
 ·rw [xI hn0]
  refine zU rfl (fun hc=> ?_) (fun hc=> ?_)<;>(try simp only [push_cast]at hc)
  ·exfalso;omega
  ·refine zV ?_
   (try simp only [zS,zT,reduceIte,zF]);refine hK0 _ ?_
   have hA:=KH x.choice (l - (xO x.next:Nat)) (by omega) (by omega) ha.choice
   refine zL fun K hK=> ?_
   refine zM zQ zO [] rfl ?_
   simp only [push_cast,↓zK,↓zJ,↓reduceIte,zA,zB,zC,zD,zE,zF,zG,zH,zI,reduceCtorEq]
   refine⟨_,hA,?_⟩
   simp only [push_cast,↓zK,↓zJ,↓reduceIte,zA,zB,zC,zD,zE,zF,zG,zH,zI,reduceCtorEq]
   repeat' apply And.intro
   all_goals try exact gB
   refine hK _ ?_
   clear hK K hA
   refine zL fun K1 hK1=> ?_
   refine zL fun K hK=> ?_
   refine zM zQ zO [] rfl ?_
   simp only [push_cast,↓zK,↓zJ,↓reduceIte,zA,zB,zC,zD,zE,zF,zG,zH,zI,reduceCtorEq]
   repeat' apply And.intro
   all_goals try exact gB
   all_goals first|(refine hK _ ?_;clear hK K)|(simp only [push_cast];done)
   by_cases hn1:(l - (xO x.next:Nat))<(xO x.choice:Nat)
   ·rw [yZ hn1]
    refine zU rfl (fun hc=> ?_) (fun hc=> ?_)<;>(try simp only [push_cast]at hc)
    ·
     refine zL fun K hK=> ?_
     refine zM zQ zO [] rfl ?_
     simp only [push_cast,↓zK,↓zJ,↓reduceIte,zA,zB,zC,zD,zE,zF,zG,zH,zI,reduceCtorEq]
     repeat' apply And.intro
     all_goals try exact gB
     all_goals first|(refine hK _ ?_;clear hK K)|(simp only [push_cast];done)
     refine za ?_
     (try simp only [zS,zT])
     refine⟨Or.inl rfl,?_⟩
     simp only [ze,push_cast,↓zK,↓zJ,↓reduceIte,zA,zB,zC,zD,zE,zF,zG,zH,zI,reduceCtorEq]
     rw [yZ (by omega)]
    ·exact absurd hc (by decide)
   ·rw [xI hn1]
    refine zU rfl (fun hc=> ?_) (fun hc=> ?_)<;>(try simp only [push_cast]at hc)
    ·exfalso;omega
    ·refine zV ?_
     (try simp only [zS,zT,reduceIte,zF]);refine hK1 _ ?_
     refine zL fun K hK=> ?_
     refine zM zQ zO [] rfl ?_
     simp only [push_cast,↓zK,↓zJ,↓reduceIte,zA,zB,zC,zD,zE,zF,zG,zH,zI,reduceCtorEq]
     repeat' apply And.intro
     all_goals try exact gB
     all_goals first|(refine hK _ ?_;clear hK K)|(simp only [push_cast];done)
     refine za ?_
     (try simp only [zS,zT])
     refine⟨Or.inl rfl,?_⟩
     simp only [ze,push_cast,↓zK,↓zJ,↓reduceIte,zA,zB,zC,zD,zE,zF,zG,zH,zI,reduceCtorEq]
     rw [xI (by omega)];omega
set_option maxHeartbeats 1000000 in
theorem KM (x:Me)(ha:x.Ln 1048576):Fn Try.prog tyT 11 [.agg (dMe x)] [.agg (dMe x)]:=by
 unfold dMe
 refine jo (fn:=Try.f11) (rs:= [.cell 2 37]) zQ zO Try.func11 (by kernel_rfl) rfl rfl (by rw [Try.ntmps11];exact Nat.le_of_ble_eq_true rfl) rfl (by simp only [szA,List.mem_cons,List.not_mem_nil,or_false,forall_eq_or_imp,forall_eq,VT.cells,szL];try decide) ?_
 rw [Try.ntmps11]
 simp only [push_cast,↓zK,↓zJ,↓reduceIte,zA,zB,zC,zD,zE,zF,zG,zH,zI,reduceCtorEq]
 refine zL fun K hK=> ?_
 refine zM zQ zO [] rfl ?_
 simp only [push_cast,↓zK,↓zJ,↓reduceIte,zA,zB,zC,zD,zE,zF,zG,zH,zI,reduceCtorEq]
 repeat' apply And.intro
 all_goals try exact gB
 all_goals first|(refine hK _ ?_;clear hK K)|(simp only [push_cast];done)
 refine zL fun K hK=> ?_
 refine zM zQ zO [] rfl ?_
 simp only [push_cast,↓zK,↓zJ,↓reduceIte,zA,zB,zC,zD,zE,zF,zG,zH,zI,reduceCtorEq]
 repeat' apply And.intro
 all_goals try exact gB
 all_goals first|(refine hK _ ?_;clear hK K)|(simp only [push_cast];done)
 have hA:=KL x.next ha.next
 refine zL fun K hK=> ?_
 refine zM zQ zO [] rfl ?_
 simp only [push_cast,↓zK,↓zJ,↓reduceIte,zA,zB,zC,zD,zE,zF,zG,zH,zI,reduceCtorEq]
 refine⟨_,hA,?_⟩
 simp only [push_cast,↓zK,↓zJ,↓reduceIte,zA,zB,zC,zD,zE,zF,zG,zH,zI,reduceCtorEq]
 repeat' apply And.intro
 all_goals try exact gB
 refine hK _ ?_
 clear hK K hA
 have hA:=KL x.choice ha.choice
 refine zL fun K hK=> ?_
 refine zM zQ zO [] rfl ?_
 simp only [push_cast,↓zK,↓zJ,↓reduceIte,zA,zB,zC,zD,zE,zF,zG,zH,zI,reduceCtorEq]
 refine⟨_,hA,?_⟩
 simp only [push_cast,↓zK,↓zJ,↓reduceIte,zA,zB,zC,zD,zE,zF,zG,zH,zI,reduceCtorEq]
 repeat' apply And.intro
 all_goals try exact gB
 refine hK _ ?_
 clear hK K hA
 refine zL fun K hK=> ?_
 refine zM zQ zO [] rfl ?_
 simp only [push_cast,↓zK,↓zJ,↓reduceIte,zA,zB,zC,zD,zE,zF,zG,zH,zI,reduceCtorEq]
 repeat' apply And.intro
 all_goals try exact gB
 all_goals first|(refine hK _ ?_;clear hK K)|(simp only [push_cast];done)
 refine za ?_
 (try simp only [zS,zT])
 refine⟨Or.inl rfl,?_⟩
 simp only [ze,qY,Zs,push_cast,↓zK,↓zJ,↓reduceIte,zA,zB,zC,zD,zE,zF,zG,zH,zI,reduceCtorEq]
 try rfl
set_option maxHeartbeats 1000000 in
theorem zE3 (x:Me)(ha:x.Ln 1048576):Fn Try.prog tyT 15 [.agg (dMe x), .agg (dMe x)] [.c (.bool true)]:=by
 unfold dMe
 refine yC (fn:=Try.f15) (ts:= [4]) Try.func15 (by kernel_rfl) rfl rfl (by rw [Try.ntmps15];exact Nat.le_of_ble_eq_true rfl) rfl (by simp only [szA,List.mem_cons,List.not_mem_nil,or_false,forall_eq_or_imp,forall_eq,VT.cells,szL];try decide) ?_
 rw [Try.ntmps15]
 simp only [push_cast,↓zK,↓zJ,↓reduceIte,zA,zB,zC,zD,zE,zF,zG,zH,zI,reduceCtorEq]
 refine zL fun K hK=> ?_
 refine zM zQ zO [] rfl ?_
 simp only [push_cast,↓zK,↓zJ,↓reduceIte,zA,zB,zC,zD,zE,zF,zG,zH,zI,reduceCtorEq]
 repeat' apply And.intro
 all_goals try exact gB
 all_goals first|(refine hK _ ?_;clear hK K)|(simp only [push_cast];done)
 refine zL fun K0 hK0=> ?_
 have hA:=Vv x.next ha.next
 refine zL fun K hK=> ?_
 refine zM zQ zO [] rfl ?_
 simp only [push_cast,↓zK,↓zJ,↓reduceIte,zA,zB,zC,zD,zE,zF,zG,zH,zI,reduceCtorEq]
 refine⟨_,hA,?_⟩
 simp only [push_cast,↓zK,↓zJ,↓reduceIte,zA,zB,zC,zD,zE,zF,zG,zH,zI,reduceCtorEq]
 repeat' apply And.intro
 all_goals try exact gB
 refine hK _ ?_
 clear hK K hA
 refine zU rfl (fun hc=>by cases hc) (fun _=> ?_)
 refine zV ?_
 (try simp only [zS,zT,reduceIte,zF]);refine hK0 _ ?_
 refine zL fun K1 hK1=> ?_
 have hA:=Vv x.choice ha.choice
 refine zL fun K hK=> ?_
 refine zM zQ zO [] rfl ?_
 simp only [push_cast,↓zK,↓zJ,↓reduceIte,zA,zB,zC,zD,zE,zF,zG,zH,zI,reduceCtorEq]
 refine⟨_,hA,?_⟩
 simp only [push_cast,↓zK,↓zJ,↓reduceIte,zA,zB,zC,zD,zE,zF,zG,zH,zI,reduceCtorEq]
 repeat' apply And.intro
 all_goals try exact gB
 refine hK _ ?_
 clear hK K hA
 refine zU rfl (fun hc=>by cases hc) (fun _=> ?_)
 refine zV ?_
 (try simp only [zS,zT,reduceIte,zF]);refine hK1 _ ?_
 refine zL fun K hK=> ?_
 refine zM zQ zO [] rfl ?_
 simp only [push_cast,↓zK,↓zJ,↓reduceIte,zA,zB,zC,zD,zE,zF,zG,zH,zI,reduceCtorEq]
 repeat' apply And.intro
 all_goals try exact gB
 all_goals first|(refine hK _ ?_;clear hK K)|(simp only [push_cast];done)
 refine za ?_
 (try simp only [zS,zT])
 refine⟨Or.inl rfl,?_⟩
 simp only [ze,push_cast,↓zK,↓zJ,↓reduceIte,zA,zB,zC,zD,zE,zF,zG,zH,zI,reduceCtorEq]
def Me.cnt (x:Me):Nat:=qJ x.next+qJ x.choice
theorem Me.ln_mono {B C:Nat}(hB:B≤C){x:Me}(h:x.Ln B):x.Ln C:=⟨qN.mono hB h.next,qN.mono hB h.choice⟩
open Go.ChangeShapes Go.WideShapes Go.ChangeAt Go.RowKit Go.Deep Go.Joins
structure Me.Rg (x:Me):Prop where
 next:jv x.next
 choice:jv x.choice
section
variable {H:Type} {enc:TypeId×Value→H} {W:World} {lo:Nat}
set_option maxRecDepth 100000 in
theorem zFV {fuel:Nat}{cs:List Value}{x:DataW H×List MemPlace}(h:Tro enc W fuel 28 cs x): ∃a:Me,jx lo W (dMe a) cs∧a.Rg∧a.Ln 9223372036854775807:=by
 obtain⟨y0,y1,n,_,hl,h0,h1⟩:=trod_struct2 Try.underlying28 h
 rw [show Try.prog.cellsOf 28=2 from by kernel_rfl]at hl
 obtain⟨c0,c1,rfl⟩:=zA9 hl
 rw [show Try.prog.cellsOf 23=1 from by kernel_rfl]at h0
 rw [show Try.prog.cellsOf 23=1 from by kernel_rfl]at h1
 simp at h0 h1
 obtain⟨v0,a0,e0,r0,g0,l0⟩:=KE (lo:=lo) h0
 simp only [List.cons.injEq,and_true]at e0
 subst e0
 obtain⟨v1,a1,e1,r1,g1,l1⟩:=KE (lo:=lo) h1
 simp only [List.cons.injEq,and_true]at e1
 subst e1
 exact⟨⟨a0,a1⟩,Qu (vw r0) (vw r1),⟨g0,g1⟩,⟨l0,l1⟩⟩
set_option maxRecDepth 100000 in
theorem zF7 {base:Nat}{v:Value}{d:DataW H}{p:List MemPlace}(hv:Value.okWide Try.prog W .any base 28 v)(h:DataW.Trod enc Try.prog W 0 (fun _=>true) true 28 v d p): ∃a:Me,wD (sz tyT) lo W (fun _=>none) (.agg (dMe a)) v∧a.Rg∧a.Ln 9223372036854775807:=by
 obtain⟨cs,rfl,hsz⟩:=okWide_struct Try.underlying28 hv
 obtain⟨fuel,hf⟩:=h
 obtain⟨a,h1,h2⟩:=zFV (lo:=lo) hf
 exact⟨a,⟨cs.toList,by simp,h1⟩,h2⟩
end
structure Pr.Rg (x:Pr):Prop where
 ask:RgI x.ask
 give:RgI x.give
section
variable {H:Type} {enc:TypeId×Value→H} {W:World} {lo:Nat}
set_option maxRecDepth 100000 in
theorem zFX {fuel:Nat}{cs:List Value}{x:DataW H×List MemPlace}(h:Tro enc W fuel 68 cs x): ∃a:Pr,jx lo W (dPr a) cs∧a.Rg∧a.Ln 9223372036854775807:=by
 obtain⟨y0,y1,n,_,hl,h0,h1⟩:=trod_struct2 Try.underlying68 h
 rw [show Try.prog.cellsOf 68=2 from by kernel_rfl]at hl
 obtain⟨c0,c1,rfl⟩:=zA9 hl
 rw [show Try.prog.cellsOf 22=1 from by kernel_rfl]at h0
 rw [show Try.prog.cellsOf 22=1 from by kernel_rfl]at h1
 simp at h0 h1
 obtain⟨v0,a0,e0,r0,g0,l0⟩:=JD (lo:=lo) h0
 simp only [List.cons.injEq,and_true]at e0
 subst e0
 obtain⟨v1,a1,e1,r1,g1,l1⟩:=JD (lo:=lo) h1
 simp only [List.cons.injEq,and_true]at e1
 subst e1
 exact⟨⟨a0,a1⟩,Qu (vw r0) (vw r1),⟨g0,g1⟩,⟨l0,l1⟩⟩
end
def ilv (ps:List Pr):List (List Int):=ps.flatMap fun p=> [p.ask,p.give]
def gp (ps:List Pr)(k:Nat):Pr:=ps.getD k ⟨[],[]⟩
theorem qj (p:Pr)(ps:List Pr):ilv (p::ps)=p.ask::p.give::ilv ps:=rfl
theorem m2d (n:Nat):n*2 / 2=n:=by omega
theorem Zb (ps:List Pr):(ilv ps).length=ps.length*2:=by
 induction ps with
 |nil=>rfl
 |cons p ps ih=>rw [qj,List.length_cons,List.length_cons,ih,List.length_cons];omega
theorem zFE (ps:List Pr)(k:Nat):gl (ilv ps) (k*2)=(gp ps k).ask:=by
 induction ps generalizing k with
 |nil=>rfl
 |cons p ps ih=>
  cases k with
  |zero=>rfl
  |succ k=>rw [show(k+1)*2=k*2+1+1 from by omega,qj];exact ih k
theorem zFF (ps:List Pr)(k:Nat):gl (ilv ps) (k*2+1)=(gp ps k).give:=by
 induction ps generalizing k with
 |nil=>rfl
 |cons p ps ih=>
  cases k with
  |zero=>rfl
  |succ k=>rw [show(k+1)*2+1=k*2+1+1+1 from by omega,qj];exact ih k
theorem zEL {ps:List Pr}{k:Nat}(h:k<ps.length):ps[k]? =some (gp ps k):=by
 unfold gp
 rw [List.getD_eq_getElem?_getD,List.getElem?_eq_getElem h]
 rfl
theorem zGb {ps:List Pr}{k:Nat}(h:k<ps.length):gp ps k∈ps:=List.mem_of_getElem? (zEL h)
theorem uq {ps:List Pr}{k:Nat}(h:k<ps.length):ps.take (k+1)=ps.take k++ [gp ps k]:=by rw [List.take_add_one,zEL h];rfl
attribute [push_cast] m2d Zb zFE zFF
def cP (ps:List Pr):Nat:=qJ (ilv ps)
theorem Js (ps qs:List Pr):ilv (ps++qs)=ilv ps++ilv qs:=List.flatMap_append ..
theorem zEu {ps:List Pr}{k:Nat}(h:k<ps.length):cP (ps.take (k+1))=cP (ps.take k)+(gp ps k).tot:=by
 unfold cP Pr.tot
 rw [uq h,Js,Vk]
 simp [ilv,qJ]
theorem zAs (ps:List Pr)(k:Nat):cP (ps.take k)≤cP ps:=by
 have h:=List.take_append_drop k ps
 have h2:cP (ps.take k++ps.drop k)=cP (ps.take k)+cP (ps.drop k):=by unfold cP;rw [Js,Vk]
 rw [h]at h2
 omega
theorem zD4 (ps:List Pr)(k:Nat):(ilv ps).take (k*2)=ilv (ps.take k):=by
 induction ps generalizing k with
 |nil=>simp [ilv]
 |cons p ps ih=>
  cases k with
  |zero=>simp [ilv]
  |succ k=>rw [show(k+1)*2=k*2+1+1 from by omega,qj,List.take_succ_cons,List.take_succ_cons,ih,List.take_succ_cons,qj]
theorem zDN (ps:List Pr)(k:Nat):(ilv ps).drop (k*2)=ilv (ps.drop k):=by
 induction ps generalizing k with
 |nil=>simp [ilv]
 |cons p ps ih=>
  cases k with
  |zero=>simp [ilv]
  |succ k=>rw [show(k+1)*2=k*2+1+1 from by omega,qj,List.drop_succ_cons,List.drop_succ_cons,ih,List.drop_succ_cons]
theorem zCl (ps:List Pr):(ilv ps).take (ps.length*2)=ilv ps:=List.take_of_length_le (by rw [Zb];exact Nat.le_refl _)
attribute [push_cast] zCl
def PLn (B:Nat)(ps:List Pr):Prop:=ps.length≤B∧∀p∈ps,p.Ln B
def Zw (ps:List Pr):Nat:=ps.length+cP ps
theorem Xa {B:Nat}{ps:List Pr}(h:PLn B ps)(k:Nat):(gp ps k).Ln B:=by
 rcases Nat.lt_or_ge k ps.length with hk|hk
 ·exact h.2 _ (zGb hk)
 ·unfold gp
  rw [List.getD_eq_getElem?_getD,List.getElem?_eq_none hk]
  exact⟨Nat.zero_le _,Nat.zero_le _⟩
theorem zF9 {ps:List Pr}{p:Pr}(h:p∈ps):p.tot≤cP ps:=by
 induction ps with
 |nil=>simp at h
 |cons q ps ih=>
  have e:cP (q::ps)=q.tot+cP ps:=by unfold cP Pr.tot;rw [qj];simp [qJ];omega
  rcases List.mem_cons.1 h with rfl|h
  ·omega
  ·have :=ih h;omega
theorem zFy {B:Nat}{ps:List Pr}(h:Zw ps≤B):PLn B ps:=by
 unfold Zw at h
 exact⟨by omega,fun p hp=>Pr.ln_of (by have :=zF9 hp;omega)⟩
theorem PLn.mono {B C:Nat}(hB:B≤C){ps:List Pr}(h:PLn B ps):PLn C ps:=⟨Nat.le_trans h.1 hB,fun p hp=>Pr.ln_mono hB (h.2 p hp)⟩
def Yj (ps:List Pr)(k:Nat):List Pr:=ps.take k++List.replicate (ps.length - k) ⟨[],[]⟩
theorem zDm {ps:List Pr}{k:Nat}(h:k≤ps.length):(Yj ps k).length=ps.length:=by simp [Yj];omega
theorem zDl (ps:List Pr):Yj ps ps.length=ps:=by simp [Yj]
theorem zDn {ps:List Pr}{k:Nat}(h:k<ps.length):(Yj ps k).set k (gp ps k)=Yj ps (k+1):=by
 have hk:(ps.take k).length=k:=by rw [List.length_take];omega
 unfold Yj
 rw [List.set_append_right _ _ (by omega),hk,Nat.sub_self,show ps.length - k=(ps.length - (k+1))+1 from by omega,List.replicate_succ,List.set_cons_zero,uq h,List.append_assoc]
 rfl
theorem zGr (ps:List Pr):(List.replicate ps.length [D.lst 2 [],D.lst 2 []]).flatten=dII (ilv (Yj ps 0)):=by
 unfold Yj
 rw [Nat.sub_zero,List.take_zero,List.nil_append]
 generalize ps.length=n
 induction n with
 |zero=>rfl
 |succ n ih=>rw [List.replicate_succ,List.flatten_cons,ih,List.replicate_succ,qj];rfl
theorem zDZ {ps:List Pr}{k:Nat}{x y:List Int}(h:k<ps.length):dII (List.take (k*2) (ilv ps))++ [D.lst 2 (dI x),D.lst 2 (dI y)]++dII (List.drop (k*2+2) (ilv ps))=dII (ilv (ps.set k ⟨x,y⟩)):=by
 rw [show k*2+2=(k+1)*2 from by omega,zD4,zDN,List.set_eq_take_append_cons_drop,if_pos h,Js,qj]
 simp [dII]
def lz (l:Int)(ps:List Pr)(k:Nat):Int:=l - ps.length - cP (ps.take k)
theorem lz_0 (l:Int)(ps:List Pr):lz l ps 0=l - ps.length:=by unfold lz;rw [List.take_zero,show cP []=0 from rfl];omega
theorem lz_s {l:Int}{ps:List Pr}{k:Nat}(h:k<ps.length):lz l ps (k+1)=lz l ps k - (gp ps k).tot:=by unfold lz;rw [zEu h];omega
theorem zCG (l:Int)(ps:List Pr):lz l ps ps.length=l - Zw ps:=by unfold lz Zw;rw [List.take_length];omega
theorem zEQ (l:Int)(ps:List Pr)(k:Nat):l - Zw ps≤lz l ps k∧lz l ps k≤l:=by have :=zAs ps k;unfold lz Zw;omega
theorem zG3 {l:Int}{t:Nat}(hl:0≤l)(h:szl l t<0):l<t:=by
 by_cases h9:l<t
 ·exact h9
 ·rw [xI h9]at h;omega
theorem zCk {l:Int}{t:Nat}(h: ¬szl l t<0): ¬l<t:=fun h9=>h (by rw [yZ h9];omega)
set_option maxRecDepth 20000 in
set_option maxHeartbeats 4000000 in
theorem zFm (ps:List Pr)(l:Int)(h0:0≤l)(h1:l≤1048576)(ha:PLn 9223372036854775807 ps):Fn Try.prog tyT 6 [.c (.lst 68 (dII (ilv ps))), .c (.int .i64 l)] [.c (.int .i64 (szl l (Zw ps)))]:=by
 have hl:=ha.1
 have hQ:=fun k (m:Int) (g1:0≤m) (g2:m≤1048576)=>zFn (gp ps k) m g1 g2 (Xa ha k)
 unfold dPr at hQ
 refine yC (fn:=Try.f6) (ts:= [4]) Try.func6 (by kernel_rfl) rfl rfl (by rw [Try.ntmps6];exact Nat.le_of_ble_eq_true rfl) rfl (by simp only [szA,List.mem_cons,List.not_mem_nil,or_false,forall_eq_or_imp,forall_eq,VT.cells,szL];try decide) ?_
 rw [Try.ntmps6]
 simp only [push_cast,↓zK,↓zJ,↓reduceIte,zA,zB,zC,zD,zE,zF,zG,zH,zI,reduceCtorEq]
 refine zL fun K hK=> ?_
 refine zM zQ zO [] rfl ?_
 all_goals simp only [push_cast,↓zK,↓zJ,↓reduceIte,zA,zB,zC,zD,zE,zF,zG,zH,zI,reduceCtorEq]
 all_goals repeat'(first|(apply zP<;>(intro hg;(try simp only [push_cast]at hg)))|apply And.intro|(intro hg;(try simp only [push_cast]at hg)))
 all_goals first|exact gA|(exact zN (by simp only [push_cast];omega))|skip
 all_goals first|(refine hK _ ?_;clear hK K)|(simp only [push_cast];done)
 refine zL fun K hK=> ?_
 refine zM zQ zO [] rfl ?_
 all_goals simp only [push_cast,↓zK,↓zJ,↓reduceIte,zA,zB,zC,zD,zE,zF,zG,zH,zI,reduceCtorEq]
 all_goals repeat'(first|(apply zP<;>(intro hg;(try simp only [push_cast]at hg)))|apply And.intro|(intro hg;(try simp only [push_cast]at hg)))
 all_goals first|exact gA|(exact zN (by simp only [push_cast];omega))|skip
 all_goals first|(refine hK _ ?_;clear hK K)|(simp only [push_cast];done)
 refine zL fun K1 hK1=> ?_
 refine zL fun K hK=> ?_
 refine zM zQ zO [] rfl ?_
 all_goals simp only [push_cast,↓zK,↓zJ,↓reduceIte,zA,zB,zC,zD,zE,zF,zG,zH,zI,reduceCtorEq]
 all_goals repeat'(first|(apply zP<;>(intro hg;(try simp only [push_cast]at hg)))|apply And.intro|(intro hg;(try simp only [push_cast]at hg)))
 all_goals first|exact gA|(exact zN (by simp only [push_cast];omega))|skip
 all_goals first|(refine hK _ ?_;clear hK K)|(simp only [push_cast];done)
 refine zU rfl (fun hc=> ?_) (fun hc=> ?_)<;>(try simp only [push_cast]at hc)
 ·
  refine zL fun K hK=> ?_
  refine zM zQ zO [] rfl ?_
  all_goals simp only [push_cast,↓zK,↓zJ,↓reduceIte,zA,zB,zC,zD,zE,zF,zG,zH,zI,reduceCtorEq]
  all_goals repeat'(first|(apply zP<;>(intro hg;(try simp only [push_cast]at hg)))|apply And.intro|(intro hg;(try simp only [push_cast]at hg)))
  all_goals first|exact gA|(exact zN (by simp only [push_cast];omega))|skip
  all_goals first|(refine hK _ ?_;clear hK K)|(simp only [push_cast];done)
  refine za ?_
  (try simp only [zS,zT])
  refine⟨Or.inl rfl,?_⟩
  simp only [ze,push_cast,↓zK,↓zJ,↓reduceIte,zA,zB,zC,zD,zE,zF,zG,zH,zI,reduceCtorEq]
  rw [yZ (by unfold Zw;omega)]
 ·
  refine zV ?_
  (try simp only [zS,zT,reduceIte,zF]);refine hK1 _ ?_
  refine zL fun K2 hK2=> ?_
  refine zL fun K hK=> ?_
  refine zM zQ zO [] rfl ?_
  all_goals simp only [push_cast,↓zK,↓zJ,↓reduceIte,zA,zB,zC,zD,zE,zF,zG,zH,zI,reduceCtorEq]
  all_goals repeat'(first|(apply zP<;>(intro hg;(try simp only [push_cast]at hg)))|apply And.intro|(intro hg;(try simp only [push_cast]at hg)))
  all_goals first|exact gA|(exact zN (by simp only [push_cast];omega))|skip
  all_goals first|(refine hK _ ?_;clear hK K)|(simp only [push_cast];done)
  refine zX ?_
  refine zn [1,4,5,12,13,14,15,16,17,18,19,20,21,22,23,24,25] [] (fun(k:Nat)=> [(5, .int .i64 k),(1, .int .i64 (lz l ps k))]) (fun k=> []) (fun k=> []) (fun k=>k≤ps.length∧0≤lz l ps k) (fun k=>ps.length - k) 0 ?_ ⟨by omega,by rw [lz_0];omega⟩ ?_
  ·
   rw [lz_0]
   refine zb rfl ?_ ?_ ?_<;>simp only [zj,zi,push_cast,↓zK,↓zJ,↓reduceIte,zA,zB,zC,zD,zE,zF,zG,zH,zI,reduceCtorEq]
  ·rintro k ⟨hk,hm⟩ KL0 hL0
   have hlz:=zEQ l ps k
   simp only [push_cast,↓zK,↓zJ,↓reduceIte,zA,zB,zC,zD,zE,zF,zG,zH,zI,reduceCtorEq]
   refine zL fun K3 hK3=> ?_
   refine zL fun K hK=> ?_
   refine zM zQ zO [] rfl ?_
   all_goals simp only [push_cast,↓zK,↓zJ,↓reduceIte,zA,zB,zC,zD,zE,zF,zG,zH,zI,reduceCtorEq]
   all_goals repeat'(first|(apply zP<;>(intro hg;(try simp only [push_cast]at hg)))|apply And.intro|(intro hg;(try simp only [push_cast]at hg)))
   all_goals first|exact gA|(exact zN (by simp only [push_cast];omega))|skip
   all_goals first|(refine hK _ ?_;clear hK K)|(simp only [push_cast];done)
   refine zU rfl (fun hc=> ?_) (fun hc=> ?_)<;>(try simp only [push_cast]at hc)
   ·
    refine zV ?_
    (try simp only [zS,zT,reduceIte,zF]);refine hK3 _ ?_
    refine zL fun K4 hK4=> ?_
    refine zX ?_
    refine zL fun K hK=> ?_
    refine zM zQ zO [] rfl ?_
    all_goals refine vF 6 fun K9 hK9=> ?_
    all_goals simp only [push_cast,↓zK,↓zJ,↓reduceIte,zA,zB,zC,zD,zE,zF,zG,zH,zI,reduceCtorEq]
    all_goals repeat'(first|(apply zP<;>(intro hg;(try simp only [push_cast]at hg)))|(refine⟨_,hQ k (lz l ps k) (by omega) (by omega),?_⟩;simp only [push_cast,↓zK,↓zJ,↓reduceIte,zA,zB,zC,zD,zE,zF,zG,zH,zI,reduceCtorEq])|apply And.intro|(intro hg;(try simp only [push_cast]at hg)))
    all_goals first|exact gA|(exact zN (by simp only [push_cast];omega))|skip
    all_goals first|(refine hK9 _ ?_;clear hK9 K9)|(simp only [push_cast];done)
    all_goals simp only [push_cast,↓zK,↓zJ,↓reduceIte,zA,zB,zC,zD,zE,zF,zG,zH,zI,reduceCtorEq]
    all_goals repeat'(first|(apply zP<;>(intro hg;(try simp only [push_cast]at hg)))|(refine⟨_,hQ k (lz l ps k) (by omega) (by omega),?_⟩;simp only [push_cast,↓zK,↓zJ,↓reduceIte,zA,zB,zC,zD,zE,zF,zG,zH,zI,reduceCtorEq])|apply And.intro|(intro hg;(try simp only [push_cast]at hg)))
    all_goals first|exact gA|(exact zN (by simp only [push_cast];omega))|skip
    all_goals first|(refine hK _ ?_;clear hK K)|(simp only [push_cast];done)
    refine zL fun K hK=> ?_
    refine zM zQ zO [] rfl ?_
    all_goals simp only [push_cast,↓zK,↓zJ,↓reduceIte,zA,zB,zC,zD,zE,zF,zG,zH,zI,reduceCtorEq]
    all_goals repeat'(first|(apply zP<;>(intro hg;(try simp only [push_cast]at hg)))|apply And.intro|(intro hg;(try simp only [push_cast]at hg)))
    all_goals first|exact gA|(exact zN (by simp only [push_cast];omega))|skip
    all_goals first|(refine hK _ ?_;clear hK K)|(simp only [push_cast];done)
    refine zU rfl (fun hc=> ?_) (fun hc=> ?_)<;>(try simp only [push_cast]at hc)
    ·
     refine zL fun K hK=> ?_
     refine zM zQ zO [] rfl ?_
     all_goals simp only [push_cast,↓zK,↓zJ,↓reduceIte,zA,zB,zC,zD,zE,zF,zG,zH,zI,reduceCtorEq]
     all_goals repeat'(first|(apply zP<;>(intro hg;(try simp only [push_cast]at hg)))|apply And.intro|(intro hg;(try simp only [push_cast]at hg)))
     all_goals first|exact gA|(exact zN (by simp only [push_cast];omega))|skip
     all_goals first|(refine hK _ ?_;clear hK K)|(simp only [push_cast];done)
     refine za ?_
     (try simp only [zS,zT])
     refine⟨Or.inl rfl,?_⟩
     simp only [ze,push_cast,↓zK,↓zJ,↓reduceIte,zA,zB,zC,zD,zE,zF,zG,zH,zI,reduceCtorEq]
     have h8:=zG3 hm hc
     have h7:=zEQ l ps (k+1)
     rw [lz_s (by omega)]at h7
     rw [yZ (by omega)]
    ·
     refine zV ?_
     (try simp only [zS,zT,reduceIte,zF]);refine hK4 _ ?_
     refine zM zQ zO [] rfl ?_
     all_goals simp only [push_cast,↓zK,↓zJ,↓reduceIte,zA,zB,zC,zD,zE,zF,zG,zH,zI,reduceCtorEq]
     all_goals repeat'(first|(apply zP<;>(intro hg;(try simp only [push_cast]at hg)))|apply And.intro|(intro hg;(try simp only [push_cast]at hg)))
     all_goals first|exact gA|(exact zN (by simp only [push_cast];omega))|skip
     refine hL0 _ ⟨k+1,⟨by omega,by rw [lz_s (by omega)];have :=zCk hc;omega⟩,by omega,?_⟩
     rw [xI (zCk hc),←lz_s (by omega)]
     refine zb rfl ?_ ?_ ?_<;>simp only [zj,zi,push_cast,↓zK,↓zJ,↓reduceIte,zA,zB,zC,zD,zE,zF,zG,zH,zI,reduceCtorEq]
   ·
    refine zp ?_
    have hkk:k=ps.length:=by omega
    subst hkk
    rw [zCG]
    rw [zCG]at hm
    (try simp only [zS,zT,reduceIte,zF]);refine hK2 _ ?_
    refine zL fun K hK=> ?_
    refine zM zQ zO [] rfl ?_
    all_goals simp only [push_cast,↓zK,↓zJ,↓reduceIte,zA,zB,zC,zD,zE,zF,zG,zH,zI,reduceCtorEq]
    all_goals repeat'(first|(apply zP<;>(intro hg;(try simp only [push_cast]at hg)))|apply And.intro|(intro hg;(try simp only [push_cast]at hg)))
    all_goals first|exact gA|(exact zN (by simp only [push_cast];omega))|skip
    all_goals first|(refine hK _ ?_;clear hK K)|(simp only [push_cast];done)
    refine za ?_
    (try simp only [zS,zT])
    refine⟨Or.inl rfl,?_⟩
    simp only [ze,push_cast,↓zK,↓zJ,↓reduceIte,zA,zB,zC,zD,zE,zF,zG,zH,zI,reduceCtorEq]
    rw [xI (by omega)]
set_option maxRecDepth 20000 in
set_option maxHeartbeats 4000000 in
theorem KN (ps:List Pr)(ha:PLn 1048576 ps):Fn Try.prog tyT 10 [.c (.lst 68 (dII (ilv ps)))] [.c (.lst 76 (dII (ilv ps)))]:=by
 have hl:=ha.1
 have hQ:=fun k=>zFr (gp ps k) (Xa ha k)
 unfold dPr at hQ
 refine yC (fn:=Try.f10) (ts:= [2]) Try.func10 (by kernel_rfl) rfl rfl (by rw [Try.ntmps10];exact Nat.le_of_ble_eq_true rfl) rfl (by simp only [szA,List.mem_cons,List.not_mem_nil,or_false,forall_eq_or_imp,forall_eq,VT.cells,szL];try decide) ?_
 rw [Try.ntmps10]
 simp only [push_cast,↓zK,↓zJ,↓reduceIte,zA,zB,zC,zD,zE,zF,zG,zH,zI,reduceCtorEq]
 refine zL fun K hK=> ?_
 refine zM zQ zO [] rfl ?_
 all_goals simp only [push_cast,↓zK,↓zJ,↓reduceIte,zA,zB,zC,zD,zE,zF,zG,zH,zI,reduceCtorEq]
 all_goals repeat'(first|(apply zP<;>(intro hg;(try simp only [push_cast]at hg)))|apply And.intro|(intro hg;(try simp only [push_cast]at hg)))
 all_goals first|exact gA|(exact zN (by simp only [push_cast];omega))|skip
 all_goals first|(refine hK _ ?_;clear hK K)|(simp only [push_cast];done)
 refine zL fun K hK=> ?_
 refine zM zQ zO [] rfl ?_
 all_goals simp only [push_cast,↓zK,↓zJ,↓reduceIte,zA,zB,zC,zD,zE,zF,zG,zH,zI,reduceCtorEq]
 all_goals repeat'(first|(apply zP<;>(intro hg;(try simp only [push_cast]at hg)))|apply And.intro|(intro hg;(try simp only [push_cast]at hg)))
 all_goals first|exact gA|(exact zN (by simp only [push_cast];omega))|skip
 all_goals first|(refine hK _ ?_;clear hK K)|(simp only [push_cast];done)
 refine zL fun K1 hK1=> ?_
 refine zL fun K hK=> ?_
 refine zM zQ zO [] rfl ?_
 all_goals simp only [push_cast,↓zK,↓zJ,↓reduceIte,zA,zB,zC,zD,zE,zF,zG,zH,zI,reduceCtorEq]
 all_goals repeat'(first|(apply zP<;>(intro hg;(try simp only [push_cast]at hg)))|apply And.intro|(intro hg;(try simp only [push_cast]at hg)))
 all_goals first|exact gA|(exact zN (by simp only [push_cast];omega))|skip
 all_goals first|(refine hK _ ?_;clear hK K)|(simp only [push_cast];done)
 refine zX ?_
 refine zn [3,4,8,9,10,11,12,13,14,15,16,17,18,19,20,21] [48] (fun(k:Nat)=> [(4, .int .i64 k),(3, .sl 48 [] 0 ps.length 76)]) (fun k=> []) (fun k=> [(48,⟨.ex,76,dII (ilv (Yj ps k)),none⟩)]) (fun k=>k≤ps.length) (fun k=>ps.length - k) 0 ?_ (by omega) ?_
 ·
  rw [zGr]
  refine zb rfl ?_ ?_ ?_<;>simp only [zj,zi,push_cast,↓zK,↓zJ,↓reduceIte,zA,zB,zC,zD,zE,zF,zG,zH,zI,reduceCtorEq]
 ·rintro k hk KL0 hL0
  have hpl:=zDm hk
  simp only [push_cast,↓zK,↓zJ,↓reduceIte,zA,zB,zC,zD,zE,zF,zG,zH,zI,reduceCtorEq]
  refine zL fun K2 hK2=> ?_
  refine zL fun K hK=> ?_
  refine zM zQ zO [] rfl ?_
  all_goals simp only [push_cast,↓zK,↓zJ,↓reduceIte,zA,zB,zC,zD,zE,zF,zG,zH,zI,reduceCtorEq]
  all_goals repeat'(first|(apply zP<;>(intro hg;(try simp only [push_cast]at hg)))|apply And.intro|(intro hg;(try simp only [push_cast]at hg)))
  all_goals first|exact gA|(exact zN (by simp only [push_cast];omega))|skip
  all_goals first|(refine hK _ ?_;clear hK K)|(simp only [push_cast];done)
  refine zU rfl (fun hc=> ?_) (fun hc=> ?_)<;>(try simp only [push_cast]at hc)
  ·
   refine zV ?_
   (try simp only [zS,zT,reduceIte,zF]);refine hK2 _ ?_
   refine zL fun K3 hK3=> ?_
   refine zX ?_
   refine zf true zQ zO ?_ rfl ?_
   ·kernel_rfl
   simp only [push_cast,↓zK,↓zJ,↓reduceIte,zA,zB,zC,zD,zE,zF,zG,zH,zI,reduceCtorEq]
   all_goals repeat'(first|(apply zP<;>(intro hg;(try simp only [push_cast]at hg)))|(refine⟨_,hQ k,?_⟩;simp only [push_cast,↓zK,↓zJ,↓reduceIte,zA,zB,zC,zD,zE,zF,zG,zH,zI,reduceCtorEq])|apply And.intro|(intro hg;(try simp only [push_cast]at hg)))
   all_goals first|exact gA|(exact zN (by simp only [push_cast];omega))|skip
   (try simp only [zS,zT,reduceIte,zF]);refine hK3 _ ?_
   refine zM zQ zO [] rfl ?_
   all_goals simp only [push_cast,↓zK,↓zJ,↓reduceIte,zA,zB,zC,zD,zE,zF,zG,zH,zI,reduceCtorEq]
   all_goals repeat'(first|(apply zP<;>(intro hg;(try simp only [push_cast]at hg)))|apply And.intro|(intro hg;(try simp only [push_cast]at hg)))
   all_goals first|exact gA|(exact zN (by simp only [push_cast];omega))|skip
   refine hL0 _ ⟨k+1,by omega,by omega,?_⟩
   rw [zDZ (by omega),zDn (by omega)]
   refine zb rfl ?_ ?_ ?_<;>simp only [zj,zi,push_cast,↓zK,↓zJ,↓reduceIte,zA,zB,zC,zD,zE,zF,zG,zH,zI,reduceCtorEq]
  ·
   refine zp ?_
   have hkk:k=ps.length:=by omega
   subst hkk
   rw [zDl]
   (try simp only [zS,zT,reduceIte,zF]);refine hK1 _ ?_
   refine zL fun K hK=> ?_
   refine zM zQ zO [] rfl ?_
   all_goals simp only [push_cast,↓zK,↓zJ,↓reduceIte,zA,zB,zC,zD,zE,zF,zG,zH,zI,reduceCtorEq]
   all_goals repeat'(first|(apply zP<;>(intro hg;(try simp only [push_cast]at hg)))|apply And.intro|(intro hg;(try simp only [push_cast]at hg)))
   all_goals first|exact gA|(exact zN (by simp only [push_cast];omega))|skip
   all_goals first|(refine hK _ ?_;clear hK K)|(simp only [push_cast];done)
   refine za ?_
   (try simp only [zS,zT])
   refine⟨Or.inl rfl,?_⟩
   simp only [ze,push_cast,↓zK,↓zJ,↓reduceIte,zA,zB,zC,zD,zE,zF,zG,zH,zI,reduceCtorEq]
set_option maxRecDepth 20000 in
set_option maxHeartbeats 4000000 in
theorem zE4 (ps:List Pr)(ha:PLn 1048576 ps):Fn Try.prog tyT 14 [.c (.lst 76 (dII (ilv ps))), .c (.lst 76 (dII (ilv ps)))] [.c (.bool true)]:=by
 have hl:=ha.1
 have hQ:=fun k=>zE5 (gp ps k) (Xa ha k)
 unfold dPr at hQ
 refine yC (fn:=Try.f14) (ts:= [4]) Try.func14 (by kernel_rfl) rfl rfl (by rw [Try.ntmps14];exact Nat.le_of_ble_eq_true rfl) rfl (by simp only [szA,List.mem_cons,List.not_mem_nil,or_false,forall_eq_or_imp,forall_eq,VT.cells,szL];try decide) ?_
 rw [Try.ntmps14]
 simp only [push_cast,↓zK,↓zJ,↓reduceIte,zA,zB,zC,zD,zE,zF,zG,zH,zI,reduceCtorEq]
 refine zL fun K hK=> ?_
 refine zM zQ zO [] rfl ?_
 all_goals simp only [push_cast,↓zK,↓zJ,↓reduceIte,zA,zB,zC,zD,zE,zF,zG,zH,zI,reduceCtorEq]
 all_goals repeat'(first|(apply zP<;>(intro hg;(try simp only [push_cast]at hg)))|apply And.intro|(intro hg;(try simp only [push_cast]at hg)))
 all_goals first|exact gA|(exact zN (by simp only [push_cast];omega))|skip
 all_goals first|(refine hK _ ?_;clear hK K)|(simp only [push_cast];done)
 refine zL fun K1 hK1=> ?_
 refine zL fun K hK=> ?_
 refine zM zQ zO [] rfl ?_
 all_goals simp only [push_cast,↓zK,↓zJ,↓reduceIte,zA,zB,zC,zD,zE,zF,zG,zH,zI,reduceCtorEq]
 all_goals repeat'(first|(apply zP<;>(intro hg;(try simp only [push_cast]at hg)))|apply And.intro|(intro hg;(try simp only [push_cast]at hg)))
 all_goals first|exact gA|(exact zN (by simp only [push_cast];omega))|skip
 all_goals first|(refine hK _ ?_;clear hK K)|(simp only [push_cast];done)
 refine zU rfl (fun hc=> ?_) (fun hc=> ?_)
 skip
 ·exfalso;first|(cases hc;done)|(simp only [push_cast]at hc;done)|(simp only [push_cast]at hc;omega)|omega
 refine zV ?_
 (try simp only [zS,zT,reduceIte,zF]);refine hK1 _ ?_
 refine zL fun K2 hK2=> ?_
 refine zL fun K hK=> ?_
 refine zM zQ zO [] rfl ?_
 all_goals simp only [push_cast,↓zK,↓zJ,↓reduceIte,zA,zB,zC,zD,zE,zF,zG,zH,zI,reduceCtorEq]
 all_goals repeat'(first|(apply zP<;>(intro hg;(try simp only [push_cast]at hg)))|apply And.intro|(intro hg;(try simp only [push_cast]at hg)))
 all_goals first|exact gA|(exact zN (by simp only [push_cast];omega))|skip
 all_goals first|(refine hK _ ?_;clear hK K)|(simp only [push_cast];done)
 refine zX ?_
 refine zn [4,5,11,12,13,14,15,16,17,18,19,20,21,22,23,24,25,26] [] (fun(k:Nat)=> [(5, .int .i64 k)]) (fun k=> []) (fun k=> []) (fun k=>k≤ps.length) (fun k=>ps.length - k) 0 ?_ (by omega) ?_
 ·
  refine zb rfl ?_ ?_ ?_<;>simp only [zj,zi,push_cast,↓zK,↓zJ,↓reduceIte,zA,zB,zC,zD,zE,zF,zG,zH,zI,reduceCtorEq]
 ·rintro k hk KL0 hL0
  simp only [push_cast,↓zK,↓zJ,↓reduceIte,zA,zB,zC,zD,zE,zF,zG,zH,zI,reduceCtorEq]
  refine zL fun K3 hK3=> ?_
  refine zL fun K hK=> ?_
  refine zM zQ zO [] rfl ?_
  all_goals simp only [push_cast,↓zK,↓zJ,↓reduceIte,zA,zB,zC,zD,zE,zF,zG,zH,zI,reduceCtorEq]
  all_goals repeat'(first|(apply zP<;>(intro hg;(try simp only [push_cast]at hg)))|apply And.intro|(intro hg;(try simp only [push_cast]at hg)))
  all_goals first|exact gA|(exact zN (by simp only [push_cast];omega))|skip
  all_goals first|(refine hK _ ?_;clear hK K)|(simp only [push_cast];done)
  refine zU rfl (fun hc=> ?_) (fun hc=> ?_)<;>(try simp only [push_cast]at hc)
  ·
   refine zV ?_
   (try simp only [zS,zT,reduceIte,zF]);refine hK3 _ ?_
   refine zL fun K4 hK4=> ?_
   refine zX ?_
   refine zL fun K hK=> ?_
   refine yu false zQ zO qM ?_ rfl ?_
   ·kernel_rfl
   intro E hE
   all_goals refine vL 9 (by decide) fun K9 hK9=> ?_
   all_goals simp only [push_cast,↓zK,↓zJ,↓reduceIte,zA,zB,zC,zD,zE,zF,zG,zH,zI,reduceCtorEq]
   all_goals repeat'(first|(apply zP<;>(intro hg;(try simp only [push_cast]at hg)))|(refine⟨_,hQ k,?_⟩;simp only [push_cast,↓zK,↓zJ,↓reduceIte,zA,zB,zC,zD,zE,zF,zG,zH,zI,reduceCtorEq])|apply And.intro|(intro hg;(try simp only [push_cast]at hg)))
   all_goals first|exact gA|(exact zN (by simp only [push_cast];omega))|skip
   all_goals first|(refine hK9 _ _ ?_;clear hK9 K9)|(simp only [push_cast];done)
   all_goals simp only [push_cast,↓zK,↓zJ,↓reduceIte,zA,zB,zC,zD,zE,zF,zG,zH,zI,reduceCtorEq]
   all_goals repeat'(first|(apply zP<;>(intro hg;(try simp only [push_cast]at hg)))|(refine⟨_,hQ k,?_⟩;simp only [push_cast,↓zK,↓zJ,↓reduceIte,zA,zB,zC,zD,zE,zF,zG,zH,zI,reduceCtorEq])|apply And.intro|(intro hg;(try simp only [push_cast]at hg)))
   all_goals first|exact gA|(refine hE _ _ ?_ ?_;kernel_rfl)|(exact zN (by simp only [push_cast];omega))|skip
   all_goals clear hE E
   all_goals first|(refine hK _ ?_;clear hK K)|(simp only [push_cast];done)
   refine zU rfl (fun hc=> ?_) (fun hc=> ?_)
   skip
   ·exfalso;first|(cases hc;done)|(simp only [push_cast]at hc;done)|(simp only [push_cast]at hc;omega)|omega
   refine zV ?_
   (try simp only [zS,zT,reduceIte,zF]);refine hK4 _ ?_
   refine zM zQ zO [] rfl ?_
   all_goals simp only [push_cast,↓zK,↓zJ,↓reduceIte,zA,zB,zC,zD,zE,zF,zG,zH,zI,reduceCtorEq]
   all_goals repeat'(first|(apply zP<;>(intro hg;(try simp only [push_cast]at hg)))|apply And.intro|(intro hg;(try simp only [push_cast]at hg)))
   all_goals first|exact gA|(exact zN (by simp only [push_cast];omega))|skip
   refine hL0 _ ⟨k+1,by omega,by omega,?_⟩
   refine zb rfl ?_ ?_ ?_<;>simp only [zj,zi,push_cast,↓zK,↓zJ,↓reduceIte,zA,zB,zC,zD,zE,zF,zG,zH,zI,reduceCtorEq]
  ·
   refine zp ?_
   (try simp only [zS,zT,reduceIte,zF]);refine hK2 _ ?_
   refine zL fun K hK=> ?_
   refine zM zQ zO [] rfl ?_
   all_goals simp only [push_cast,↓zK,↓zJ,↓reduceIte,zA,zB,zC,zD,zE,zF,zG,zH,zI,reduceCtorEq]
   all_goals repeat'(first|(apply zP<;>(intro hg;(try simp only [push_cast]at hg)))|apply And.intro|(intro hg;(try simp only [push_cast]at hg)))
   all_goals first|exact gA|(exact zN (by simp only [push_cast];omega))|skip
   all_goals first|(refine hK _ ?_;clear hK K)|(simp only [push_cast];done)
   refine za ?_
   (try simp only [zS,zT])
   refine⟨Or.inl rfl,?_⟩
   simp only [ze,push_cast,↓zK,↓zJ,↓reduceIte,zA,zB,zC,zD,zE,zF,zG,zH,zI,reduceCtorEq]
theorem Uy : ∀(dss:List (List D)),(∀ds∈dss,∃p:Pr,ds=dPr p∧p.Ln 9223372036854775807)→∃ps:List Pr,dss.flatten=dII (ilv ps)∧ps.length=dss.length∧∀p∈ps,p.Ln 9223372036854775807
 | [],_=>⟨[],rfl,rfl,fun p hp=>by simp at hp⟩
 |ds::dss,h=>by
  obtain⟨p,rfl,hp⟩:=h ds (by simp)
  obtain⟨ps,e,hl,hb⟩:=Uy dss (fun d hd=>h d (by simp [hd]))
  refine⟨p::ps,by rw [List.flatten_cons,e];rfl,by simp [hl],fun x hx=> ?_⟩
  rcases List.mem_cons.1 hx with rfl|hx
  ·exact hp
  ·exact hb x hx
section
variable {H:Type} {enc:TypeId×Value→H} {W:World} {lo:Nat}
set_option maxRecDepth 100000 in
theorem zFW {fuel:Nat}{cs:List Value}{x:DataW H×List MemPlace}(h:Tro enc W fuel 26 cs x): ∃v ps,cs= [v]∧RpN lo W (.lst 68 (dII (ilv ps))) v∧PLn 9223372036854775807 ps:=by
 obtain⟨v,dss,rfl,h1,h2,h3⟩:=uO (lo:=lo) (k:=2) Try.underlying26 (by omega) zEZ (by kernel_rfl) (Q:=fun ds=> ∃p:Pr,ds=dPr p∧p.Ln 9223372036854775807) (fun n cs y hy=>by
  obtain⟨p,h1,-,h2⟩:=zFX (lo:=lo) hy
  exact⟨dPr p,h1,p,rfl,h2⟩) h
 obtain⟨ps,e,hl,hb⟩:=Uy dss (fun ds hds=>(h3 ds hds).1)
 rw [e]at h1
 exact⟨v,ps,rfl,h1,by omega,hb⟩
set_option maxRecDepth 100000 in
theorem zF8 {base:Nat}{v:Value}{d:DataW H}{p:List MemPlace}(hv:Value.okWide Try.prog W .any base 26 v)(h:DataW.Trod enc Try.prog W 0 (fun _=>true) true 26 v d p): ∃ps,wD (sz tyT) lo W (fun _=>none) (.c (.lst 68 (dII (ilv ps)))) v∧True∧PLn 9223372036854775807 ps:=by
 obtain⟨A,n,c,rfl⟩:=okWide_slice Try.underlying26 hv
 obtain⟨fuel,hf⟩:=h
 obtain⟨v',n',e,h1,h2⟩:=zFW (lo:=lo) hf
 simp only [Value.cells,List.cons.injEq,and_true]at e
 subst e
 exact⟨n',h1,trivial,h2⟩
end
structure PG where
 own:Nat→Int
 pr:Nat→Nat
 E:Nat→Nat→Prop
inductive Wk (R:Nat→Nat→Prop)(pr:Nat→Nat):Nat→Nat→Nat→Prop
 |one {v u:Nat}:R v u→Wk R pr v u (pr v)
 |cons {v x u t:Nat}:R v x→Wk R pr x u t→Wk R pr v u (max (pr v) t)
theorem Wk.mono {R R':Nat→Nat→Prop}{pr:Nat→Nat}(h: ∀v u,R v u→R' v u){v u t:Nat}(w:Wk R pr v u t):Wk R' pr v u t:=by
 induction w with
 |one h1=>exact .one (h _ _ h1)
 |cons h1 _ ih=>exact .cons (h _ _ h1) ih
theorem Wk.app {R:Nat→Nat→Prop}{pr:Nat→Nat}{v x u s t:Nat}(a:Wk R pr v x s)(b:Wk R pr x u t):Wk R pr v u (max s t):=by
 induction a with
 |one h1=>exact .cons h1 b
 |cons h1 _ ih=>rw [Nat.max_assoc];exact .cons h1 (ih b)
theorem Wk.le {R:Nat→Nat→Prop}{pr:Nat→Nat}{top:Nat}(h: ∀v u,R v u→pr v≤top){v u t:Nat}(w:Wk R pr v u t):t≤top:=by
 induction w with
 |one h1=>exact h _ _ h1
 |cons h1 _ ih=>exact Nat.max_le.2 ⟨h _ _ h1,ih⟩
def SR (g:PG)(who:Int)(U:Nat→Prop)(s:Nat→Nat)(v u:Nat):Prop:=U v∧U u∧g.E v u∧(g.own v=who→u=s v)
structure Wins (g:PG)(who:Int)(D U:Nat→Prop)(s:Nat→Nat):Prop where
 sub: ∀v,U v→D v
 own: ∀v,U v→g.own v=who→g.E v (s v)∧U (s v)
 opp: ∀v u,U v→¬g.own v=who→g.E v u→D u→U u
 good: ∀v t,Wk (SR g who U s) g.pr v v t→(t:Int)%2=who
def qc (g:PG)(who:Int)(D goal:Nat→Prop):Nat→Nat→Prop
 |0,v=>D v∧goal v
 |k+1,v=>qc g who D goal k v∨(D v∧((g.own v=who∧∃u,g.E v u∧qc g who D goal k u)∨(¬g.own v=who∧(∃u,g.E v u∧D u)∧∀u,g.E v u→D u→qc g who D goal k u)))
def Att (g:PG)(who:Int)(D goal:Nat→Prop)(v:Nat):Prop:= ∃k,qc g who D goal k v
section
variable {g:PG} {who:Int} {D goal:Nat→Prop}
theorem qc.inD {v:Nat}: ∀{k:Nat},qc g who D goal k v→D v
 |0,h=>h.1
 |k+1,h=>by
  rcases h with h|h
  ·exact qc.inD h
  ·exact h.1
theorem qc.up {v:Nat}{j:Nat}(h:qc g who D goal j v): ∀k,j≤k→qc g who D goal k v
 |0,hk=>by rw [show j=0 by omega]at h;exact h
 |k+1,hk=>by
  by_cases e:j=k+1
  ·rw [←e];exact h
  ·exact .inl (qc.up h k (by omega))
theorem zCC {P:Nat→Prop}: ∀n,P n→∃k,P k∧∀j,j<k→¬P j:=by
 intro n
 induction n using Nat.strongRecOn with
 |ind n ih=>
  intro h
  by_cases h2: ∃j,j<n∧P j
  ·obtain⟨j,hj,hp⟩:=h2
   exact ih j hj hp
  ·exact⟨n,h,fun j hj hp=>h2 ⟨j,hj,hp⟩⟩
open Classical in
noncomputable def rk (g:PG)(who:Int)(D goal:Nat→Prop)(v:Nat):Nat:=if h: ∃k,qc g who D goal k v∧∀j,j<k→¬qc g who D goal j v then h.choose else 0
theorem zAQ {v:Nat}(h:Att g who D goal v):qc g who D goal (rk g who D goal v) v∧∀j,j<rk g who D goal v→¬qc g who D goal j v:=by
 obtain⟨n,hn⟩:=h
 have h2:=zCC (P:=fun k=>qc g who D goal k v) n hn
 unfold rk
 rw [dif_pos h2]
 exact h2.choose_spec
theorem zEW {v k:Nat}(h:qc g who D goal k v):rk g who D goal v≤k:=by
 have :=(zAQ ⟨k,h⟩).2 k
 rcases Nat.lt_or_ge k (rk g who D goal v)with h1|h1
 ·exact absurd h (this h1)
 ·exact h1
theorem Att.cases {v:Nat}(h:Att g who D goal v):(D v∧goal v)∨(D v∧g.own v=who∧∃u,g.E v u∧Att g who D goal u∧rk g who D goal u<rk g who D goal v)∨(D v∧¬g.own v=who∧∀u,g.E v u→D u→Att g who D goal u∧rk g who D goal u<rk g who D goal v):=by
 obtain⟨h1,h2⟩:=zAQ h
 generalize hr:rk g who D goal v=r at h1 h2
 cases r with
 |zero=>exact .inl h1
 |succ k=>
  rcases h1 with h1|⟨hD,h1⟩
  ·exact absurd h1 (h2 k (by omega))
  ·rcases h1 with⟨ho,u,he,hu⟩|⟨ho,-,ha⟩
   ·exact .inr (.inl ⟨hD,ho,u,he,⟨k,hu⟩,Nat.lt_succ_of_le (zEW hu)⟩)
   ·exact .inr (.inr ⟨hD,ho,fun u he hu=>⟨⟨k,ha u he hu⟩,Nat.lt_succ_of_le (zEW (ha u he hu))⟩⟩)
theorem Att.inD {v:Nat}(h:Att g who D goal v):D v:=by obtain⟨k,hk⟩:=h;exact hk.inD
theorem Att.base {v:Nat}(h1:D v)(h2:goal v):Att g who D goal v:=⟨0,h1,h2⟩
theorem Att.own {v u:Nat}(h1:D v)(h2:g.own v=who)(h3:g.E v u)(h4:Att g who D goal u):Att g who D goal v:=by
 obtain⟨k,hk⟩:=h4
 exact⟨k+1, .inr ⟨h1, .inl ⟨h2,u,h3,hk⟩⟩⟩
theorem Att.opp {n:Nat}(hn: ∀v u,g.E v u→u<n){v:Nat}(h1:D v)(h2: ¬g.own v=who)(h3: ∃u,g.E v u∧D u)(h4: ∀u,g.E v u→D u→Att g who D goal u):Att g who D goal v:=by
 have key: ∀m,∃k,∀u,u<m→g.E v u→D u→qc g who D goal k u:=by
  intro m
  induction m with
  |zero=>exact⟨0,fun u hu=>by omega⟩
  |succ m ih=>
   obtain⟨k,hk⟩:=ih
   by_cases hm:g.E v m∧D m
   ·obtain⟨j,hj⟩:=h4 m hm.1 hm.2
    refine⟨max k j,fun u hu he hd=> ?_⟩
    by_cases e:u=m
    ·rw [e];exact hj.up _ (Nat.le_max_right ..)
    ·exact(hk u (by omega) he hd).up _ (Nat.le_max_left ..)
   ·refine⟨k,fun u hu he hd=> ?_⟩
    by_cases e:u=m
    ·rw [e]at he hd;exact absurd ⟨he,hd⟩ hm
    ·exact hk u (by omega) he hd
 obtain⟨k,hk⟩:=key n
 exact⟨k+1, .inr ⟨h1, .inr ⟨h2,h3,fun u he hd=>hk u (hn v u he) he hd⟩⟩⟩
end
open Classical in
section
variable {g:PG} {who:Int} {D:Nat→Prop} {top n:Nat}
open Classical in
end
structure Pa where
 a:Ar
 prio:List Int
 deriving DecidableEq
def Pa.tot (x:Pa):Nat:=x.a.owner.length+xO x.a.next+x.prio.length
structure Pa.Ln (B:Nat)(x:Pa):Prop where
 a:x.a.Ln B
 prio:LnI B x.prio
theorem Pa.ln_of {B:Nat}{x:Pa}(h:x.tot≤B):x.Ln B:=by
 unfold Pa.tot at h
 exact⟨Ar.ln_of (by unfold Ar.tot;omega),ZD (by omega)⟩
def Pa.cnt (x:Pa):Nat:=x.a.owner.length+qJ x.a.next+x.prio.length
theorem Pa.ln_mono {B C:Nat}(hB:B≤C){x:Pa}(h:x.Ln B):x.Ln C:=⟨Ar.ln_mono hB h.a,LnI.mono hB h.prio⟩
theorem zFp (xs:List Bool)(n:Nat):(dB xs).take n=dB (xs.take n):=by simp [dB]
attribute [push_cast] zFp
structure L7 where
 owner:List Int
 prio:List Int
 next:List (List Int)
 prev:List (List Int)
 pick:List Int
structure L7.Ok (x:L7)(n:Nat):Prop where
 hn:n≤256
 ho:x.owner.length=n
 hp:x.prio.length=n
 hx:x.next.length=n
 hv:x.prev.length=n
 hk:x.pick.length=n
 deg: ∀v,v<n→(gl x.next v).length≤256
 to: ∀v,v<n→∀j,j<(gl x.next v).length→0≤gi (gl x.next v) j∧gi (gl x.next v) j<n
 pr: ∀v,v<n→0≤gi x.prio v∧gi x.prio v≤40
 ow: ∀v,v<n→gi x.owner v=0∨gi x.owner v=1
 nd: ∀v,v<n→∀i j,i<j→j<(gl x.next v).length→gi (gl x.next v) i≠gi (gl x.next v) j
 dpv: ∀u,u<n→(gl x.prev u).length≤256
 pin: ∀u,u<n→∀m,m<(gl x.prev u).length→(0≤gi (gl x.prev u) m∧gi (gl x.prev u) m<n)∧∃j,j<(gl x.next (gi (gl x.prev u) m).toNat).length∧gi (gl x.next (gi (gl x.prev u) m).toNat) j=u
 pal: ∀v,v<n→∀j,j<(gl x.next v).length→∃m,m<(gl x.prev (gi (gl x.next v) j).toNat).length∧gi (gl x.prev (gi (gl x.next v) j).toNat) m=v
 pnd: ∀u,u<n→∀i j,i<j→j<(gl x.prev u).length→gi (gl x.prev u) i≠gi (gl x.prev u) j
def edB (x:L7)(v u:Int):Bool:=decide (gi x.pick v.toNat<0∨gi x.pick v.toNat=u)
def degK (x:L7)(inn:List Bool)(v:Nat):Nat→Int
 |0=>0
 |k+1=>if gb inn (gi (gl x.next v) k).toNat&&edB x v (gi (gl x.next v) k)then degK x inn v k+1 else degK x inn v k
def kc (x:L7)(inn:List Bool)(v:Nat):Int:=degK x inn v (gl x.next v).length
def mkB (n:Nat)(f:Nat→Bool)(k:Nat):List Bool:=(List.range k).map f++List.replicate (n - k) false
theorem zAM {n:Nat}{f:Nat→Bool}{k:Nat}(h:k≤n):(mkB n f k).length=n:=by unfold mkB;simp;omega
theorem zER (n:Nat)(f:Nat→Bool):mkB n f 0=List.replicate n false:=by simp [mkB]
theorem jb (n:Nat)(f:Nat→Bool):mkB n f n=(List.range n).map f:=by simp [mkB]
theorem zAN {n:Nat}{f:Nat→Bool}{k:Nat}(h:k<n):(mkB n f k).set k (f k)=mkB n f (k+1):=by
 unfold mkB
 rw [List.set_append_right _ _ (by simp),List.length_map,List.length_range,Nat.sub_self,show n - k=(n - (k+1))+1 from by omega,List.replicate_succ,List.set_cons_zero,List.range_succ,List.map_append,List.append_assoc]
 rfl
theorem Wx {n:Nat}{f:Nat→Bool}{v:Nat}(h:v<n):gb ((List.range n).map f) v=f v:=by
 unfold gb
 rw [List.getD_eq_getElem?_getD,List.getElem?_map,List.getElem?_range h]
 rfl
def pgL (x:L7):PG:=⟨fun v=>if v<x.owner.length then gi x.owner v else 0,fun v=>(gi x.prio v).toNat,fun v u=>v<x.owner.length∧∃j,j<(gl x.next v).length∧(gi (gl x.next v) j).toNat=u∧edB x v (gi (gl x.next v) j)=true⟩
def inD (n:Nat)(inn:List Bool)(v:Nat):Prop:=v<n∧gb inn v=true
section
variable {x:L7} {n:Nat}
theorem VJ (hx:x.Ok n){v:Nat}(hv:v<n):(pgL x).own v=gi x.owner v:=if_pos (by rw [hx.ho];exact hv)
theorem pgL_E (hx:x.Ok n){v:Nat}(hv:v<n){u:Int}(hu:0≤u):(pgL x).E v u.toNat↔(∃j,j<(gl x.next v).length∧gi (gl x.next v) j=u)∧edB x v u=true:=by
 constructor
 ·rintro⟨-,j,hj,e,h⟩
  have :=(hx.to v hv j hj).1
  have e2:gi (gl x.next v) j=u:=by omega
  rw [e2]at h
  exact⟨⟨j,hj,e2⟩,h⟩
 ·rintro⟨⟨j,hj,e⟩,h⟩
  exact⟨by rw [hx.ho];exact hv,j,hj,by rw [e],by rw [e];exact h⟩
theorem zET (hx:x.Ok n)(v u:Nat)(h:(pgL x).E v u):u<n:=by
 obtain⟨h1,j,hj,e,-⟩:=h
 have :=hx.to v (by rw [←hx.ho];exact h1) j hj
 omega
def xv (x:L7)(inn:List Bool)(v:Nat)(p:Int→Bool):Nat→Int
 |0=>0
 |k+1=>if gb inn (gi (gl x.next v) k).toNat&&edB x v (gi (gl x.next v) k)&& !p (gi (gl x.next v) k)then xv x inn v p k+1 else xv x inn v p k
theorem ZH (x:L7)(inn:List Bool)(v:Nat){p q:Int→Bool}: ∀k,(∀j,j<k→gb inn (gi (gl x.next v) j).toNat=true→edB x v (gi (gl x.next v) j)=true→p (gi (gl x.next v) j)=q (gi (gl x.next v) j))→xv x inn v p k=xv x inn v q k
 |0,_=>rfl
 |k+1,h=>by
  unfold xv
  rw [ZH x inn v k fun j hj=>h j (by omega)]
  by_cases h1:gb inn (gi (gl x.next v) k).toNat=true
  ·by_cases h2:edB x v (gi (gl x.next v) k)=true
   ·rw [h k (by omega) h1 h2]
   ·have h3:edB x v (gi (gl x.next v) k)=false:=by simpa using h2
    rw [h3,Bool.and_false,Bool.false_and,Bool.false_and]
  ·have h3:gb inn (gi (gl x.next v) k).toNat=false:=by simpa using h1
   rw [h3,Bool.false_and,Bool.false_and,Bool.false_and]
theorem kd (x:L7)(inn:List Bool)(v:Nat){p q:Int→Bool}{u:Int}(hp:p u=false)(hq:q u=true)(hu:gb inn u.toNat=true)(he:edB x v u=true): ∀k,(∀j,j<k→gi (gl x.next v) j≠u→p (gi (gl x.next v) j)=q (gi (gl x.next v) j))→
  (∀i j,i<j→j<k→gi (gl x.next v) i≠gi (gl x.next v) j)→(∃j,j<k∧gi (gl x.next v) j=u)→xv x inn v q k=xv x inn v p k - 1
 |0,_,_,h=>by obtain⟨j,hj,-⟩:=h;omega
 |k+1,h,hd,hex=>by
  obtain⟨j,hj,e⟩:=hex
  by_cases hk:gi (gl x.next v) k=u
  ·have h1:xv x inn v q k=xv x inn v p k:=(ZH x inn v k fun j' hj' _ _=>h j' (by omega) (fun e'=>hd j' k hj' (by omega) (e'.trans hk.symm))).symm
   unfold xv
   rw [hk,hp,hq,hu,he,h1]
   simp
  ·have hjk:j≠k:=fun e2=>hk (by rw [←e2];exact e)
   have ih:=kd x inn v hp hq hu he k (fun j' hj'=>h j' (by omega)) (fun a b h1 h2=>hd a b h1 (by omega)) ⟨j,by omega,e⟩
   unfold xv
   rw [h k (by omega) hk,ih]
   split<;>omega
theorem Uw (x:L7)(inn:List Bool)(v:Nat)(p:Int→Bool): ∀k,0≤xv x inn v p k∧xv x inn v p k≤k
 |0=>⟨Int.le_refl _,Int.le_refl _⟩
 |k+1=>by
  have :=Uw x inn v p k
  unfold xv
  split<;>omega
theorem Kg (x:L7)(inn:List Bool)(v:Nat)(p:Int→Bool): ∀k,xv x inn v p k=0→∀j,j<k→gb inn (gi (gl x.next v) j).toNat=true→edB x v (gi (gl x.next v) j)=true→p (gi (gl x.next v) j)=true
 |0,_,j,hj,_,_=>by omega
 |k+1,h,j,hj,h1,h2=>by
  have hn:=Uw x inn v p k
  unfold xv at h
  split at h
  ·omega
  ·rename_i hc
   by_cases e:j=k
   ·rw [e]at h1 h2⊢
    rw [h1,h2]at hc
    simpa using hc
   ·exact Kg x inn v p k h j (by omega) h1 h2
structure AtI (x:L7)(n:Nat)(inn:List Bool)(who:Int)(goal out:List Bool)(left queue:List Int)(P:Nat→Int→Bool):Prop where
 lo:out.length=n
 ll:left.length=n
 qrg: ∀i,i<queue.length→0≤gi queue i∧gi queue i<n
 qnd: ∀i j,i<j→j<queue.length→gi queue i≠gi queue j
 qout: ∀v,v<n→(gb out v=true↔∃i,i<queue.length∧gi queue i=v)
 sound: ∀v,v<n→gb out v=true→Att (pgL x) who (inD n inn) (fun v=>gb goal v=true) v
 base: ∀v,v<n→gb inn v=true→gb goal v=true→gb out v=true
 own: ∀v,v<n→gb inn v=true→gb out v=false→gi x.owner v=who→∀j,j<(gl x.next v).length→edB x v (gi (gl x.next v) j)=true→gb inn (gi (gl x.next v) j).toNat=true→P v (gi (gl x.next v) j)=false
 opp: ∀v,v<n→gb inn v=true→gb out v=false→¬gi x.owner v=who→(∃j,j<(gl x.next v).length∧edB x v (gi (gl x.next v) j)=true∧gb inn (gi (gl x.next v) j).toNat=true∧P v (gi (gl x.next v) j)=true)→gi left v≠0
 cnt: ∀v,v<n→gb inn v=true→gb out v=false→gi left v=xv x inn v (P v) (gl x.next v).length
 psub: ∀v,v<n→∀j,j<(gl x.next v).length→P v (gi (gl x.next v) j)=true→gb out (gi (gl x.next v) j).toNat=true
variable {inn goal out:List Bool} {who:Int} {left queue:List Int} {P Q:Nat→Int→Bool}
theorem AtI.skip (h:AtI x n inn who goal out left queue P){v0:Nat}(hv0:v0<n){u0:Int}(hu0:gb out u0.toNat=true)(hs:gb inn v0=false∨gb out v0=true∨edB x v0 u0=false)
  (hQ: ∀v u,Q v u=(P v u||(decide (v=v0)&&decide (u=u0)))):AtI x n inn who goal out left queue Q:=by
 have key: ∀v,v<n→gb inn v=true→gb out v=false→∀j,j<(gl x.next v).length→edB x v (gi (gl x.next v) j)=true→Q v (gi (gl x.next v) j)=P v (gi (gl x.next v) j):=fun v hv h1 h2 j hj h3=>by
  rw [hQ]
  by_cases e:v=v0∧gi (gl x.next v) j=u0
  ·exfalso
   obtain⟨rfl,e2⟩:=e
   rw [e2]at h3
   rcases hs with h|h|h
   ·rw [h]at h1;cases h1
   ·rw [h]at h2;cases h2
   ·rw [h]at h3;cases h3
  ·have :(decide (v=v0)&&decide (gi (gl x.next v) j=u0))=false:=by
    rw [Bool.and_eq_false_iff,decide_eq_false_iff_not,decide_eq_false_iff_not]
    omega
   rw [this,Bool.or_false]
 refine⟨h.lo,h.ll,h.qrg,h.qnd,h.qout,h.sound,h.base,fun v hv h1 h2 h3 j hj h4 h5=>by rw [key v hv h1 h2 j hj h4];exact h.own v hv h1 h2 h3 j hj h4 h5,
  fun v hv h1 h2 h3 ⟨j,hj,h4,h5,h6⟩=>h.opp v hv h1 h2 h3 ⟨j,hj,h4,h5,by rw [←key v hv h1 h2 j hj h4];exact h6⟩,
  fun v hv h1 h2=>by rw [h.cnt v hv h1 h2];exact ZH x inn v _ fun j hj _ h4=>(key v hv h1 h2 j hj h4).symm,
  fun v hv j hj h1=> ?_⟩
 rw [hQ,Bool.or_eq_true,Bool.and_eq_true,decide_eq_true_eq,decide_eq_true_eq]at h1
 rcases h1 with h1|⟨-,h1⟩
 ·exact h.psub v hv j hj h1
 ·rw [h1];exact hu0
theorem Yv {c:List Int}{v u:Nat}{y:Int}(hv:v<c.length):gi (c.set v y) u=if u=v then y else gi c u:=by
 unfold gi
 rw [List.getD_eq_getElem?_getD,List.getElem?_set]
 split
 ·rename_i h;subst h;simp [hv]
 ·rename_i h;rw [if_neg (by omega),List.getD_eq_getElem?_getD]
theorem xH {c:List Bool}{v u:Nat}{y:Bool}(hv:v<c.length):gb (c.set v y) u=if u=v then y else gb c u:=by
 unfold gb
 rw [List.getD_eq_getElem?_getD,List.getElem?_set]
 split
 ·rename_i h;subst h;simp [hv]
 ·rename_i h;rw [if_neg (by omega),List.getD_eq_getElem?_getD]
theorem AtI.step (hx:x.Ok n)(h:AtI x n inn who goal out left queue P){v0:Nat}(hv0:v0<n){u0:Int}(hu:0≤u0∧u0<n)(hu0:gb out u0.toNat=true)(hui:gb inn u0.toNat=true)(h1:gb inn v0=true)(h2:gb out v0=false)(h3:edB x v0 u0=true)
  (hj: ∃j,j<(gl x.next v0).length∧gi (gl x.next v0) j=u0) (hP:P v0 u0=false) (hQ: ∀v u,Q v u=(P v u||(decide (v=v0)&&decide (u=u0)))):
  (¬(gi x.owner v0=who∨gi left v0 - 1=0)→AtI x n inn who goal out (left.set v0 (gi left v0 - 1)) queue Q)∧
  ((gi x.owner v0=who∨gi left v0 - 1=0)→AtI x n inn who goal (out.set v0 true) (left.set v0 (gi left v0 - 1)) (queue++ [(v0:Int)]) Q):=by
 have hother: ∀v,v≠v0→∀u,Q v u=P v u:=fun v hv u=>by rw [hQ,decide_eq_false hv,Bool.false_and,Bool.or_false]
 have hQ1:Q v0 u0=true:=by rw [hQ];simp
 have hQ2: ∀u,u≠u0→Q v0 u=P v0 u:=fun u hu=>by rw [hQ,decide_eq_false hu,Bool.and_false,Bool.or_false]
 have hcount:xv x inn v0 (Q v0) (gl x.next v0).length=gi left v0 - 1:=by
  rw [h.cnt v0 hv0 h1 h2]
  exact kd x inn v0 hP hQ1 hui h3 _ (fun j hj hne=>(hQ2 _ hne).symm) (fun i j a b=>hx.nd v0 hv0 i j a b) hj
 have hps: ∀v,v<n→∀j,j<(gl x.next v).length→Q v (gi (gl x.next v) j)=true→gb out (gi (gl x.next v) j).toNat=true:=fun v hv j hj h5=>by
  rw [hQ,Bool.or_eq_true,Bool.and_eq_true,decide_eq_true_eq,decide_eq_true_eq]at h5
  rcases h5 with h5|⟨-,h5⟩
  ·exact h.psub v hv j hj h5
  ·rw [h5];exact hu0
 have hll:v0<left.length:=by rw [h.ll];exact hv0
 have hlo:v0<out.length:=by rw [h.lo];exact hv0
 constructor
 ·intro hno
  refine⟨h.lo,by rw [List.length_set];exact h.ll,h.qrg,h.qnd,h.qout,h.sound,h.base,fun v hv a b c j hj' d e=> ?_,fun v hv a b c hex=> ?_,fun v hv a b=> ?_,hps⟩
  ·by_cases ev:v=v0
   ·exfalso;rw [ev]at c;exact hno (.inl c)
   ·rw [hother v ev];exact h.own v hv a b c j hj' d e
  ·rw [Yv hll]
   split
   ·exact fun e=>hno (.inr e)
   ·rename_i ev
    obtain⟨j,hj',d,e,f⟩:=hex
    exact h.opp v hv a b c ⟨j,hj',d,e,by rw [←hother v ev];exact f⟩
  ·rw [Yv hll]
   split
   ·rename_i ev;rw [ev];exact hcount.symm
   ·rename_i ev
    rw [h.cnt v hv a b]
    exact ZH x inn v _ fun j _ _ _=>(hother v ev _).symm
 ·intro hyes
  have hnew: ∀i,i<queue.length→gi queue i≠(v0:Int):=fun i hi e=>by
   have :=(h.qout v0 hv0).2 ⟨i,hi,e⟩
   rw [this]at h2;cases h2
  have hql:(queue++ [(v0:Int)]).length=queue.length+1:=by simp
  have hqs: ∀j,j<queue.length+1→gi (queue++ [(v0:Int)]) j=if j=queue.length then(v0:Int)else gi queue j:=fun j hj=>by
   split
   ·rename_i e;rw [e];unfold gi;rw [List.getD_eq_getElem?_getD,List.getElem?_append_right (Nat.le_refl _)];simp
   ·unfold gi;rw [List.getD_eq_getElem?_getD,List.getElem?_append_left (by omega),List.getD_eq_getElem?_getD]
  have hup: ∀v,gb out v=true→gb (out.set v0 true) v=true:=fun v hv=>by
   rw [xH hlo]
   split
   ·rfl
   ·exact hv
  have hdown: ∀v,gb (out.set v0 true) v=false→v≠v0∧gb out v=false:=fun v hv=>by
   rw [xH hlo]at hv
   split at hv
   ·cases hv
   ·rename_i e;exact⟨e,hv⟩
  refine⟨by rw [List.length_set];exact h.lo,by rw [List.length_set];exact h.ll,fun i hi=> ?_,fun i j hij hj'=> ?_,fun v hv=> ?_,fun v hv hb=> ?_,fun v hv a b=>hup v (h.base v hv a b),fun v hv a b c j hj' d e=> ?_,fun v hv a b c hex=> ?_,fun v hv a b=> ?_,fun v hv j hj' h5=>hup _ (hps v hv j hj' h5)⟩
  ·rw [hql]at hi
   rw [hqs i hi]
   split
   ·omega
   ·exact h.qrg i (by omega)
  ·rw [hql]at hj'
   rw [hqs i (by omega),hqs j hj',if_neg (by omega)]
   split
   ·exact hnew i (by omega)
   ·exact h.qnd i j hij (by omega)
  ·rw [xH hlo,hql]
   constructor
   ·intro hb
    split at hb
    ·rename_i e;exact⟨queue.length,by omega,by rw [hqs _ (by omega),if_pos rfl,e]⟩
    ·obtain⟨i,hi,e⟩:=(h.qout v hv).1 hb
     exact⟨i,by omega,by rw [hqs i (by omega),if_neg (by omega)];exact e⟩
   ·rintro⟨i,hi,e⟩
    rw [hqs i hi]at e
    split at e
    ·rw [if_pos (by omega)]
    ·split
     ·rfl
     ·exact(h.qout v hv).2 ⟨i,by omega,e⟩
  ·rw [xH hlo]at hb
   split at hb
   ·rename_i e
    subst e
    have hE:(pgL x).E v u0.toNat:=(pgL_E hx hv hu.1).2 ⟨hj,h3⟩
    have hAu:=h.sound u0.toNat (by omega) hu0
    by_cases ho:gi x.owner v=who
    ·exact Att.own ⟨hv,h1⟩ (by rw [VJ hx hv];exact ho) hE hAu
    ·have hz:xv x inn v (Q v) (gl x.next v).length=0:=by rw [hcount];exact hyes.resolve_left ho
     refine Att.opp (fun a b=>zET hx a b) ⟨hv,h1⟩ (by rw [VJ hx hv];exact ho) ⟨_,hE,by omega,hui⟩ fun u he hd=> ?_
     obtain⟨-,j,hj',e1,e2⟩:=he
     have hq:=Kg x inn v (Q v) _ hz j hj' (by rw [e1];exact hd.2) e2
     have :=hps v hv j hj' hq
     rw [e1]at this
     exact h.sound u hd.1 this
   ·exact h.sound v hv hb
  ·obtain⟨b1,b2⟩:=hdown v b
   rw [hother v b1];exact h.own v hv a b2 c j hj' d e
  ·obtain⟨b1,b2⟩:=hdown v b
   rw [Yv hll,if_neg b1]
   obtain⟨j,hj',d,e,f⟩:=hex
   exact h.opp v hv a b2 c ⟨j,hj',d,e,by rw [←hother v b1];exact f⟩
  ·obtain⟨b1,b2⟩:=hdown v b
   rw [Yv hll,if_neg b1,h.cnt v hv a b2]
   exact ZH x inn v _ fun j _ _ _=>(hother v b1 _).symm
theorem AtI.done (hx:x.Ok n)(h:AtI x n inn who goal out left queue P)(hP: ∀v,v<n→∀j,j<(gl x.next v).length→gb out (gi (gl x.next v) j).toNat=true→P v (gi (gl x.next v) j)=true){v:Nat}(hv:v<n):gb out v=true↔Att (pgL x) who (inD n inn) (fun v=>gb goal v=true) v:=by
 refine⟨h.sound v hv,fun⟨k,hk⟩=> ?_⟩
 have key: ∀k v,v<n→qc (pgL x) who (inD n inn) (fun v=>gb goal v=true) k v→gb out v=true:=by
  intro k
  induction k with
  |zero=>exact fun v hv hk=>h.base v hv hk.1.2 hk.2
  |succ k ih=>
   intro v hv hk
   rcases hk with hk|⟨hD,hk⟩
   ·exact ih v hv hk
   ·cases hb:gb out v
    ·exfalso
     rcases hk with⟨ho,u,he,hu⟩|⟨ho,⟨u,he,hud⟩,ha⟩
     ·have hun:=zET hx v u he
      have hub:=ih u hun hu
      have huD:=hu.inD
      obtain⟨-,j,hj,e1,e2⟩:=he
      rw [VJ hx hv]at ho
      have h6:=h.own v hv hD.2 hb ho j hj e2 (by rw [e1];exact huD.2)
      have h7:=hP v hv j hj (by rw [e1];exact hub)
      rw [h6]at h7;cases h7
     ·rw [VJ hx hv]at ho
      have hz:xv x inn v (P v) (gl x.next v).length=0:=by
       have hall: ∀j,j<(gl x.next v).length→gb inn (gi (gl x.next v) j).toNat=true→edB x v (gi (gl x.next v) j)=true→P v (gi (gl x.next v) j)=true:=fun j hj a b=>by
        have hto:=hx.to v hv j hj
        have hE:(pgL x).E v (gi (gl x.next v) j).toNat:=⟨by rw [hx.ho];exact hv,j,hj,rfl,b⟩
        exact hP v hv j hj (ih _ (by omega) (ha _ hE ⟨by omega,a⟩))
       have : ∀m,m≤(gl x.next v).length→xv x inn v (P v) m=0:=by
        intro m
        induction m with
        |zero=>intro _;rfl
        |succ m ihm=>
         intro hm
         unfold xv
         rw [ihm (by omega),if_neg]
         intro hc
         simp only [Bool.and_eq_true,Bool.not_eq_true']at hc
         have :=hall m (by omega) hc.1.1 hc.1.2
         rw [this]at hc
         cases hc.2
       exact this _ (Nat.le_refl _)
      have hc:=h.cnt v hv hD.2 hb
      rw [hz]at hc
      obtain⟨-,j,hj,e1,e2⟩:=he
      have hE:(pgL x).E v u:=⟨by rw [hx.ho];exact hv,j,hj,e1,e2⟩
      have hub:=ih u hud.1 (ha u hE hud)
      exact h.opp v hv hD.2 hb ho ⟨j,hj,e2,by rw [e1];exact hud.2,hP v hv j hj (by rw [e1];exact hub)⟩ hc
    ·rfl
 exact key k v hv hk
open Classical in
noncomputable def kO (x:L7)(n:Nat)(inn:List Bool)(who:Int)(goal:List Bool):List Bool:=(List.range n).map fun v=>decide (Att (pgL x) who (inD n inn) (fun v=>gb goal v=true) v)
theorem zDA (x:L7)(n:Nat)(inn:List Bool)(who:Int)(goal:List Bool):(kO x n inn who goal).length=n:=by simp [kO]
open Classical in
theorem zEo {v:Nat}(hv:v<n):gb (kO x n inn who goal) v=true↔Att (pgL x) who (inD n inn) (fun v=>gb goal v=true) v:=by
 unfold kO
 rw [Wx hv]
 exact decide_eq_true_iff
theorem zAA {a b:List Bool}(hl:a.length=b.length)(h: ∀v,v<a.length→gb a v=gb b v):a=b:=by
 refine List.ext_getElem? fun i=> ?_
 by_cases hi:i<a.length
 ·rw [zEK hi,zEK (by omega),h i hi]
 ·rw [List.getElem?_eq_none (by omega),List.getElem?_eq_none (by omega)]
theorem AtI.result (hx:x.Ok n)(h:AtI x n inn who goal out left queue P)(hP: ∀v,v<n→∀j,j<(gl x.next v).length→gb out (gi (gl x.next v) j).toNat=true→P v (gi (gl x.next v) j)=true):out=kO x n inn who goal:=by
 refine zAA (by rw [zDA];exact h.lo) fun v hv=> ?_
 rw [h.lo]at hv
 rw [Bool.eq_iff_iff,h.done hx hP hv,zEo hv]
structure At0 (x:L7)(n:Nat)(inn goal:List Bool)(k:Nat)(out:List Bool)(left queue:List Int):Prop where
 lo:out.length=n
 ll:left.length=n
 lq:queue.length≤k
 qrg: ∀i,i<queue.length→0≤gi queue i∧gi queue i<k
 qnd: ∀i j,i<j→j<queue.length→gi queue i≠gi queue j
 qout: ∀v,v<n→(gb out v=true↔∃i,i<queue.length∧gi queue i=v)
 outs: ∀v,v<n→gb out v=(decide (v<k)&&(gb inn v&&gb goal v))
 lef: ∀v,v<k→gb inn v=true→gi left v=kc x inn v
theorem At0.start (n:Nat)(inn goal:List Bool):At0 x n inn goal 0 (List.replicate n false) (List.replicate n 0) []:=by
 have h0: ∀v,gb (List.replicate n false) v=false:=fun v=>by
  unfold gb
  rw [List.getD_eq_getElem?_getD,List.getElem?_replicate]
  split<;>rfl
 refine⟨by simp,by simp,by simp,fun i hi=>(by simp at hi),fun i j _ hj=>(by simp at hj),fun v _=> ?_,fun v _=>(by rw [h0];rfl),fun v hv=>(by omega)⟩
 rw [h0]
 exact⟨fun h=>(by cases h),fun⟨i,hi,_⟩=>(by simp at hi)⟩
end
def wQ (l:List Bool):Nat→Nat
 |0=>0
 |k+1=>if gb l k then wQ l k+1 else wQ l k
theorem QQ (l:List Bool)(k:Nat):wQ l (k+1)=if gb l k=true then wQ l k+1 else wQ l k:=rfl
theorem kZ (l:List Bool): ∀k,wQ l k≤k
 |0=>Nat.le_refl _
 |k+1=>by
  have :=kZ l k
  rw [QQ]
  split<;>omega
section
variable {x:L7} {n:Nat} {inn:List Bool}
end
theorem kq {n v:Nat}:gb (List.replicate n false) v=false:=by
 unfold gb;rw [List.getD_eq_getElem?_getD,List.getElem?_replicate];split<;>rfl
section
variable {x:L7} {n:Nat}
end
theorem zFD {xs:List Int}{k i:Nat}(h:i<k):gi (xs.take k) i=gi xs i:=by
 unfold gi
 rw [List.getD_eq_getElem?_getD,List.getD_eq_getElem?_getD,List.getElem?_take,if_pos h]
section
variable {x:L7} {n:Nat} {inn goal out:List Bool} {who:Int} {left queue:List Int}
theorem At0.next {k:Nat}(h:At0 x n inn goal k out left queue)(hk:k<n):
  (gb inn k=false→At0 x n inn goal (k+1) out left queue)∧(gb inn k=true→gb goal k=false→At0 x n inn goal (k+1) out (left.set k (kc x inn k)) queue)∧
  (gb inn k=true→gb goal k=true→At0 x n inn goal (k+1) (out.set k true) (left.set k (kc x inn k)) (queue++ [(k:Int)])):=by
 have hll:k<left.length:=by rw [h.ll];exact hk
 have hlo:k<out.length:=by rw [h.lo];exact hk
 have hlef:gb inn k=true→∀v,v<k+1→gb inn v=true→gi (left.set k (kc x inn k)) v=kc x inn v:=fun _ v hv hb=>by
  rw [Yv hll]
  split
  ·rename_i e;rw [e]
  ·exact h.lef v (by omega) hb
 have hq2: ∀i,i<queue.length→0≤gi queue i∧gi queue i<((k+1:Nat):Int):=fun i hi=>by have :=h.qrg i hi;omega
 have hstay:(gb inn k&&gb goal k)=false→∀v,v<n→gb out v=(decide (v<k+1)&&(gb inn v&&gb goal v)):=fun hb v hv=>by
  rw [h.outs v hv]
  by_cases e:v=k
  ·rw [e,hb,Bool.and_false,Bool.and_false]
  ·have :decide (v<k)=decide (v<k+1):=decide_eq_decide.2 (by omega)
   rw [this]
 refine⟨fun h1=>⟨h.lo,h.ll,by have :=h.lq;omega,hq2,h.qnd,h.qout,hstay (by rw [h1];rfl),fun v hv hb=> ?_⟩,fun h1 h2=>⟨h.lo,by rw [List.length_set];exact h.ll,by have :=h.lq;omega,hq2,h.qnd,h.qout,hstay (by rw [h2,Bool.and_false]),hlef h1⟩,fun h1 h2=> ?_⟩
 ·refine h.lef v ?_ hb
  rcases Nat.lt_or_ge v k with h5|h5
  ·exact h5
  ·rw [show v=k by omega,h1]at hb;cases hb
 ·have hql:(queue++ [(k:Int)]).length=queue.length+1:=by simp
  have hqs: ∀j,j<queue.length+1→gi (queue++ [(k:Int)]) j=if j=queue.length then(k:Int)else gi queue j:=fun j hj=>by
   split
   ·rename_i e;rw [e];unfold gi;rw [List.getD_eq_getElem?_getD,List.getElem?_append_right (Nat.le_refl _)];simp
   ·unfold gi;rw [List.getD_eq_getElem?_getD,List.getElem?_append_left (by omega),List.getD_eq_getElem?_getD]
  refine⟨by rw [List.length_set];exact h.lo,by rw [List.length_set];exact h.ll,by rw [hql];have :=h.lq;omega,fun i hi=> ?_,fun i j hij hj=> ?_,fun v hv=> ?_,fun v hv=> ?_,hlef h1⟩
  ·rw [hql]at hi
   rw [hqs i hi]
   split
   ·omega
   ·exact hq2 i (by omega)
  ·rw [hql]at hj
   rw [hqs i (by omega),hqs j hj,if_neg (by omega)]
   split
   ·have :=h.qrg i (by omega);omega
   ·exact h.qnd i j hij (by omega)
  ·rw [xH hlo,hql]
   constructor
   ·intro hb
    split at hb
    ·rename_i e;exact⟨queue.length,by omega,by rw [hqs _ (by omega),if_pos rfl,e]⟩
    ·obtain⟨i,hi,e⟩:=(h.qout v hv).1 hb
     exact⟨i,by omega,by rw [hqs i (by omega),if_neg (by omega)];exact e⟩
   ·rintro⟨i,hi,e⟩
    rw [hqs i hi]at e
    split at e
    ·rw [if_pos (by omega)]
    ·split
     ·rfl
     ·exact(h.qout v hv).2 ⟨i,by omega,e⟩
  ·rw [xH hlo]
   split
   ·rename_i e;rw [e,h1,h2,decide_eq_true (by omega)];rfl
   ·rename_i e
    rw [h.outs v hv]
    have :decide (v<k)=decide (v<k+1):=decide_eq_decide.2 (by omega)
    rw [this]
end
theorem zB4 {xs:List Int}{i:Nat}(h:i<xs.length):gi xs i∈xs:=List.mem_of_getElem? (ZY h)
section
variable {P:Program} {np:Bool} {τ:Ty} {lo:Nat} {w0:Fz} {ow:Nat→Option Pl} {hd:Nat→Value} {bk:Nat→Nat} {st:St} {a:Act} {w:World}
end
section
variable {P:Program} {np:Bool} {τ:Ty} {lo:Nat} {w0:Fz} {ow:Nat→Option Pl} {hd:Nat→Value} {bk:Nat→Nat} {st:St} {a:Act} {w:World}
end
attribute [push_cast] Zu
end Go.Proofs.Ytggpbepdeilpgaa
