/- the laws' helpers of Memory -/
import Derived.Test.YthepmdkpbjfdcaaGDzmp
import Derived.Test.YthepmdkpbjfdcaaB6zmp
import Derived.Test.YthepmdkpbjfdcaaGEzmp
import Derived.Lib.SliceRun
import Derived.ArgAppend
import Derived.MapKept
namespace Go.Proofs.Ythepmdkpbjfdcaa
open Nat renaming reduceMod → zA, reduceMul → zB, reduceDiv → zC, reduceAdd → zD, reduceSub → zE, reduceEqDiff → zF, reduceBEq → zG, reduceLT → zH, reduceLeDiff → zI
open Go.RowKit
set_option linter.unusedVariables false
set_option linter.unusedSimpArgs false
structure Me where
 next:List (List Int)
 choice:List (List Int)
 deriving DecidableEq
def dMe (x:Me):List D:= [DII x.next,DII x.choice]
def Me.tot (x:Me):Nat:=xN x.next+xN x.choice
structure Me.Ln (B:Nat)(x:Me):Prop where
 next:qA B x.next
 choice:qA B x.choice
theorem Me.ln_of {B:Nat}{x:Me}(h:x.tot≤B):x.Ln B:=by
 unfold Me.tot at h
 exact⟨Zz (by omega),Zz (by omega)⟩
set_option maxHeartbeats 1000000 in
theorem zCD (x:Me)(l:Int)(h0:0≤l)(h1:l≤1048576)(ha:x.Ln 9223372036854775807):Fn Try.prog tyT 17 [.agg (dMe x), .c (.int .i64 l)] [.c (.int .i64 (szl l x.tot))]:=by
 have ht:x.tot=xN x.next+xN x.choice:=by unfold Me.tot; omega
 unfold dMe
 refine yM (fn:=Try.f17) (ts:= [4]) Try.func17 (by kernel_rfl) rfl rfl (by rw [Try.ntmps17];exact Nat.le_of_ble_eq_true rfl) rfl (by simp only [szA,List.mem_cons,List.not_mem_nil,or_false,forall_eq_or_imp,forall_eq,VT.cells,szL];try decide) ?_
 rw [Try.ntmps17]
 simp only [push_cast,↓zK,↓zJ,↓reduceIte,zA,zB,zC,zD,zE,zF,zG,zH,zI,reduceCtorEq]
 refine zL fun K hK=> ?_
 refine zM zO zN [] rfl ?_
 simp only [push_cast,↓zK,↓zJ,↓reduceIte,zA,zB,zC,zD,zE,zF,zG,zH,zI,reduceCtorEq]
 repeat' apply And.intro
 all_goals try exact gB
 all_goals first|(refine hK _ ?_;clear hK K)|(simp only [push_cast];done)
 have hA:=WS x.next (l) (by omega) (by omega) ha.next
 refine zL fun K hK=> ?_
 refine zM zO zN [] rfl ?_
 simp only [push_cast,↓zK,↓zJ,↓reduceIte,zA,zB,zC,zD,zE,zF,zG,zH,zI,reduceCtorEq]
 refine⟨_,hA,?_⟩
 simp only [push_cast,↓zK,↓zJ,↓reduceIte,zA,zB,zC,zD,zE,zF,zG,zH,zI,reduceCtorEq]
 repeat' apply And.intro
 all_goals try exact gB
 refine hK _ ?_
 clear hK K hA
 refine zL fun K0 hK0=> ?_
 refine zL fun K hK=> ?_
 refine zM zO zN [] rfl ?_
 simp only [push_cast,↓zK,↓zJ,↓reduceIte,zA,zB,zC,zD,zE,zF,zG,zH,zI,reduceCtorEq]
 repeat' apply And.intro
 all_goals try exact gB
 all_goals first|(refine hK _ ?_;clear hK K)|(simp only [push_cast];done)
 by_cases hn0:(l)<(xN x.next:Nat)
 ·rw [xr hn0]
  refine zU rfl (fun hc=> ?_) (fun hc=> ?_)<;>(try simp only [push_cast]at hc)
  ·
   refine zL fun K hK=> ?_
   refine zM zO zN [] rfl ?_
   simp only [push_cast,↓zK,↓zJ,↓reduceIte,zA,zB,zC,zD,zE,zF,zG,zH,zI,reduceCtorEq]
   repeat' apply And.intro
   all_goals try exact gB
   all_goals first|(refine hK _ ?_;clear hK K)|(simp only [push_cast];done)
   refine zb ?_
   (try simp only [zR,zS])
   refine⟨Or.inl rfl,?_⟩
   simp only [zh,push_cast,↓zK,↓zJ,↓reduceIte,zA,zB,zC,zD,zE,zF,zG,zH,zI,reduceCtorEq]
   rw [xr (by omega)]
  ·exact absurd hc (by decide)
 ·rw [vH hn0]
  refine zU rfl (fun hc=> ?_) (fun hc=> ?_)<;>(try simp only [push_cast]at hc)
  ·exfalso;omega
  ·refine zY ?_
   (try simp only [zR,zS,reduceIte,zF]);refine hK0 _ ?_
   have hA:=WS x.choice (l - (xN x.next:Nat)) (by omega) (by omega) ha.choice
   refine zL fun K hK=> ?_
   refine zM zO zN [] rfl ?_
   simp only [push_cast,↓zK,↓zJ,↓reduceIte,zA,zB,zC,zD,zE,zF,zG,zH,zI,reduceCtorEq]
   refine⟨_,hA,?_⟩
   simp only [push_cast,↓zK,↓zJ,↓reduceIte,zA,zB,zC,zD,zE,zF,zG,zH,zI,reduceCtorEq]
   repeat' apply And.intro
   all_goals try exact gB
   refine hK _ ?_
   clear hK K hA
   refine zL fun K1 hK1=> ?_
   refine zL fun K hK=> ?_
   refine zM zO zN [] rfl ?_
   simp only [push_cast,↓zK,↓zJ,↓reduceIte,zA,zB,zC,zD,zE,zF,zG,zH,zI,reduceCtorEq]
   repeat' apply And.intro
   all_goals try exact gB
   all_goals first|(refine hK _ ?_;clear hK K)|(simp only [push_cast];done)
   by_cases hn1:(l - (xN x.next:Nat))<(xN x.choice:Nat)
   ·rw [xr hn1]
    refine zU rfl (fun hc=> ?_) (fun hc=> ?_)<;>(try simp only [push_cast]at hc)
    ·
     refine zL fun K hK=> ?_
     refine zM zO zN [] rfl ?_
     simp only [push_cast,↓zK,↓zJ,↓reduceIte,zA,zB,zC,zD,zE,zF,zG,zH,zI,reduceCtorEq]
     repeat' apply And.intro
     all_goals try exact gB
     all_goals first|(refine hK _ ?_;clear hK K)|(simp only [push_cast];done)
     refine zb ?_
     (try simp only [zR,zS])
     refine⟨Or.inl rfl,?_⟩
     simp only [zh,push_cast,↓zK,↓zJ,↓reduceIte,zA,zB,zC,zD,zE,zF,zG,zH,zI,reduceCtorEq]
     rw [xr (by omega)]
    ·exact absurd hc (by decide)
   ·rw [vH hn1]
    refine zU rfl (fun hc=> ?_) (fun hc=> ?_)<;>(try simp only [push_cast]at hc)
    ·exfalso;omega
    ·refine zY ?_
     (try simp only [zR,zS,reduceIte,zF]);refine hK1 _ ?_
     refine zL fun K hK=> ?_
     refine zM zO zN [] rfl ?_
     simp only [push_cast,↓zK,↓zJ,↓reduceIte,zA,zB,zC,zD,zE,zF,zG,zH,zI,reduceCtorEq]
     repeat' apply And.intro
     all_goals try exact gB
     all_goals first|(refine hK _ ?_;clear hK K)|(simp only [push_cast];done)
     refine zb ?_
     (try simp only [zR,zS])
     refine⟨Or.inl rfl,?_⟩
     simp only [zh,push_cast,↓zK,↓zJ,↓reduceIte,zA,zB,zC,zD,zE,zF,zG,zH,zI,reduceCtorEq]
     rw [vH (by omega)];omega
set_option maxHeartbeats 1000000 in
theorem QB (x:Me)(ha:x.Ln 1048576):Fn Try.prog tyT 19 [.agg (dMe x)] [.agg (dMe x)]:=by
 unfold dMe
 refine ub (fn:=Try.f19) (rs:= [.cell 2 42]) zO zN Try.func19 (by kernel_rfl) rfl rfl (by rw [Try.ntmps19];exact Nat.le_of_ble_eq_true rfl) rfl (by simp only [szA,List.mem_cons,List.not_mem_nil,or_false,forall_eq_or_imp,forall_eq,VT.cells,szL];try decide) ?_
 rw [Try.ntmps19]
 simp only [push_cast,↓zK,↓zJ,↓reduceIte,zA,zB,zC,zD,zE,zF,zG,zH,zI,reduceCtorEq]
 refine zL fun K hK=> ?_
 refine zM zO zN [] rfl ?_
 simp only [push_cast,↓zK,↓zJ,↓reduceIte,zA,zB,zC,zD,zE,zF,zG,zH,zI,reduceCtorEq]
 repeat' apply And.intro
 all_goals try exact gB
 all_goals first|(refine hK _ ?_;clear hK K)|(simp only [push_cast];done)
 refine zL fun K hK=> ?_
 refine zM zO zN [] rfl ?_
 simp only [push_cast,↓zK,↓zJ,↓reduceIte,zA,zB,zC,zD,zE,zF,zG,zH,zI,reduceCtorEq]
 repeat' apply And.intro
 all_goals try exact gB
 all_goals first|(refine hK _ ?_;clear hK K)|(simp only [push_cast];done)
 have hA:=WV x.next ha.next
 refine zL fun K hK=> ?_
 refine zM zO zN [] rfl ?_
 simp only [push_cast,↓zK,↓zJ,↓reduceIte,zA,zB,zC,zD,zE,zF,zG,zH,zI,reduceCtorEq]
 refine⟨_,hA,?_⟩
 simp only [push_cast,↓zK,↓zJ,↓reduceIte,zA,zB,zC,zD,zE,zF,zG,zH,zI,reduceCtorEq]
 repeat' apply And.intro
 all_goals try exact gB
 refine hK _ ?_
 clear hK K hA
 have hA:=WV x.choice ha.choice
 refine zL fun K hK=> ?_
 refine zM zO zN [] rfl ?_
 simp only [push_cast,↓zK,↓zJ,↓reduceIte,zA,zB,zC,zD,zE,zF,zG,zH,zI,reduceCtorEq]
 refine⟨_,hA,?_⟩
 simp only [push_cast,↓zK,↓zJ,↓reduceIte,zA,zB,zC,zD,zE,zF,zG,zH,zI,reduceCtorEq]
 repeat' apply And.intro
 all_goals try exact gB
 refine hK _ ?_
 clear hK K hA
 refine zL fun K hK=> ?_
 refine zM zO zN [] rfl ?_
 simp only [push_cast,↓zK,↓zJ,↓reduceIte,zA,zB,zC,zD,zE,zF,zG,zH,zI,reduceCtorEq]
 repeat' apply And.intro
 all_goals try exact gB
 all_goals first|(refine hK _ ?_;clear hK K)|(simp only [push_cast];done)
 refine zb ?_
 (try simp only [zR,zS])
 refine⟨Or.inl rfl,?_⟩
 simp only [zh,xC,qn,push_cast,↓zK,↓zJ,↓reduceIte,zA,zB,zC,zD,zE,zF,zG,zH,zI,reduceCtorEq]
 try rfl
set_option maxHeartbeats 1000000 in
theorem zBf (x:Me)(ha:x.Ln 1048576):Fn Try.prog tyT 22 [.agg (dMe x), .agg (dMe x)] [.c (.bool true)]:=by
 unfold dMe
 refine yM (fn:=Try.f22) (ts:= [4]) Try.func22 (by kernel_rfl) rfl rfl (by rw [Try.ntmps22];exact Nat.le_of_ble_eq_true rfl) rfl (by simp only [szA,List.mem_cons,List.not_mem_nil,or_false,forall_eq_or_imp,forall_eq,VT.cells,szL];try decide) ?_
 rw [Try.ntmps22]
 simp only [push_cast,↓zK,↓zJ,↓reduceIte,zA,zB,zC,zD,zE,zF,zG,zH,zI,reduceCtorEq]
 refine zL fun K hK=> ?_
 refine zM zO zN [] rfl ?_
 simp only [push_cast,↓zK,↓zJ,↓reduceIte,zA,zB,zC,zD,zE,zF,zG,zH,zI,reduceCtorEq]
 repeat' apply And.intro
 all_goals try exact gB
 all_goals first|(refine hK _ ?_;clear hK K)|(simp only [push_cast];done)
 refine zL fun K0 hK0=> ?_
 have hA:=Qe x.next ha.next
 refine zL fun K hK=> ?_
 refine zM zO zN [] rfl ?_
 simp only [push_cast,↓zK,↓zJ,↓reduceIte,zA,zB,zC,zD,zE,zF,zG,zH,zI,reduceCtorEq]
 refine⟨_,hA,?_⟩
 simp only [push_cast,↓zK,↓zJ,↓reduceIte,zA,zB,zC,zD,zE,zF,zG,zH,zI,reduceCtorEq]
 repeat' apply And.intro
 all_goals try exact gB
 refine hK _ ?_
 clear hK K hA
 refine zU rfl (fun hc=>by cases hc) (fun _=> ?_)
 refine zY ?_
 (try simp only [zR,zS,reduceIte,zF]);refine hK0 _ ?_
 refine zL fun K1 hK1=> ?_
 have hA:=Qe x.choice ha.choice
 refine zL fun K hK=> ?_
 refine zM zO zN [] rfl ?_
 simp only [push_cast,↓zK,↓zJ,↓reduceIte,zA,zB,zC,zD,zE,zF,zG,zH,zI,reduceCtorEq]
 refine⟨_,hA,?_⟩
 simp only [push_cast,↓zK,↓zJ,↓reduceIte,zA,zB,zC,zD,zE,zF,zG,zH,zI,reduceCtorEq]
 repeat' apply And.intro
 all_goals try exact gB
 refine hK _ ?_
 clear hK K hA
 refine zU rfl (fun hc=>by cases hc) (fun _=> ?_)
 refine zY ?_
 (try simp only [zR,zS,reduceIte,zF]);refine hK1 _ ?_
 refine zL fun K hK=> ?_
 refine zM zO zN [] rfl ?_
 simp only [push_cast,↓zK,↓zJ,↓reduceIte,zA,zB,zC,zD,zE,zF,zG,zH,zI,reduceCtorEq]
 repeat' apply And.intro
 all_goals try exact gB
 all_goals first|(refine hK _ ?_;clear hK K)|(simp only [push_cast];done)
 refine zb ?_
 (try simp only [zR,zS])
 refine⟨Or.inl rfl,?_⟩
 simp only [zh,push_cast,↓zK,↓zJ,↓reduceIte,zA,zB,zC,zD,zE,zF,zG,zH,zI,reduceCtorEq]
def Me.cnt (x:Me):Nat:=yI x.next+yI x.choice
theorem Me.ln_mono {B C:Nat}(hB:B≤C){x:Me}(h:x.Ln B):x.Ln C:=⟨qA.mono hB h.next,qA.mono hB h.choice⟩
theorem Me.cnt_le {x:Me}(h:x.Ln 1048576):x.cnt≤2199023255552:=by
 have h0:=YE h.next
 have h1:=YE h.choice
 unfold Me.cnt
 omega
def mkMe (k:Int)(x:Me):Me:=
 ⟨mkR (k) x.next,mkR (k+(yI x.next:Nat)) x.choice⟩
set_option maxHeartbeats 1000000 in
theorem UT (x:Me)(k:Int)(h0:0≤k)(h1:k+x.cnt≤4611686018427387904)(ha:x.Ln 4611686018427387904):FnG Try.prog tyT 24 [.agg (dMe x), .c (.int .i64 k)] [0,1] [(0,22,dII (mkR (k) x.next)),(1,22,dII (mkR (k+(yI x.next:Nat)) x.choice))] [.c (.int .i64 (k+x.cnt))]:=by
 have ht:x.cnt=yI x.next+yI x.choice:=by unfold Me.cnt; omega
 unfold dMe
 refine XB (fn:=Try.f24) (rs:= [.tmp 4]) (own:= [0,1]) (outs:= [(0,22,dII (mkR (k) x.next)),(1,22,dII (mkR (k+(yI x.next:Nat)) x.choice))]) zO zN Try.func24 (by kernel_rfl) rfl rfl (by rw [Try.ntmps24];exact Nat.le_of_ble_eq_true rfl) rfl (by simp only [szA,List.mem_cons,List.not_mem_nil,or_false,forall_eq_or_imp,forall_eq,VT.cells,szL];try decide) ?_
 rw [Try.ntmps24]
 simp only [push_cast,↓zK,↓zJ,↓reduceIte,zA,zB,zC,zD,zE,zF,zG,zH,zI,reduceCtorEq]
 refine zL fun K hK=> ?_
 refine zM zO zN [] rfl ?_
 simp only [push_cast,↓zK,↓zJ,↓reduceIte,zA,zB,zC,zD,zE,zF,zG,zH,zI,reduceCtorEq]
 repeat' apply And.intro
 all_goals try exact gB
 all_goals first|(refine hK _ ?_;clear hK K)|(simp only [push_cast];done)
 have hA:=wG x.next (k) (by omega) (by omega) ha.next.1
 refine zL fun K hK=> ?_
 refine xG 8 [0] [(0,22,dII (mkR (k) x.next))] zO zN [] rfl ?_
 simp only [push_cast,↓zK,↓zJ,↓reduceIte,zA,zB,zC,zD,zE,zF,zG,zH,zI,reduceCtorEq]
 refine⟨_,hA,?_⟩
 simp only [push_cast,↓zK,↓zJ,↓reduceIte,zA,zB,zC,zD,zE,zF,zG,zH,zI,reduceCtorEq]
 refine hK _ ?_
 clear hK K hA
 have hA:=wG x.choice (k+(yI x.next:Nat)) (by omega) (by omega) ha.choice.1
 refine zL fun K hK=> ?_
 refine xG 12 [0] [(0,22,dII (mkR (k+(yI x.next:Nat)) x.choice))] zO zN [] rfl ?_
 simp only [push_cast,↓zK,↓zJ,↓reduceIte,zA,zB,zC,zD,zE,zF,zG,zH,zI,reduceCtorEq]
 refine⟨_,hA,?_⟩
 simp only [push_cast,↓zK,↓zJ,↓reduceIte,zA,zB,zC,zD,zE,zF,zG,zH,zI,reduceCtorEq]
 refine hK _ ?_
 clear hK K hA
 refine zL fun K hK=> ?_
 refine zM zO zN [] rfl ?_
 simp only [push_cast,↓zK,↓zJ,↓reduceIte,zA,zB,zC,zD,zE,zF,zG,zH,zI,reduceCtorEq]
 repeat' apply And.intro
 all_goals try exact gB
 all_goals first|(refine hK _ ?_;clear hK K)|(simp only [push_cast];done)
 refine zb ?_
 (try simp only [zR,zS])
 refine⟨Or.inl rfl,?_⟩
 simp only [wR,vP,xC,qn,push_cast,↓zK,↓zJ,↓reduceIte,zA,zB,zC,zD,zE,zF,zG,zH,zI,reduceCtorEq]
 try(unfold Me.cnt;omega)
open Go.ChangeShapes Go.WideShapes Go.ChangeAt Go.RowKit Go.Deep Go.Joins
structure Me.Rg (x:Me):Prop where
 next:Jw x.next
 choice:Jw x.choice
section
variable {H:Type} {enc:TypeId×Value→H} {W:World} {lo:Nat}
set_option maxRecDepth 100000 in
theorem zB0 {fuel:Nat}{cs:List Value}{x:DataW H×List MemPlace}(h:Tro enc W fuel 38 cs x): ∃a:Me,RpSN lo W (dMe a) cs∧a.Rg∧a.Ln 9223372036854775807:=by
 obtain⟨y0,y1,n,_,hl,h0,h1⟩:=trod_struct2 Try.underlying38 h
 rw [show Try.prog.cellsOf 38=2 from by kernel_rfl]at hl
 obtain⟨c0,c1,rfl⟩:=zA8 hl
 rw [show Try.prog.cellsOf 23=1 from by kernel_rfl]at h0
 rw [show Try.prog.cellsOf 23=1 from by kernel_rfl]at h1
 simp at h0 h1
 obtain⟨v0,a0,e0,r0,g0,l0⟩:=WP (lo:=lo) h0
 simp only [List.cons.injEq,and_true]at e0
 subst e0
 obtain⟨v1,a1,e1,r1,g1,l1⟩:=WP (lo:=lo) h1
 simp only [List.cons.injEq,and_true]at e1
 subst e1
 exact⟨⟨a0,a1⟩,Vw (wt r0) (wt r1),⟨g0,g1⟩,⟨l0,l1⟩⟩
set_option maxRecDepth 100000 in
theorem zCT {base:Nat}{v:Value}{d:DataW H}{p:List MemPlace}(hv:Value.okWide Try.prog W .any base 38 v)(h:DataW.Trod enc Try.prog W 0 (fun _=>true) true 38 v d p): ∃a:Me,vy (sz tyT) lo W (fun _=>none) (.agg (dMe a)) v∧a.Rg∧a.Ln 9223372036854775807:=by
 obtain⟨cs,rfl,hsz⟩:=okWide_struct Try.underlying38 hv
 obtain⟨fuel,hf⟩:=h
 obtain⟨a,h1,h2⟩:=zB0 (lo:=lo) hf
 exact⟨a,⟨cs.toList,by simp,h1⟩,h2⟩
end
section
variable {P:Program} {τ:Ty} {lo:Nat} {w0:Fz} {st:St} {a:Act} {w:World}
end
section
variable {P:Program} {τ:Ty} {lo:Nat} {w0:Fz} {st:St} {w:World} {rr:List (Nat×zl)} {bb bb':List (Nat×List AV)} {hd:Nat→Value} {bk bk':Nat→Nat} {t T:Nat}
end
section
variable {P:Program} {np:Bool} {τ:Ty} {lo:Nat} {w0:Fz} {ow:Nat→Option Pl} {hd:Nat→Value} {bk:Nat→Nat} {st:St} {a:Act} {w:World}
end
section
variable {P:Program} {np:Bool} {τ:Ty} {lo:Nat} {w0:Fz} {ow:Nat→Option Pl} {hd:Nat→Value} {bk:Nat→Nat} {st:St} {a:Act} {w:World}
end
attribute [push_cast] ZJ
section
variable {P:Program} {all:List Oper} {T:List (List Nat)} {c:Nat} {Q':Exit→Act→World→Prop}
end
section
variable {P:Program} {τ:Ty} {lo:Nat} {w0:Fz} {st:St} {a:Act} {w:World}
variable {np:Bool} {ow:Nat→Option Pl} {hd:Nat→Value} {bk:Nat→Nat} {st':St}
end
section
variable {P:Program} {τ:Ty} {lo:Nat} {w0:Fz} {ow:Nat→Option Pl} {hd:Nat→Value} {bk:Nat→Nat} {st:St} {a:Act} {w:World}
end
section
variable {P:Program} {τ:Ty} {lo:Nat} {w0:Fz} {ow:Nat→Option Pl} {hd:Nat→Value} {bk:Nat→Nat} {st:St} {a:Act} {w:World}
end
section
variable {P:Program} {τ:Ty} {lo:Nat} {w0:Fz} {ow:Nat→Option Pl} {hd:Nat→Value} {bk:Nat→Nat} {st:St} {a:Act} {w:World}
end
abbrev MD :=List ((Int×Int)×Int)
def mapE (x:(Int×Int)×Int)(i:Nat):MapEntry:={key:= .agg #[.int .i64 x.1.1, .int .i64 x.1.2],val:= .int .i64 x.2,born:=i}
def wa :MD→Nat→List MapEntry
 | [],_=> []
 |x::xs,i=>mapE x i::wa xs (i+1)
def qU (m:MD):Obj:= .map (wa m 0).toArray m.length
theorem Kr : ∀(m:MD) (x:(Int×Int)×Int) (i:Nat),wa (m++ [x]) i=wa m i++ [mapE x (i+m.length)]
 | [],x,i=>rfl
 |y::m,x,i=>by
  simp only [List.cons_append,wa,Kr m x (i+1),List.length_cons,List.cons.injEq,true_and]
  rw [show i+1+m.length=i+(m.length+1) by omega]
def lkM :MD→Int×Int→Option Int
 | [],_=>none
 |x::m,k=>if k=x.1 then some x.2 else lkM m k
def ixM :MD→Int×Int→Nat→Nat
 | [],_,i=>i
 |x::m,k,i=>if k=x.1 then i else ixM m k (i+1)
structure yW (P:Program)(ta te tm:TypeId):Prop where
 ua:P.underlying ta=some (.array 2 te)
 ue:P.underlying te=some (.int .i64)
 um:P.underlying tm=some (.map ta te)
 ia: ∃i,P.info? ta=some i∧i.size=2∧i.zero=some (.agg #[.int .i64 0, .int .i64 0])
 ie: ∃i,P.info? te=some i∧i.size=1∧i.zero=some (.int .i64 0)
section
variable {P:Program} {ta te tm:TypeId} {w:World}
theorem yW.agg (h:yW P ta te tm):(isAgg ta).run P w= .ok true w:=by
 unfold isAgg
 rw [Sem.run_bind,run_underlying h.ua,Result.andThen_ok]
 simp
theorem yW.eagg (h:yW P ta te tm):(isAgg te).run P w= .ok false w:=by
 unfold isAgg
 rw [Sem.run_bind,run_underlying h.ue,Result.andThen_ok]
 simp
theorem yW.size (h:yW P ta te tm):(sizeOf ta).run P w= .ok 2 w:=by
 obtain⟨i,hi,h1,-⟩:=h.ia
 simp [sizeOf,typeInfo,hi,h1]
theorem yW.esize (h:yW P ta te tm):(sizeOf te).run P w= .ok 1 w:=by
 obtain⟨i,hi,h1,-⟩:=h.ie
 simp [sizeOf,typeInfo,hi,h1]
theorem yW.zero (h:yW P ta te tm):(zeroValue ta).run P w= .ok (.agg #[.int .i64 0, .int .i64 0]) w:=by
 obtain⟨i,hi,-,h1⟩:=h.ia
 simp [zeroValue,typeInfo,hi,h1]
theorem yW.ezero (h:yW P ta te tm):(zeroValue te).run P w= .ok (.int .i64 0) w:=by
 obtain⟨i,hi,-,h1⟩:=h.ie
 simp [zeroValue,typeInfo,hi,h1]
theorem yW.part (h:yW P ta te tm){xs:Array Value}{i:Nat}{v:Value}(hx:xs[i]? =some v):(part te xs i).run P w= .ok v w:=by
 unfold Go.part
 rw [Sem.run_bind,h.eagg,Result.andThen_ok]
 simp [hx]
theorem yW.echeck (h:yW P ta te tm)(em:Bool)(n:Nat)(k:IntKind)(x:Int):(Instr.checkKey em (n+1) te (.int k x)).run P w= .ok () w:=by
 unfold Instr.checkKey
 rw [Sem.run_bind,run_underlying h.ue,Result.andThen_ok]
 simp
theorem yW.check (h:yW P ta te tm)(em:Bool)(a b:Int):(Instr.checkKey em 10000 ta (.agg #[.int .i64 a, .int .i64 b])).run P w= .ok () w:=by
 rw [show(10000:Nat)=9999+1 from rfl]
 unfold Instr.checkKey
 rw [Sem.run_bind,run_underlying h.ua,Result.andThen_ok]
 have p0:=h.part (w:=w) (i:=0) (v:= .int .i64 a) (xs:= #[.int .i64 a, .int .i64 b]) rfl
 have p1:=h.part (w:=w) (i:=1) (v:= .int .i64 b) (xs:= #[.int .i64 a, .int .i64 b]) rfl
 have c0:=h.echeck (w:=w) em 9998 .i64 a
 have c1:=h.echeck (w:=w) em 9998 .i64 b
 have es:=h.esize (w:=w)
 simp [show List.range' 0 2= [0,1]from rfl,Sem.run_bind,es,p0,p1,c0,c1,Result.andThen]
theorem yW.eq (h:yW P ta te tm)(a b c d:Int):(Op.equal ta (.agg #[.int .i64 a, .int .i64 b]) (.agg #[.int .i64 c, .int .i64 d])).run P w= .ok (decide ((a,b)=(c,d))) w:=by
 unfold Op.equal
 rw [show Op.maxDepth=9998+1+1 from rfl]
 unfold Op.equalIn
 rw [Sem.run_bind,run_underlying h.ua,Result.andThen_ok]
 have h1: ∀x y:Int,(Op.equalIn (9998+1) te (.int .i64 x) (.int .i64 y)).run P w= .ok (x==y) w:=fun x y=>run_equalIn_int w 9998 te .i64 .i64 x y h.ue
 simp [h.esize,h.part (i:=0) (v:= .int .i64 a) (xs:= #[.int .i64 a, .int .i64 b]) rfl,h.part (i:=1) (v:= .int .i64 b) (xs:= #[.int .i64 a, .int .i64 b]) rfl,h.part (i:=0) (v:= .int .i64 c) (xs:= #[.int .i64 c, .int .i64 d]) rfl,h.part (i:=1) (v:= .int .i64 d) (xs:= #[.int .i64 c, .int .i64 d]) rfl,h1,Result.andThen,show List.range' 0 2= [0,1]from rfl]
 have p1:=h.part (w:=w) (i:=1) (v:= .int .i64 b) (xs:= #[.int .i64 a, .int .i64 b]) rfl
 have p2:=h.part (w:=w) (i:=1) (v:= .int .i64 d) (xs:= #[.int .i64 c, .int .i64 d]) rfl
 have h2:(Op.equalIn 9999 te (.int .i64 b) (.int .i64 d)).run P w= .ok (b==d) w:=h1 b d
 by_cases hac:a=c
 ·subst hac
  by_cases hbd:b=d
  ·subst hbd
   rw [beq_self_eq_true]at h2
   simp [Sem.run_bind,p1,h2,Result.andThen]
  ·rw [beq_eq_false_iff_ne.2 hbd]at h2
   simp [Sem.run_bind,p1,p2,h2,hbd,Result.andThen]
 ·simp [hac,Sem.run_bind,Result.andThen]
theorem yW.asks (h:yW P ta te tm)(k:Int×Int): ∀(m:MD) (i j:Nat),(Instr.findAsking ta (.agg #[.int .i64 k.1, .int .i64 k.2]) (wa m j) i).run P w= .ok ((lkM m k).map fun v=>(ixM m k i, .int .i64 v)) w
 | [],i,j=>by simp [Instr.findAsking,wa,lkM]
 |x::m,i,j=>by
  simp only [wa,Instr.findAsking,mapE]
  rw [Sem.run_bind,h.eq,Result.andThen_ok]
  simp only [lkM,ixM]
  by_cases e:k=x.1
  ·have :((k.1,k.2):Int×Int)=(x.1.1,x.1.2):=e
   rw [decide_eq_true this,if_pos e,if_pos e]
   simp
  ·have : ¬((k.1,k.2):Int×Int)=(x.1.1,x.1.2):=e
   rw [decide_eq_false this,if_neg e,if_neg e]
   simp only [Bool.false_eq_true,if_false]
   exact h.asks k m (i+1) (j+1)
theorem yW.finds (h:yW P ta te tm)(k:Int×Int)(m:MD)(j:Nat):(Instr.findKey ta (.agg #[.int .i64 k.1, .int .i64 k.2]) (wa m j)).run P w= .ok ((lkM m k).map fun v=>(ixM m k 0, .int .i64 v)) w:=by
 unfold Instr.findKey
 rw [Sem.run_bind,run_underlying h.ua,Result.andThen_ok]
 cases m with
 |nil=>simp [wa,Instr.findNow,lkM]
 |cons x m=>
  have :=h.asks (w:=w) k (x::m) 0 j
  simp only [wa,Instr.findNow,Instr.sameNow]at this⊢
  exact this
theorem yW.look (h:yW P ta te tm){r:Nat}{m:MD}(hr:w.heap[r]? =some (qU m))(k:Int×Int):
  (Instr.lookup tm (.map (some r)) (.agg #[.int .i64 k.1, .int .i64 k.2]) true).run P w= .ok (.tuple #[.int .i64 ((lkM m k).getD 0), .bool (lkM m k).isSome]) w:=by
 have hf:=h.finds (w:=w) k m 0
 have hg:=MapKept.run_getObj_map (P:=P) hr
 have hc:=h.check (w:=w) (wa m 0).toArray.isEmpty k.1 k.2
 unfold Instr.lookup
 rw [Sem.run_bind,run_underlying h.um,Result.andThen_ok]
 simp only [Sem.run_bind,hg,Result.andThen_ok,Sem.run_pure,hc,hf]
 cases hl:lkM m k with
 |none=>simp [h.ezero,Sem.run_bind,Result.andThen]
 |some v=>simp [Sem.run_bind,Result.andThen]
theorem yW.upd (h:yW P ta te tm){r:Nat}{m:MD}(hr:w.heap[r]? =some (qU m))(k:Int×Int)(v:Int)(hk:lkM m k=none):
  (Instr.mapUpdate tm (.map (some r)) (.agg #[.int .i64 k.1, .int .i64 k.2]) (.int .i64 v)).run P w= .ok () {w with heap:=w.heap.setIfInBounds r (qU (m++ [(k,v)]))}:=by
 have hf:=h.finds (w:=w) k m 0
 have hg:=MapKept.run_getObj_map (P:=P) hr
 have hc:=h.check (w:=w) false k.1 k.2
 have hs:=fun o=>MapKept.run_setObj_map (P:=P) o hr
 unfold Instr.mapUpdate
 rw [Sem.run_bind,run_underlying h.um,Result.andThen_ok]
 simp only [Sem.run_bind,hg,Result.andThen_ok,hc,hf,hk,Option.map_none]
 rw [hs]
 simp [qU,Kr,mapE]
end
structure YR (w w':World)(r:Nat):Prop where
 os:w'.os=w.os
 tape:w'.tape=w.tape
 output:w'.output=w.output
 size:w'.heap.size=w.heap.size
 other: ∀k,k≠r→w'.heap[k]? =w.heap[k]?
 it: ∃m,w.heap[r]? =some (qU m)
section
variable {w w':World} {r:Nat}
theorem YR.cell (hm:YR w w' r){b o:Nat}{u:Value}(h:w.cell? ⟨b,o,none⟩=some u):w'.cell? ⟨b,o,none⟩=some u:=by
 by_cases e:b=r
 ·obtain⟨m,hm⟩:=hm.it
  rw [e]at h
  simp [World.cell?,hm,qU]at h
 ·rw [xJ (hm.other b e)];exact h
theorem YR.cells (hm:YR w w' r){b:Nat}{cs:Array Value}{ty:TypeId}{fz:Nat×Nat}(h:w.heap[b]? =some (.cells cs ty fz)):w'.heap[b]? =some (.cells cs ty fz):=by
 by_cases e:b=r
 ·obtain⟨m,hm⟩:=hm.it
  rw [e,hm]at h
  cases h
 ·rw [hm.other b e];exact h
theorem zCJ {S:TypeId→Nat}{lo:Nat}{ow:Nat→Option Pl}(hm:YR w w' r){m:Md}{e:TypeId}{v:Value}{N:Nat}{vs:List Value}(h:Hd S lo w ow m e v N vs):Hd S lo w' ow m e v N vs:=by
 obtain⟨h1,n,h2,h3⟩:=h
 refine⟨h1,n,h2,?_⟩
 have own: ∀(p:Pl),(w.ownsRow lo e (S e) v n vs∧∀b,v.ownBlock=some b→ow b=some p)→(w'.ownsRow lo e (S e) v n vs∧∀b,v.ownBlock=some b→ow b=some p):=by
  rintro p ⟨h3,h4⟩
  refine⟨⟨h3.1,?_⟩,h4⟩
  rcases h3.2 with hn|⟨g,cap,cur,hv,hb,hg,rest⟩
  ·exact .inl hn
  ·exact .inr ⟨g,cap,cur,hv,hb,hm.cells hg,rest⟩
 cases m with
 |sh=>
  obtain⟨A,c,hv,hn,hc,hmm⟩:=h3
  refine⟨A,c,hv,hn,hc,fun h0=> ?_⟩
  obtain⟨b,o,hA,hb,ho,hcell⟩:=hmm h0
  exact⟨b,o,hA,by rw [hm.size];exact hb,ho,fun i u hu=>hm.cell (hcell i u hu)⟩
 |ex d p=>exact own _ h3
 |top d p=>exact own _ h3
mutual
theorem ug {S:TypeId→Nat}{lo:Nat}{ow:Nat→Option Pl}(hm:YR w w' r): ∀(t:D) (m:Md) (v:Value),Rp S lo w ow m t v→Rp S lo w' ow m t v
 | .int k n,m,v,h=>by simpa only [Rp]using h
 | .bool b,m,v,h=>by simpa only [Rp]using h
 | .hole,m,v,h=>by simpa only [Rp]using h
 | .lst e xs,m,v,h=>by
  simp only [Rp]at h⊢
  obtain⟨vs,h1,h2⟩:=h
  exact⟨vs,zCJ hm h1,kE hm xs m 0 vs h2⟩
theorem kE {S:TypeId→Nat}{lo:Nat}{ow:Nat→Option Pl}(hm:YR w w' r): ∀(xs:List D) (m:Md) (k:Nat) (vs:List Value),RpL S lo w ow m k xs vs→RpL S lo w' ow m k xs vs
 | [],m,k,vs,h=>by simpa only [RpL]using h
 |x::xs,m,k,vs,h=>by
  simp only [RpL]at h⊢
  obtain⟨v,vs',h1,h2,h3⟩:=h
  exact⟨v,vs',h1,ug hm x _ v h2,kE hm xs m (k+1) vs' h3⟩
end
end
structure JY (w:World)(ow:Nat→Option Pl)(r:Nat)(m:MD):Prop where
 it:w.heap[r]? =some (qU m)
 nobody: ∀p,ow r=some p→p= .ext
section
variable {P:Program} {τ:Ty} {lo:Nat} {w0:Fz} {ow:Nat→Option Pl} {hd:Nat→Value} {bk:Nat→Nat} {st:St} {a:Act} {w w':World} {r:Nat} {m:MD}
theorem Ux (h:za τ lo w0 ow hd bk st a w)(hm:YR w w' r)(hb:yf w0 w'):za τ lo w0 ow hd bk st a w':=by
 have hD: ∀d,noB d=false→yb w w' st.r st.r hd hd d:=fun d _ R hR=>⟨R,hR,rfl,fun p hp=>⟨hp,ym p _ _ _ _ (h.root d R hR) hp (fun b o A n c hb _ hc=>hm.cell hc)⟩⟩
 have hB: ∀t,noB t=false→ya st.b st.b bk bk t:=fun t _ hl=>⟨hl,rfl⟩
 refine⟨h.big,h.defers,h.size,by rw [hm.size];exact h.low,hb,fun b p hlt hb hp=>h.ge b p (by rw [←hm.size];exact hlt) hb hp,fun b hb=>h.new b (by rw [←hm.size];exact hb),fun k v hv=> ?_,fun d R hR=>ug hm _ _ _ (h.root d R hR),fun t vs hv=> ?_,h.pin⟩
 ·have :=yZ hD hB v _ (h.slot k v hv)
  rwa [qH]at this
 ·obtain⟨cs,ty,h1,h2,h3⟩:=h.box t vs hv
  have :=zu hD hB vs cs h3
  rw [yX]at this
  exact⟨cs,ty,hm.cells h1,h2,this⟩
def vl (τ:Ty)(lo:Nat)(w0:Fz)(r:Nat)(m:MD)(st:St)(a:Act)(w:World):Prop:=w0.w.heap.size≤r∧∃ow hd bk,za τ lo w0 ow hd bk st a w∧JY w ow r m
def fzM (w0:Fz)(ow:Nat→Option Pl)(w:World):Fz:=⟨w,fun b=> ∀p,ow b=some p→p= .ext,w0.pin⟩
theorem qJ (h:za τ lo w0 ow hd bk st a w):za τ lo (fzM w0 ow w) ow hd bk st a w:=
 ⟨h.big,h.defers,h.size,h.low,yf.start (fzM w0 ow w),fun b p hlt hb hp=>⟨(h.ge b p hlt hb hp).1,fun _ hk=>hp (hk p hb)⟩,h.new,h.slot,h.root,h.box,h.pin⟩
theorem qB (h:za τ lo w0 ow hd bk st a w)(hm:JY w ow r m)(hr:w0.w.heap.size≤r){st':St}{a':Act}(h':Rel τ lo (fzM w0 ow w) st' a' w'):vl τ lo w0 r m st' a' w':=by
 obtain⟨ow',hd',bk',h'⟩:=h'
 have hlt:r<w.heap.size:=(Array.getElem?_eq_some_iff.1 hm.it).1
 have hback: ∀b,(fzM w0 ow w).fre b→w0.fre b:=fun b hf hlt0 hk=>by
  have hb:b<w.heap.size:=Nat.lt_of_lt_of_le hlt0 h.below.size
  refine hf hb fun p hp=> ?_
  cases p with
  |ext=>rfl
  |root d q=>exact absurd hk ((h.ge b _ hb hp (by simp)).2 hlt0)
  |box t=>exact absurd hk ((h.ge b _ hb hp (by simp)).2 hlt0)
 refine⟨hr,ow',hd',bk',⟨h'.big,h'.defers,h'.size,h'.low,?_,fun b p hb hp hne=>⟨(h'.ge b p hb hp hne).1,hback b (h'.ge b p hb hp hne).2⟩,h'.new,h'.slot,h'.root,h'.box,h'.pin⟩,?_,fun p hp=> ?_⟩
 ·refine⟨h'.below.os.trans h.below.os,h'.below.tape.trans h.below.tape,h'.below.output.trans h.below.output,Nat.le_trans h.below.size h'.below.size,fun b hb hk=> ?_⟩
  have hb2:b<w.heap.size:=Nat.lt_of_lt_of_le hb h.below.size
  refine(h'.below.block b hb2 fun p hp=> ?_).trans (h.below.block b hb hk)
  cases p with
  |ext=>rfl
  |root d q=>exact absurd hk ((h.ge b _ hb2 hp (by simp)).2 hb)
  |box t=>exact absurd hk ((h.ge b _ hb2 hp (by simp)).2 hb)
 ·rw [←hm.it]
  exact h'.below.block r hlt hm.nobody
 ·cases p with
  |ext=>rfl
  |root d q=>
   have hsz:=h'.below.size
   exact absurd hm.nobody ((h'.ge r _ (Nat.lt_of_lt_of_le hlt hsz) hp (by simp)).2 hlt)
  |box t=>
   have hsz:=h'.below.size
   exact absurd hm.nobody ((h'.ge r _ (Nat.lt_of_lt_of_le hlt hsz) hp (by simp)).2 hlt)
theorem Ju {st':St}(h:vl τ lo w0 r m st a w)(hc:Cov st st'):vl τ lo w0 r m st' a w:=by
 obtain⟨hr,ow,hd,bk,h1,h2⟩:=h
 exact qB h1 h2 hr (qD ⟨ow,hd,bk,qJ h1⟩ hc)
end
def xV (P:Program)(τ:Ty)(r:Nat)(c:Code)(Q:Exit→St→MD→Prop)(st:St)(m:MD):Prop:=
 ∀(lo:Nat) (w0:Fz) (a:Act) (w:World),vl τ lo w0 r m st a w→c.wp P (fun e a' w'=> ∃st' m',vl τ lo w0 r m' st' a' w'∧Q e st' m') a w
def yc (N:St→MD→Prop)(Q:Exit→St→MD→Prop):Exit→St→MD→Prop
 | .normal,st,m=>N st m
 |e,st,m=>Q e st m
def xU (id:Nat)(Q:Exit→St→MD→Prop):Exit→St→MD→Prop
 | .exit id',st,m=>if id'=id then Q .normal st m else Q (.exit id') st m
 |e,st,m=>Q e st m
section
variable {P:Program} {τ:Ty} {r:Nat} {Q:Exit→St→MD→Prop} {st:St} {m:MD}
theorem zf {c:Code}(h:awp P τ c (fun e st'=>Q e st' m) st):xV P τ r c Q st m:=fun lo w0 a w ⟨hr,ow,hd,bk,h1,h2⟩=>
 Go.wp_mono (h lo _ a w ⟨ow,hd,bk,qJ h1⟩) fun e a' w' ⟨st',h3,h4⟩=>⟨st',m,qB h1 h2 hr h3,h4⟩
theorem zAK {x y:Code}(h:xV P τ r x (yc (fun st m=>xV P τ r y Q st m) Q) st m):xV P τ r (.seq x y) Q st m:=fun lo w0 a w hr=>by
 refine wp_seq (Go.wp_mono (h lo w0 a w hr) fun e a' w' ⟨st',m',h1,h2⟩=> ?_)
 cases e with
 |normal=>exact h2 lo w0 a' w' h1
 |_=>exact⟨st',m',h1,h2⟩
theorem zc {x y:Code}(h: ∀K:St→MD→Prop,(∀st m,xV P τ r y Q st m→K st m)→xV P τ r x (yc K Q) st m):xV P τ r (.seq x y) Q st m:=zAK (h _ fun _ _ h=>h)
theorem qM {id:Nat}{c:Code}(h:xV P τ r c (xU id Q) st m):xV P τ r (.block id c) Q st m:=fun lo w0 a w hr=>by
 refine wp_block (Go.wp_mono (h lo w0 a w hr) fun e a' w' ⟨st',m',h1,h2⟩=> ?_)
 cases e with
 |exit id'=>
  simp only [Exit.inBlock,xU]at h2⊢
  split
  ·rename_i e;rw [if_pos e]at h2;exact⟨st',m',h1,h2⟩
  ·rename_i e;rw [if_neg e]at h2;exact⟨st',m',h1,h2⟩
 |_=>exact⟨st',m',h1,h2⟩
theorem qh (h:Q .normal st m):xV P τ r .skip Q st m:=fun lo w0 a w hr=>wp_skip ⟨st,m,hr,h⟩
theorem ZN {id:Nat}(h:Q (.exit id) st m):xV P τ r (.exit id) Q st m:=fun lo w0 a w hr=>wp_exit ⟨st,m,hr,h⟩
theorem zAJ (h:Q .ret st m):xV P τ r .ret Q st m:=fun lo w0 a w hr=>wp_ret ⟨st,m,hr,h⟩
theorem xe {c:Operand}{x y:Code}{b:Bool}(hc:ev st c= .bool b)(ht:b=true→xV P τ r x Q st m)(hf:b=false→xV P τ r y Q st m):xV P τ r (.cond c x y) Q st m:=fun lo w0 a w hr=>by
 obtain⟨-,ow,hd,bk,h1,-⟩:=id hr
 have hx:=zX h1 c
 rw [hc]at hx
 simp only [AvR]at hx
 exact wp_cond_split hx (fun e=>ht e lo w0 a w hr) (fun e=>hf e lo w0 a w hr)
theorem ur {ι:Type}{c:Code}(F:ι→St)(G:ι→MD)(I:ι→Prop)(μ:ι→Nat)(i0:ι)(h0:Cov st (F i0))(hm:m=G i0)(hI:I i0)
  (round: ∀i,I i→xV P τ r c (yc (fun st' m'=> ∃j,I j∧μ j<μ i∧Cov st' (F j)∧m'=G j) Q) (F i) (G i)):xV P τ r (.loop c) Q st m:=fun lo w0 a w hr=>by
 intro b k cs
 have key: ∀n i a w,μ i=n→I i→vl τ lo w0 r (G i) (F i) a w→∃e a' w',(∃st' m',vl τ lo w0 r m' st' a' w'∧Q e st' m')∧Arrives P (lone (b.at a (.code c:: .inLoop c::k)) cs w) b k cs e a' w':=by
  intro n
  induction n using Nat.strongRecOn with
  |_ n ih=>
   intro i a w hn hi hr
   obtain⟨e,a₁,w₁,⟨st',m',hr',hq⟩,harr⟩:=round i hi lo w0 a w hr b (.inLoop c::k) cs
   cases e with
   |normal=>
    obtain⟨j,hj,hlt,hcov,rfl⟩:=hq
    obtain⟨e₂,a₂,w₂,hq₂,harr₂⟩:=ih (μ j) (hn ▸ hlt) j a₁ w₁ rfl hj (Ju hr' hcov)
    exact⟨e₂,a₂,w₂,hq₂, .of_steps (Steps.trans harr (.one step_inLoop)) harr₂⟩
   |exit id=>exact⟨_,a₁,w₁,⟨st',m',hr',hq⟩, .pass (x:= .inLoop c) rfl (fun _ _=> .inl (by simp)) harr⟩
   |goto l=>exact⟨_,a₁,w₁,⟨st',m',hr',hq⟩, .pass (x:= .inLoop c) rfl (fun _ _=> .inl (by simp)) harr⟩
   |ret=>exact⟨_,a₁,w₁,⟨st',m',hr',hq⟩, .pass (x:= .inLoop c) rfl (fun _ _=> .inl (by simp)) harr⟩
   |panic ch=>exact⟨_,a₁,w₁,⟨st',m',hr',hq⟩, .pass (x:= .inLoop c) rfl (fun _ _=> .inl (by simp)) harr⟩
   |outgrown=>exact⟨_,a₁,w₁,⟨st',m',hr',hq⟩, .pass (x:= .inLoop c) rfl (fun _ _=> .inl (by simp)) harr⟩
 obtain⟨e,a',w',hq,harr⟩:=key _ i0 a w rfl hI (hm ▸ Ju hr h0)
 exact⟨e,a',w',hq, .of_steps (.one step_loop) harr⟩
theorem wh {ι:Type}{c:Code}(ds rs:List Nat)(L:ι→List (Nat×AV))(B:ι→List (Nat×List AV))(R:ι→List (Nat×zl))(G:ι→MD)(I:ι→Prop)(μ:ι→Nat)(i0:ι)(h0:Cov st (st.reset ds rs (L i0) (B i0) (R i0)))(hm:m=G i0)(hI:I i0)
  (round: ∀i,I i→∀K:St→MD→Prop,(∀st' m',(∃j,I j∧μ j<μ i∧Cov st' (st.reset ds rs (L j) (B j) (R j))∧m'=G j)→K st' m')→xV P τ r c (yc K Q) (st.reset ds rs (L i) (B i) (R i)) (G i)):xV P τ r (.loop c) Q st m:=
 ur (fun i=>st.reset ds rs (L i) (B i) (R i)) G I μ i0 h0 hm hI fun i hi=>round i hi _ fun _ _ h=>h
end
def aopM (P:Program)(τ:Ty)(al:List Nat)(ta tm:TypeId)(r:Nat)(o:Oper)(K:St→MD→Prop)(st:St)(m:MD):Prop:=
 match o.op with
 | .build t fs=>if t=ta then(match fs.toList with
   | [(0,x),(1,y)]=>(match ev st x,ev st y with
    | .int .i64 a, .int .i64 b=>K (st.put o.dst (.agg [.int .i64 a, .int .i64 b])) m
    |_,_=>False)
   |_=>False)else aop P τ al o (fun st'=>K st' m) st
 | .alloc t=>if t=ta then(match o.dst with
   |some d=>d≠1000000∧K ((VL τ st d ta [.int .i64 0, .int .i64 0]).put (some d) (.bp d 0)) m
   |none=>False)else aop P τ al o (fun st'=>K st' m) st
 | .store t p v=>if t=ta then(match ev st p,ev st v with
   | .bp d 0, .agg [.int .i64 a, .int .i64 b]=>(match lk st.b d with
    |some [_,_]=>K ((st.setB d [.int .i64 a, .int .i64 b]).put o.dst (.tup [])) m
    |_=>False)
   |_,_=>False)else aop P τ al o (fun st'=>K st' m) st
 | .load t p=>if t=ta then(match ev st p with
   | .bp d 0=>(match lk st.b d with
    |some [x,y]=>K (st.put o.dst (.agg [x,y])) m
    |_=>False)
   |_=>False)else aop P τ al o (fun st'=>K st' m) st
 | .indexAddr t p i=>if t=ta then(match ev st p,ev st i with
   | .bp d 0, .int .i64 k=>(∃cs,lk st.b d=some cs)∧(0≤k∧k<2)∧K (st.put o.dst (.bp d k.toNat)) m
   |_,_=>False)else aop P τ al o (fun st'=>K st' m) st
 | .lookup t x k true=>t=tm∧(match ev st x,ev st k with
   | .raw u, .agg [.int .i64 a, .int .i64 b]=>u= .map (some r)∧K (st.put o.dst (.tup [.int .i64 ((lkM m (a,b)).getD 0), .bool (lkM m (a,b)).isSome])) m
   |_,_=>False)
 | .mapUpdate t x k v=>t=tm∧(match ev st x,ev st k,ev st v with
   | .raw u, .agg [.int .i64 a, .int .i64 b], .int .i64 z=>u= .map (some r)∧lkM m (a,b)=none∧K (st.put o.dst (.tup [])) (m++ [((a,b),z)])
   |_,_,_=>False)
 | .insert t x k v=>t=tm∧(match ev st x,ev st k,ev st v with
   | .raw u, .agg [.int .i64 a, .int .i64 b], .int .i64 z=>u= .map (some r)∧lkM m (a,b)=none∧K (st.put o.dst (.tup [])) (m++ [((a,b),z)])
   |_,_,_=>False)
 |_=>aop P τ al o (fun st'=>K st' m) st
section
variable {P:Program} {τ:Ty} {lo:Nat} {w0:Fz} {ow:Nat→Option Pl} {hd:Nat→Value} {bk:Nat→Nat} {st:St} {a:Act} {w w':World} {r:Nat} {m:MD} {ta te tm:TypeId}
theorem agg2 {x:Value}{b c:Int}(h:AvR τ w st.r st.b hd bk (.agg [.int .i64 b, .int .i64 c]) x):x= .agg #[.int .i64 b, .int .i64 c]:=by
 simp only [AvR,zT]at h
 obtain⟨_,rfl,_,_,rfl,rfl,_,_,rfl,rfl,rfl⟩:=h
 rfl
theorem zAe {o:Obj}(hr:w.heap[r]? =some (qU m)):YR w {w with heap:=w.heap.setIfInBounds r o} r:=
 ⟨rfl,rfl,rfl,by simp,fun k hk=>by simp only;rw [Array.getElem?_setIfInBounds,if_neg (fun e=>hk e.symm)],m,hr⟩
theorem VD (hτ:zr P τ)(hpos:yQ τ)(hT:yW P ta te tm){al:List Nat}{o:Oper}{K:St→MD→Prop}{Q:Exit→Act→World→Prop}{K':Act→World→Prop}(hd9: ∀k,o.dst=some k→k<a.tmps.size)(h:vl τ lo w0 r m st a w)(ha:aopM P τ al ta tm r o K st m)
  (hK: ∀st' m' x w',K st' m'→vl τ lo w0 r m' st' (a.put o.dst x) w'→K' (a.put o.dst x) w'):o.wp P a w K' Q:=by
 obtain⟨hr0,ow,hd,bk,hr,hm⟩:=id h
 have std:aop P τ al o (fun st'=>K st' m) st→o.wp P a w K' Q:=fun ha=>wS hτ hpos hd9 ⟨ow,hd,bk,qJ hr⟩ ha fun st' x w' h2 h3=>hK st' m x w' h2 (qB hr hm hr0 h3)
 -- the end of an operation that gives a value in the same world
 have fin: ∀{x:Value} {v:AV},(execOp a.eval o).run P w= .ok (.value x) w→AvR τ w st.r st.b hd bk v x→K (st.put o.dst v) m→o.wp P a w K' Q:=fun{x v} he hv hk=>by
  unfold Oper.wp
  rw [he]
  exact hK _ m x w hk (qB hr hm hr0 (yd (qJ hr) hd9 hv))
 have sk: ∀{w':World} {st1:St},(execOp a.eval o).run P w= .ok .skip w'→za τ lo (fzM w0 ow w) ow hd bk st1 a w'→K (st1.put o.dst (.tup [])) m→o.wp P a w K' Q:=fun{w' st1} he hv hk=>by
  unfold Oper.wp
  rw [he]
  exact hK _ m undef w' hk (qB hr hm hr0 (yd hv hd9 (by simp only [AvR];exact⟨[],rfl,by simp [zT]⟩)))
 have up: ∀{k:Int×Int} {z:Int},(execOp a.eval o).run P w= .ok .skip {w with heap:=w.heap.setIfInBounds r (qU (m++ [(k,z)]))}→K (st.put o.dst (.tup [])) (m++ [(k,z)])→o.wp P a w K' Q:=fun{k z} he hk=>by
  have hlt:r<w.heap.size:=(Array.getElem?_eq_some_iff.1 hm.it).1
  have hW:=zAe (o:=qU (m++ [(k,z)])) hm.it
  have hkeep:yf w0 {w with heap:=w.heap.setIfInBounds r (qU (m++ [(k,z)]))}:=hr.below.step rfl rfl rfl (by simp) fun b hb hf=>by
   refine hW.other b fun e=>hf ?_
   subst e
   exact fun hlt0 _=>absurd hlt0 (by omega)
  unfold Oper.wp
  rw [he]
  have h2:=Ux hr hW hkeep
  have hat:JY {w with heap:=w.heap.setIfInBounds r (qU (m++ [(k,z)]))} ow r (m++ [(k,z)]):=⟨by simp only;rw [Array.getElem?_setIfInBounds,if_pos rfl,if_pos hlt],hm.nobody⟩
  exact hK _ _ undef _ hk (qB h2 hat hr0 (yd (qJ h2) hd9 (by simp only [AvR];exact⟨[],rfl,by simp [zT]⟩)))
 obtain⟨dst,op,oty,pos,after,guard⟩:=o
 unfold aopM at ha
 cases op<;>simp only at ha<;>try(exact std ha)
 case build t fs=>
  split at ha
  rotate_left
  ·exact std ha
  rename_i e
  subst e
  split at ha
  rotate_left
  ·exact ha.elim
  rename_i x y hfs
  split at ha
  rotate_left
  ·exact ha.elim
  rename_i b c hx hy
  have e1:fs= #[(0,x),(1,y)]:=by cases fs;simp at hfs;subst hfs;rfl
  subst e1
  have ex:=zX hr x
  have ey:=zX hr y
  rw [hx]at ex
  rw [hy]at ey
  simp only [AvR]at ex ey
  refine fin (x:= .agg #[.int .i64 b, .int .i64 c]) ?_ (by simp only [AvR,zT];exact⟨_,rfl,_,_,rfl,rfl,_,_,rfl,rfl,rfl⟩) ha
  have hz:=hT.zero (w:=w)
  have hs:=hT.esize (w:=w)
  simp only [execOp]
  rw [Sem.run_bind]
  unfold Instr.build
  simp [Sem.run_bind,hz,run_underlying hT.ua,hs,Result.andThen,Instr.fill,ex,ey,Value.cells]
 case alloc t=>
  split at ha
  rotate_left
  ·exact std ha
  rename_i e
  subst e
  cases dst with
  |none=>exact ha.elim
  |some d=>
   obtain⟨hd0,hK1⟩:=ha
   obtain⟨ow',hd',bk',r1,r2⟩:=XI (qJ hr) d hd0 t [.int .i64 0, .int .i64 0] [.int .i64 0, .int .i64 0] (by simp only [zT,AvR];exact⟨_,_,rfl,rfl,_,_,rfl,rfl,rfl⟩)
   unfold Oper.wp
   have he:(execOp a.eval ⟨some d, .alloc t,oty,pos,after,guard⟩).run P w= .ok (.value (.pointer (some ⟨w.heap.size,0,none⟩))) (w.alloc (.cells #[.int .i64 0, .int .i64 0] t)):=by
    have hz:=hT.zero (w:=w)
    simp only [execOp]
    rw [Sem.run_bind]
    unfold Instr.alloc
    rw [Sem.run_bind,hz,Result.andThen_ok]
    simp [newVar,newRow,newObj,Sem.run,Value.cells]
   rw [he]
   refine hK _ m _ _ hK1 (qB hr hm hr0 (yd r1 hd9 ?_))
   simp only [AvR]
   exact⟨⟨_,rfl⟩,fun _=>by rw [r2]⟩
 case store t p v=>
  split at ha
  rotate_left
  ·exact std ha
  rename_i e
  subst e
  split at ha
  rotate_left
  ·exact ha.elim
  rename_i d b c hp hv
  split at ha
  rotate_left
  ·exact ha.elim
  rename_i x y hb
  have ep:=zX hr p
  have ev9:=zX hr v
  rw [hp]at ep
  rw [hv]at ev9
  have ev9:=agg2 ev9
  simp only [AvR]at ep
  have hptr:=ep.2 ⟨_,hb⟩
  obtain⟨cs,ty,b1,b2,b3⟩:=(qJ hr).box d _ hb
  have hcl:=xy (st:=st) b3
  have hset:=XF (qJ hr) hb b1 (i:=0) (vs:= [.int .i64 b, .int .i64 c]) (us:= [.int .i64 b, .int .i64 c]) (by simp) b3 (by simp only [zT,AvR];exact⟨_,_,rfl,rfl,_,_,rfl,rfl,rfl⟩)
  have hlay:lay [x,y] 0 [AV.int .i64 b,AV.int .i64 c]= [.int .i64 b, .int .i64 c]:=rfl
  rw [hlay]at hset
  have hst:=run_storeCells_at P (bk d) 0 ty [.int .i64 b, .int .i64 c] 0 cs.toArray w b1 (by simp at hcl⊢;omega) (by intro u hu;simp at hu;rcases hu with rfl|rfl<;>rfl)
  rw [wq]at hst
  refine sk (w':=w.setRow (bk d) (lay cs 0 [.int .i64 b, .int .i64 c]).toArray) ?_ hset ha
  have hs:=hT.size (w:=w)
  simp only [execOp]
  rw [Sem.run_bind]
  unfold Instr.storeAt
  rw [Sem.run_bind,hptr]
  simp only [Instr.sureAddr,Sem.run_pure,Result.andThen_ok,storeVar,Sem.run_bind,hs,ev9]
  rw [if_neg (by simp [Value.cells])]
  rw [show(Value.agg #[.int .i64 b, .int .i64 c]).cells= [Value.int .i64 b, .int .i64 c].toArray from rfl,hst]
  simp
 case load t p=>
  split at ha
  rotate_left
  ·exact std ha
  rename_i e
  subst e
  split at ha
  rotate_left
  ·exact ha.elim
  rename_i d hp
  split at ha
  rotate_left
  ·exact ha.elim
  rename_i x y hb
  have ep:=zX hr p
  rw [hp]at ep
  simp only [AvR]at ep
  have hptr:=ep.2 ⟨_,hb⟩
  obtain⟨cs,ty,b1,b2,b3⟩:=hr.box d _ hb
  have hcl:=xy (st:=st) b3
  have hcell: ∀j v,cs[j]? =some v→w.cell? ((⟨bk d,0,none⟩:Addr).add j)=some v:=fun j v hj=>by
   rw [Addr.add_lit,Nat.zero_add,cell_of_row w (bk d) j _ _ _ b1]
   simpa using hj
  have hl:=run_loadCells_list (P:=P) w ⟨bk d,0,none⟩ cs hcell
  rw [hcl]at hl
  refine fin (x:= .agg cs.toArray) ?_ (by simp only [AvR];exact⟨cs,rfl,b3⟩) ha
  have hs:=hT.size (w:=w)
  have hg:=hT.agg (w:=w)
  simp only [execOp]
  rw [Sem.run_bind]
  simp only [hptr,Instr.loadAt,Instr.sureAddr,pure_bind,loadVar,Sem.run_bind,hg,Result.andThen_ok,if_true,hs,Sem.run_pure]
  rw [show [x,y].length=2 from rfl]at hl
  rw [hl]
  simp
 case indexAddr t p i=>
  split at ha
  rotate_left
  ·exact std ha
  rename_i e
  subst e
  split at ha
  rotate_left
  ·exact ha.elim
  rename_i d k hp hi
  obtain⟨⟨cells,hb⟩,hk2,hK1⟩:=ha
  have ep:=zX hr p
  have ei:=zX hr i
  rw [hp]at ep
  rw [hi]at ei
  simp only [AvR]at ep ei
  have hptr:=ep.2 ⟨_,hb⟩
  refine fin (x:= .pointer (some ⟨bk d,k.toNat,none⟩)) ?_ (by simp [AvR]) hK1
  have hs:=hT.esize (w:=w)
  simp only [execOp]
  rw [Sem.run_bind]
  unfold Instr.indexAt
  simp [hptr,ei,Sem.run_bind,asIntOf,run_underlying hT.ua,Instr.sureAddr,Result.andThen,hs,hk2,Addr.add]
  try omega
  try(intro _;omega)
 case lookup t x k ok=>
  cases ok with
  |false=>exact std ha
  |true=>
   simp only at ha
   obtain⟨rfl,ha⟩:=ha
   split at ha
   rotate_left
   ·exact ha.elim
   rename_i u b c hx hk
   obtain⟨rfl,hK1⟩:=ha
   have ex:=zX hr x
   have ek:=zX hr k
   rw [hx]at ex
   rw [hk]at ek
   have ek:=agg2 ek
   simp only [AvR]at ex
   refine fin (x:= .tuple #[.int .i64 ((lkM m (b,c)).getD 0), .bool (lkM m (b,c)).isSome]) ?_ (by simp only [AvR,zT];exact⟨_,rfl,_,_,rfl,rfl,_,_,rfl,rfl,rfl⟩) hK1
   have hl:=hT.look hm.it (b,c)
   simp only [execOp]
   rw [Sem.run_bind,ex,ek,hl]
   simp
 case mapUpdate t x k v=>
  obtain⟨rfl,ha⟩:=ha
  split at ha
  rotate_left
  ·exact ha.elim
  rename_i u b c z hx hk hv
  obtain⟨rfl,hl,hK1⟩:=ha
  have ex:=zX hr x
  have ek:=zX hr k
  have ez:=zX hr v
  rw [hx]at ex
  rw [hk]at ek
  rw [hv]at ez
  have ek:=agg2 ek
  simp only [AvR]at ex ez
  refine up (k:=(b,c)) (z:=z) ?_ hK1
  have hu:=hT.upd hm.it (b,c) z hl
  simp only [execOp]
  rw [Sem.run_bind,ex,ek,ez,hu]
  simp
 case insert t x k v=>
  obtain⟨rfl,ha⟩:=ha
  split at ha
  rotate_left
  ·exact ha.elim
  rename_i u b c z hx hk hv
  obtain⟨rfl,hl,hK1⟩:=ha
  have ex:=zX hr x
  have ek:=zX hr k
  have ez:=zX hr v
  rw [hx]at ex
  rw [hk]at ek
  rw [hv]at ez
  have ek:=agg2 ek
  simp only [AvR]at ex ez
  refine up (k:=(b,c)) (z:=z) ?_ hK1
  have hu:=hT.upd hm.it (b,c) z hl
  simp only [execOp]
  rw [Sem.run_bind,ex,ek,ez,hu]
  simp
def wg (P:Program)(τ:Ty)(al:List Nat)(ta tm:TypeId)(r:Nat)(K:St→MD→Prop):List Oper→St→MD→Prop
 | [],st,m=>K st m
 |o::os,st,m=>
  match o.guard with
  |none=>aopM P τ al ta tm r o (wg P τ al ta tm r K os) st m
  |some (j,want)=>False
theorem Ze (hτ:zr P τ)(hpos:yQ τ)(hT:yW P ta te tm){al:List Nat}{all:List Oper}{K:St→MD→Prop}{Q:Exit→Act→World→Prop}(hQ: ∀st m a w,K st m→vl τ lo w0 r m st a w→Q .normal a w):
  ∀(os:List Oper) (st:St) (m:MD) (a:Act) (w:World),yo a.tmps.size os=true→vl τ lo w0 r m st a w→wg P τ al ta tm r K os st m→wpList P all.toArray Q os a w
 | [],st,m,a,w,_,h,ha=>wpList_nil (hQ st m a w ha h)
 |o::os,st,m,a,w,hd,h,ha=>by
  have hd1: ∀k,o.dst=some k→k<a.tmps.size:=fun k hk=>by
   have :=List.all_eq_true.1 hd o (by simp)
   rw [hk]at this
   simpa using this
  have hd2:yo a.tmps.size os=true:=List.all_eq_true.2 fun x hx=>List.all_eq_true.1 hd x (by simp [hx])
  refine wpList_step fun K' hK'=> ?_
  simp only [wg]at ha
  split at ha
  ·rename_i hg
   rw [if_pos (by simp [Region.wanted,hg])]
   exact VD hτ hpos hT hd1 h ha fun st' m' x w' h2 h3=>hK' _ _ (Ze hτ hpos hT hQ os st' m' _ w' (by rw [xR];exact hd2) h3 h2)
  ·exact ha.elim
end
theorem xf {P:Program}{τ:Ty}{r:Nat}{Q:Exit→St→MD→Prop}{st:St}{m:MD}{ta te tm:TypeId}(hτ:zr P τ)(hpos:yQ τ)(hT:yW P ta te tm)(al:List Nat){id:Nat}{ops:List Oper}(hd:yo st.n ops=true)(h:wg P τ al ta tm r (Q .normal) ops st m):xV P τ r (.region id ops.toArray false) Q st m:=fun lo w0 a w hr=>by
 have hn:a.tmps.size=st.n:=by obtain⟨-,ow,hd,bk,h,-⟩:=hr;exact h.size
 refine wp_region_lit (Ze hτ hpos hT (fun st m a w h1 h2=>⟨st,m,h2,h1⟩) ops st m a w (by rw [hn];exact hd) hr h)
theorem jZ {P:Program}{τ:Ty}{Q:Exit→St→Prop}{st:St}{ta te tm:TypeId}(hτ:zr P τ)(hpos:yQ τ)(hT:yW P ta te tm)(al:List Nat){id:Nat}{o:Oper}{ops:List Oper}{rest:Code}{t:Nat}(ho:o.op= .makeMap tm none)(hg:o.guard=none)(ht:o.dst=some t)(hd:yo st.n (o::ops)=true)
  (hK9: ∀r (K:St→MD→Prop),(∀st m,xV P τ r rest (fun e st _=>Q e st) st m→K st m)→wg P τ al ta tm r K ops (st.put (some t) (.raw (.map (some r)))) []):awp P τ (.seq (.region id (o::ops).toArray false) rest) Q st:=fun lo w0 a w hr=>by
 have h:=fun r=>hK9 r _ fun _ _ h=>h
 clear hK9
 obtain⟨ow,hd9,bk,hr⟩:=hr
 have hn:a.tmps.size=st.n:=hr.size
 have hd1: ∀k,o.dst=some k→k<a.tmps.size:=fun k hk=>by
  have :=List.all_eq_true.1 hd o (by simp)
  rw [hk,←hn]at this
  simpa using this
 have hd2:yo a.tmps.size ops=true:=List.all_eq_true.2 fun x hx=>by rw [hn];exact List.all_eq_true.1 hd x (by simp [hx])
 have h1:=vj hr (.map #[] 0) none (by simp)
 have hat:JY (w.alloc (.map #[] 0)) (upd ow w.heap.size none) w.heap.size []:=⟨heap_alloc_new w _,fun p hp=>by rw [yB]at hp;cases hp⟩
 refine wp_seq (wp_region_lit (wpList_step fun K' hK'=> ?_))
 rw [if_pos (by simp [Region.wanted,hg])]
 unfold Oper.wp
 have he:(execOp a.eval o).run P w= .ok (.value (.map (some w.heap.size))) (w.alloc (.map #[] 0)):=by
  obtain⟨dst,op,oty,pos,after,guard⟩:=o
  simp only at ho
  subst ho
  simp only [execOp]
  rw [Sem.run_bind]
  simp [Instr.makeMap,newObj,Sem.run]
 rw [he]
 refine hK' _ _ (Ze hτ hpos hT (fun st' m' a' w' h2 h3=> ?_) ops _ _ _ _ (by rw [xR];exact hd2) (qB h1 hat hr.below.size (yd (qJ h1) hd1 (v:= .raw (.map (some w.heap.size))) (x:= .map (some w.heap.size)) (by simp only [AvR]))) (by rw [ht];exact h w.heap.size))
 refine Go.wp_mono (h2 lo w0 a' w' h3) fun e a2 w2 ⟨st2,m2,⟨_,ow2,hd2,bk2,h4,_⟩,h5⟩=>⟨st2,⟨ow2,hd2,bk2,h4⟩,h5⟩
section
variable {P:Program} {τ:Ty} {lo:Nat} {w0:Fz} {r:Nat} {ta te tm:TypeId}
theorem VE (hτ:zr P τ)(hpos:yQ τ)(hT:yW P ta te tm){al:List Nat}{all o2:List Oper}{K:St→MD→Prop}{Q:Exit→Act→World→Prop}{n:Nat}(hQ: ∀st m a w,a.tmps.size=n→K st m→vl τ lo w0 r m st a w→wpList P all.toArray Q o2 a w):
  ∀(os:List Oper) (st:St) (m:MD) (a:Act) (w:World),a.tmps.size=n→yo a.tmps.size os=true→vl τ lo w0 r m st a w→wg P τ al ta tm r K os st m→wpList P all.toArray Q (os++o2) a w
 | [],st,m,a,w,hn,_,h,ha=>hQ st m a w hn ha h
 |o::os,st,m,a,w,hn,hd,h,ha=>by
  have hd1: ∀k,o.dst=some k→k<a.tmps.size:=fun k hk=>by
   have :=List.all_eq_true.1 hd o (by simp)
   rw [hk]at this
   simpa using this
  have hd2:yo a.tmps.size os=true:=List.all_eq_true.2 fun x hx=>List.all_eq_true.1 hd x (by simp [hx])
  refine wpList_step fun K' hK'=> ?_
  simp only [wg]at ha
  split at ha
  ·rename_i hg
   rw [if_pos (by simp [Region.wanted,hg])]
   exact VD hτ hpos hT hd1 h ha fun st' m' x w' h2 h3=>hK' _ _ (VE hτ hpos hT hQ os st' m' _ w' (by rw [xR];exact hn) (by rw [xR];exact hd2) h3 h2)
  ·exact ha.elim
theorem XH (np:Bool)(n:Nat)(hτ:zr P τ)(hpos:yQ τ)(hT:yW P ta te tm){Q:Exit→St→MD→Prop}{st:St}{m:MD}{id:Nat}{ops:List Oper}(hs:ZG np ops=true)(hd:yo st.n ops=true)(hl:n≤ops.length)
  (h:wg P τ [] ta tm r (fun st m=>xX P np τ ops (fun st'=>Q .normal st' m) (ops.drop n) (st.start np ops)) (ops.take n) st m):xV P τ r (.region id ops.toArray false) Q st m:=fun lo w0 a w hr=>by
 have hn:a.tmps.size=st.n:=by obtain⟨-,ow,hd,bk,h,-⟩:=hr;exact h.size
 have hd':yo a.tmps.size ops=true:=by rw [hn];exact hd
 refine wp_region_lit ?_
 have key:=VE (P:=P) (τ:=τ) (lo:=lo) (w0:=w0) (r:=r) (al:= []) (all:=ops) (o2:=ops.drop n) (n:=st.n) (K:=fun st m=>xX P np τ ops (fun st'=>Q .normal st' m) (ops.drop n) (st.start np ops)) (Q:=fun e a' w'=> ∃st' m',vl τ lo w0 r m' st' a' w'∧Q e st' m') hτ hpos hT (fun st' m' a' w' hn' h1 h2=>by
  obtain⟨hr0,ow,hd2,bk,h3,h4⟩:=h2
  exact Yt (np:=np) hτ hpos hs (fun st2 a2 w2 h5 h6=>⟨st2,m',qB h3 h4 hr0 h6,h5⟩) (ops.drop n) n (st'.start np ops) a' w' (fun j=>by rw [List.getElem?_drop]) (by rw [hn'];exact hd) (fun j o _ ho hm=>Vn ho hm) (fun e=>by unfold St.start;rw [if_pos e];exact VP _) (Wb ⟨ow,hd2,bk,qJ h3⟩ ops) h1) (ops.take n) st m a w hn (List.all_eq_true.2 fun x hx=>List.all_eq_true.1 hd' x (List.mem_of_mem_take hx)) hr h
 rwa [List.take_append_drop]at key
theorem xF {Q:Exit→St→MD→Prop}{st:St}{m:MD}(e:TypeId)(t:Nat)(ht:t<st.n){c:Code}(h:xV P τ r c Q (st.settle e t) m):xV P τ r c Q st m:=fun lo w0 a w hr=>by
 obtain⟨hr0,ow,hd,bk,h1,h2⟩:=id hr
 have hrr:=qJ h1
 have hx:=zX hrr (.tmp t)
 obtain⟨ow',hd',r1,r2,-,-⟩:=ZS hrr [] (.sl e) (zW t 0) hx
 have hsz:t<a.tmps.size:=by rw [hrr.size];exact ht
 have hrel:=yd (d:=some t) r1 (fun k hk=>by cases hk;exact hsz) r2
 rw [zAp hsz]at hrel
 exact h lo w0 a w (qB h1 h2 hr0 hrel)
end
attribute [push_cast] aopM wg lkM
def qb (a:Ar)(who:Int)(plan:List Int)(v:Nat):Bool:=decide (gi plan v= -1)||(decide (gi a.owner v=who)&&vJ (gl a.next v) (gi plan v))
def vE (a:Ar)(who:Int)(plan:List Int):Bool:=decide (plan.length=a.owner.length)&&wY plan.length (qb a who plan)
theorem Vj {a:Ar}{who:Int}{plan:List Int}{v:Nat}(h:gi plan v= -1∨(gi a.owner v=who∧vJ (gl a.next v) (gi plan v)=true)):qb a who plan v=true:=by
 unfold qb
 rw [Bool.or_eq_true,Bool.and_eq_true,decide_eq_true_eq,decide_eq_true_eq]
 exact h
theorem Vi {a:Ar}{who:Int}{plan:List Int}{v:Nat}(h: ¬gi plan v= -1)(h2: ¬gi a.owner v=who∨vJ (gl a.next v) (gi plan v)=false):qb a who plan v=false:=by
 unfold qb
 rw [decide_eq_false h,Bool.false_or,Bool.and_eq_false_iff,decide_eq_false_iff_not]
 exact h2
theorem JK {a:Ar}{who:Int}{plan:List Int}(h: ¬plan.length=a.owner.length):vE a who plan=false:=by unfold vE;rw [decide_eq_false h];rfl
theorem Kz {a:Ar}{who:Int}{plan:List Int}{v:Nat}(hv:v<plan.length)(h:qb a who plan v=false):vE a who plan=false:=by unfold vE;rw [qt hv h,Bool.and_false]
theorem JL {a:Ar}{who:Int}{plan:List Int}(h:plan.length=a.owner.length)(h2: ∀v,v<plan.length→qb a who plan v=true):vE a who plan=true:=by unfold vE;rw [decide_eq_true h,vb h2];rfl
theorem Qo {a:Ar}{who:Int}{plan:List Int}(h:vE a who plan=true):plan.length=a.owner.length∧∀v,v<plan.length→gi plan v= -1∨(gi a.owner v=who∧vJ (gl a.next v) (gi plan v)=true):=by
 unfold vE at h
 rw [Bool.and_eq_true,decide_eq_true_eq]at h
 refine⟨h.1,fun v hv=> ?_⟩
 have :=va h.2 hv
 unfold qb at this
 rw [Bool.or_eq_true,Bool.and_eq_true,decide_eq_true_eq,decide_eq_true_eq]at this
 exact this
set_option maxRecDepth 20000 in
set_option maxHeartbeats 4000000 in
theorem UK (a:Ar)(ha:a.Ln 1048576)(hnl:a.next.length=a.owner.length)(who:Int)(plan:List Int)(hp:plan.length≤1048576):Fn Try.prog tyT 115 [.agg (dAr a), .c (.int .i64 who), .c (DI plan)] [.c (.bool (vE a who plan))]:=by
 have hr: ∀v,(gl a.next v).length≤1048576:=fun v=>wO ha.next v
 have hno:=ha.owner
 unfold LnI at hno
 unfold dAr
 refine yM (fn:=Try.f115) (ts:= [6]) Try.func115 (by kernel_rfl) rfl rfl (by rw [Try.ntmps115];exact Nat.le_of_ble_eq_true rfl) rfl (by simp only [szA,List.mem_cons,List.not_mem_nil,or_false,forall_eq_or_imp,forall_eq,VT.cells,szL];try decide) ?_
 rw [Try.ntmps115]
 simp only [push_cast,↓zK,↓zJ,↓reduceIte,zA,zB,zC,zD,zE,zF,zG,zH,zI,reduceCtorEq]
 refine zL fun K hK=> ?_
 refine zM zO zN [] rfl ?_
 all_goals simp only [push_cast,↓zK,↓zJ,↓reduceIte,zA,zB,zC,zD,zE,zF,zG,zH,zI,reduceCtorEq]
 all_goals repeat'(first|(apply zP<;>(intro hg;(try simp only [push_cast]at hg)))|(refine⟨_,ye (gl a.next k) _ (hr k),?_⟩;simp only [push_cast,↓zK,↓zJ,↓reduceIte,zA,zB,zC,zD,zE,zF,zG,zH,zI,reduceCtorEq])|apply And.intro|(intro hg;(try simp only [push_cast]at hg)))
 all_goals first|exact gA|(exact zV (by omega))|skip
 all_goals first|(refine hK _ ?_;clear hK K)|(simp only [push_cast];done)
 refine zL fun K1 hK1=> ?_
 refine zL fun K hK=> ?_
 refine zM zO zN [] rfl ?_
 all_goals simp only [push_cast,↓zK,↓zJ,↓reduceIte,zA,zB,zC,zD,zE,zF,zG,zH,zI,reduceCtorEq]
 all_goals repeat'(first|(apply zP<;>(intro hg;(try simp only [push_cast]at hg)))|(refine⟨_,ye (gl a.next k) _ (hr k),?_⟩;simp only [push_cast,↓zK,↓zJ,↓reduceIte,zA,zB,zC,zD,zE,zF,zG,zH,zI,reduceCtorEq])|apply And.intro|(intro hg;(try simp only [push_cast]at hg)))
 all_goals first|exact gA|(exact zV (by omega))|skip
 all_goals first|(refine hK _ ?_;clear hK K)|(simp only [push_cast];done)
 refine zU rfl (fun hc=> ?_) (fun hc=> ?_)<;>(try simp only [push_cast]at hc)
 ·
  refine zL fun K hK=> ?_
  refine zM zO zN [] rfl ?_
  all_goals simp only [push_cast,↓zK,↓zJ,↓reduceIte,zA,zB,zC,zD,zE,zF,zG,zH,zI,reduceCtorEq]
  all_goals repeat'(first|(apply zP<;>(intro hg;(try simp only [push_cast]at hg)))|(refine⟨_,ye (gl a.next k) _ (hr k),?_⟩;simp only [push_cast,↓zK,↓zJ,↓reduceIte,zA,zB,zC,zD,zE,zF,zG,zH,zI,reduceCtorEq])|apply And.intro|(intro hg;(try simp only [push_cast]at hg)))
  all_goals first|exact gA|(exact zV (by omega))|skip
  all_goals first|(refine hK _ ?_;clear hK K)|(simp only [push_cast];done)
  refine zb ?_
  (try simp only [zR,zS])
  refine⟨Or.inl rfl,?_⟩
  simp only [zh,push_cast,↓zK,↓zJ,↓reduceIte,zA,zB,zC,zD,zE,zF,zG,zH,zI,reduceCtorEq]
  symm
  exact JK (by omega)
 ·
  refine zY ?_
  (try simp only [zR,zS,reduceIte,zF]);refine hK1 _ ?_
  refine zL fun K2 hK2=> ?_
  refine zL fun K hK=> ?_
  refine zM zO zN [] rfl ?_
  all_goals simp only [push_cast,↓zK,↓zJ,↓reduceIte,zA,zB,zC,zD,zE,zF,zG,zH,zI,reduceCtorEq]
  all_goals repeat'(first|(apply zP<;>(intro hg;(try simp only [push_cast]at hg)))|(refine⟨_,ye (gl a.next k) _ (hr k),?_⟩;simp only [push_cast,↓zK,↓zJ,↓reduceIte,zA,zB,zC,zD,zE,zF,zG,zH,zI,reduceCtorEq])|apply And.intro|(intro hg;(try simp only [push_cast]at hg)))
  all_goals first|exact gA|(exact zV (by omega))|skip
  all_goals first|(refine hK _ ?_;clear hK K)|(simp only [push_cast];done)
  refine zd ?_
  refine zw [6,7,8,17,18,19,20,21,22,23,24,25,26,27,28,29,30,31,32,33,34,35,36,37,38,39,40,41,42,43] [] (fun(k:Nat)=> [(17, .int .i64 k)]) (fun k=> []) (fun k=> []) (fun k=>k≤plan.length∧∀j,j<k→qb a who plan j=true) (fun k=>plan.length - k) 0 ?_ ⟨by omega,fun j hj=>by omega⟩ ?_
  ·
   refine zg rfl ?_ ?_ ?_<;>simp only [zq,zp,push_cast,↓zK,↓zJ,↓reduceIte,zA,zB,zC,zD,zE,zF,zG,zH,zI,reduceCtorEq]
  ·rintro k ⟨hk,hall⟩ KL0 hL0
   have hrk:=hr k
   simp only [push_cast,↓zK,↓zJ,↓reduceIte,zA,zB,zC,zD,zE,zF,zG,zH,zI,reduceCtorEq]
   refine zL fun K hK=> ?_
   refine zM zO zN [] rfl ?_
   all_goals simp only [push_cast,↓zK,↓zJ,↓reduceIte,zA,zB,zC,zD,zE,zF,zG,zH,zI,reduceCtorEq]
   all_goals repeat'(first|(apply zP<;>(intro hg;(try simp only [push_cast]at hg)))|(refine⟨_,ye (gl a.next k) _ (hr k),?_⟩;simp only [push_cast,↓zK,↓zJ,↓reduceIte,zA,zB,zC,zD,zE,zF,zG,zH,zI,reduceCtorEq])|apply And.intro|(intro hg;(try simp only [push_cast]at hg)))
   all_goals first|exact gA|(exact zV (by omega))|skip
   all_goals first|(refine hK _ ?_;clear hK K)|(simp only [push_cast];done)
   refine zL fun K3 hK3=> ?_
   refine zU rfl (fun hc=> ?_) (fun hc=> ?_)<;>(try simp only [push_cast]at hc)
   ·
    refine zY ?_
    (try simp only [zR,zS,reduceIte,zF]);refine hK3 _ ?_
    refine zL fun K4 hK4=> ?_
    refine zd ?_
    refine zL fun K hK=> ?_
    refine zM zO zN [] rfl ?_
    all_goals simp only [push_cast,↓zK,↓zJ,↓reduceIte,zA,zB,zC,zD,zE,zF,zG,zH,zI,reduceCtorEq]
    all_goals repeat'(first|(apply zP<;>(intro hg;(try simp only [push_cast]at hg)))|(refine⟨_,ye (gl a.next k) _ (hr k),?_⟩;simp only [push_cast,↓zK,↓zJ,↓reduceIte,zA,zB,zC,zD,zE,zF,zG,zH,zI,reduceCtorEq])|apply And.intro|(intro hg;(try simp only [push_cast]at hg)))
    all_goals first|exact gA|(exact zV (by omega))|skip
    all_goals first|(refine hK _ ?_;clear hK K)|(simp only [push_cast];done)
    refine zL fun K hK=> ?_
    refine zm false zO zN ?_ rfl ?_
    ·kernel_rfl
    all_goals refine xD 18 fun K9 hK9=> ?_
    all_goals simp only [push_cast,↓zK,↓zJ,↓reduceIte,zA,zB,zC,zD,zE,zF,zG,zH,zI,reduceCtorEq]
    all_goals repeat'(first|(apply zP<;>(intro hg;(try simp only [push_cast]at hg)))|(refine⟨_,ye (gl a.next k) _ (hr k),?_⟩;simp only [push_cast,↓zK,↓zJ,↓reduceIte,zA,zB,zC,zD,zE,zF,zG,zH,zI,reduceCtorEq])|apply And.intro|(intro hg;(try simp only [push_cast]at hg)))
    all_goals first|exact gA|(exact zV (by omega))|skip
    all_goals first|(refine hK9 _ ?_;clear hK9 K9)|(simp only [push_cast];done)
    all_goals simp only [push_cast,↓zK,↓zJ,↓reduceIte,zA,zB,zC,zD,zE,zF,zG,zH,zI,reduceCtorEq]
    all_goals repeat'(first|(apply zP<;>(intro hg;(try simp only [push_cast]at hg)))|(refine⟨_,ye (gl a.next k) _ (hr k),?_⟩;simp only [push_cast,↓zK,↓zJ,↓reduceIte,zA,zB,zC,zD,zE,zF,zG,zH,zI,reduceCtorEq])|apply And.intro|(intro hg;(try simp only [push_cast]at hg)))
    all_goals first|exact gA|(exact zV (by omega))|skip
    all_goals first|(refine hK _ ?_;clear hK K)|(simp only [push_cast];done)
    all_goals refine zU rfl (fun hc=> ?_) (fun hc=> ?_)
    all_goals(first|(cases hc;done)|skip)
    all_goals(try simp only [push_cast]at hc)
    all_goals first
     |(
       refine zY ?_
       (try simp only [zR,zS,reduceIte,zF]);refine hK4 _ ?_
       refine zM zO zN [] rfl ?_
       all_goals simp only [push_cast,↓zK,↓zJ,↓reduceIte,zA,zB,zC,zD,zE,zF,zG,zH,zI,reduceCtorEq]
       all_goals repeat'(first|(apply zP<;>(intro hg;(try simp only [push_cast]at hg)))|(refine⟨_,ye (gl a.next k) _ (hr k),?_⟩;simp only [push_cast,↓zK,↓zJ,↓reduceIte,zA,zB,zC,zD,zE,zF,zG,zH,zI,reduceCtorEq])|apply And.intro|(intro hg;(try simp only [push_cast]at hg)))
       all_goals first|exact gA|(exact zV (by omega))|skip
       refine hL0 _ ⟨k+1,⟨by omega,fun j hj=>(by
         by_cases hjk:j=k
         ·subst hjk;exact Vj (by first|exact Or.inl (by omega)|exact Or.inr ⟨by omega,by with_reducible assumption⟩)
         ·exact hall j (by omega))⟩,by omega,?_⟩
       refine zg rfl ?_ ?_ ?_<;>simp only [zq,zp,push_cast,↓zK,↓zJ,↓reduceIte,zA,zB,zC,zD,zE,zF,zG,zH,zI,reduceCtorEq]
       done)
     |(
       refine zL fun K hK=> ?_
       refine zM zO zN [] rfl ?_
       all_goals simp only [push_cast,↓zK,↓zJ,↓reduceIte,zA,zB,zC,zD,zE,zF,zG,zH,zI,reduceCtorEq]
       all_goals repeat'(first|(apply zP<;>(intro hg;(try simp only [push_cast]at hg)))|(refine⟨_,ye (gl a.next k) _ (hr k),?_⟩;simp only [push_cast,↓zK,↓zJ,↓reduceIte,zA,zB,zC,zD,zE,zF,zG,zH,zI,reduceCtorEq])|apply And.intro|(intro hg;(try simp only [push_cast]at hg)))
       all_goals first|exact gA|(exact zV (by omega))|skip
       all_goals first|(refine hK _ ?_;clear hK K)|(simp only [push_cast];done)
       refine zb ?_
       (try simp only [zR,zS])
       refine⟨Or.inl rfl,?_⟩
       simp only [zh,push_cast,↓zK,↓zJ,↓reduceIte,zA,zB,zC,zD,zE,zF,zG,zH,zI,reduceCtorEq]
       symm
       exact Kz (v:=k) (by omega) (Vi (by omega) (by first|exact Or.inl (by omega)|exact Or.inr (by with_reducible assumption)))
       done)
   ·
    refine yA ?_
    (try simp only [zR,zS,reduceIte,zF]);refine hK2 _ ?_
    refine zL fun K hK=> ?_
    refine zM zO zN [] rfl ?_
    all_goals simp only [push_cast,↓zK,↓zJ,↓reduceIte,zA,zB,zC,zD,zE,zF,zG,zH,zI,reduceCtorEq]
    all_goals repeat'(first|(apply zP<;>(intro hg;(try simp only [push_cast]at hg)))|(refine⟨_,ye (gl a.next k) _ (hr k),?_⟩;simp only [push_cast,↓zK,↓zJ,↓reduceIte,zA,zB,zC,zD,zE,zF,zG,zH,zI,reduceCtorEq])|apply And.intro|(intro hg;(try simp only [push_cast]at hg)))
    all_goals first|exact gA|(exact zV (by omega))|skip
    all_goals first|(refine hK _ ?_;clear hK K)|(simp only [push_cast];done)
    refine zb ?_
    (try simp only [zR,zS])
    refine⟨Or.inl rfl,?_⟩
    simp only [zh,push_cast,↓zK,↓zJ,↓reduceIte,zA,zB,zC,zD,zE,zF,zG,zH,zI,reduceCtorEq]
    symm
    exact JL (by omega) fun v hv=>hall v (by omega)
end Go.Proofs.Ythepmdkpbjfdcaa
