/- the laws' helpers of Memory -/
import Derived.Test.YthepmdkpbjfdcaaGDztm
import Derived.Test.YthepmdkpbjfdcaaB6ztm
namespace Go.Proofs.Ythepmdkpbjfdcaa
open Nat renaming reduceMod → zA, reduceMul → zB, reduceDiv → zC, reduceAdd → zD, reduceSub → zE, reduceEqDiff → zF, reduceBEq → zG, reduceLT → zH, reduceLeDiff → zI
open Go.RowKit
set_option linter.unusedVariables false
set_option linter.unusedSimpArgs false
structure Me where
 next:List (List Int)
 choice:List (List Int)
 deriving DecidableEq
def dMe (x:Me):List D:= [DII x.next,DII x.choice]
def Me.tot (x:Me):Nat:=xL x.next+xL x.choice
structure Me.Ln (B:Nat)(x:Me):Prop where
 next:xu B x.next
 choice:xu B x.choice
theorem Me.ln_of {B:Nat}{x:Me}(h:x.tot≤B):x.Ln B:=by
 unfold Me.tot at h
 exact⟨YQ (by omega),YQ (by omega)⟩
set_option maxHeartbeats 1000000 in
theorem zC1 (x:Me)(l:Int)(h0:0≤l)(h1:l≤1048576)(ha:x.Ln 9223372036854775807):Fn Try.prog tyT 17 [.agg (dMe x), .c (.int .i64 l)] [.c (.int .i64 (szl l x.tot))]:=by
 have ht:x.tot=xL x.next+xL x.choice:=by unfold Me.tot; omega
 unfold dMe
 refine yT (fn:=Try.f17) (ts:= [4]) Try.func17 (by kernel_rfl) rfl rfl (by rw [Try.ntmps17];exact Nat.le_of_ble_eq_true rfl) rfl (by simp only [szA,List.mem_cons,List.not_mem_nil,or_false,forall_eq_or_imp,forall_eq,VT.cells,szL];try decide) ?_
 rw [Try.ntmps17]
 simp only [push_cast,↓zK,↓zJ,↓reduceIte,zA,zB,zC,zD,zE,zF,zG,zH,zI,reduceCtorEq]
 refine zM fun K hK=> ?_
 refine zL zO zN [] rfl ?_
 simp only [push_cast,↓zK,↓zJ,↓reduceIte,zA,zB,zC,zD,zE,zF,zG,zH,zI,reduceCtorEq]
 repeat' apply And.intro
 all_goals try exact gB
 all_goals first|(refine hK _ ?_;clear hK K)|(simp only [push_cast];done)
 have hA:=JC x.next (l) (by omega) (by omega) ha.next
 refine zM fun K hK=> ?_
 refine zL zO zN [] rfl ?_
 simp only [push_cast,↓zK,↓zJ,↓reduceIte,zA,zB,zC,zD,zE,zF,zG,zH,zI,reduceCtorEq]
 refine⟨_,hA,?_⟩
 simp only [push_cast,↓zK,↓zJ,↓reduceIte,zA,zB,zC,zD,zE,zF,zG,zH,zI,reduceCtorEq]
 repeat' apply And.intro
 all_goals try exact gB
 refine hK _ ?_
 clear hK K hA
 refine zM fun K0 hK0=> ?_
 refine zM fun K hK=> ?_
 refine zL zO zN [] rfl ?_
 simp only [push_cast,↓zK,↓zJ,↓reduceIte,zA,zB,zC,zD,zE,zF,zG,zH,zI,reduceCtorEq]
 repeat' apply And.intro
 all_goals try exact gB
 all_goals first|(refine hK _ ?_;clear hK K)|(simp only [push_cast];done)
 by_cases hn0:(l)<(xL x.next:Nat)
 ·rw [xz hn0]
  refine zU rfl (fun hc=> ?_) (fun hc=> ?_)<;>(try simp only [push_cast]at hc)
  ·
   refine zM fun K hK=> ?_
   refine zL zO zN [] rfl ?_
   simp only [push_cast,↓zK,↓zJ,↓reduceIte,zA,zB,zC,zD,zE,zF,zG,zH,zI,reduceCtorEq]
   repeat' apply And.intro
   all_goals try exact gB
   all_goals first|(refine hK _ ?_;clear hK K)|(simp only [push_cast];done)
   refine zc ?_
   (try simp only [zS,zT])
   refine⟨Or.inl rfl,?_⟩
   simp only [zh,push_cast,↓zK,↓zJ,↓reduceIte,zA,zB,zC,zD,zE,zF,zG,zH,zI,reduceCtorEq]
   rw [xz (by omega)]
  ·exact absurd hc (by decide)
 ·rw [vR hn0]
  refine zU rfl (fun hc=> ?_) (fun hc=> ?_)<;>(try simp only [push_cast]at hc)
  ·exfalso;omega
  ·refine zV ?_
   (try simp only [zS,zT,reduceIte,zF]);refine hK0 _ ?_
   have hA:=JC x.choice (l - (xL x.next:Nat)) (by omega) (by omega) ha.choice
   refine zM fun K hK=> ?_
   refine zL zO zN [] rfl ?_
   simp only [push_cast,↓zK,↓zJ,↓reduceIte,zA,zB,zC,zD,zE,zF,zG,zH,zI,reduceCtorEq]
   refine⟨_,hA,?_⟩
   simp only [push_cast,↓zK,↓zJ,↓reduceIte,zA,zB,zC,zD,zE,zF,zG,zH,zI,reduceCtorEq]
   repeat' apply And.intro
   all_goals try exact gB
   refine hK _ ?_
   clear hK K hA
   refine zM fun K1 hK1=> ?_
   refine zM fun K hK=> ?_
   refine zL zO zN [] rfl ?_
   simp only [push_cast,↓zK,↓zJ,↓reduceIte,zA,zB,zC,zD,zE,zF,zG,zH,zI,reduceCtorEq]
   repeat' apply And.intro
   all_goals try exact gB
   all_goals first|(refine hK _ ?_;clear hK K)|(simp only [push_cast];done)
   by_cases hn1:(l - (xL x.next:Nat))<(xL x.choice:Nat)
   ·rw [xz hn1]
    refine zU rfl (fun hc=> ?_) (fun hc=> ?_)<;>(try simp only [push_cast]at hc)
    ·
     refine zM fun K hK=> ?_
     refine zL zO zN [] rfl ?_
     simp only [push_cast,↓zK,↓zJ,↓reduceIte,zA,zB,zC,zD,zE,zF,zG,zH,zI,reduceCtorEq]
     repeat' apply And.intro
     all_goals try exact gB
     all_goals first|(refine hK _ ?_;clear hK K)|(simp only [push_cast];done)
     refine zc ?_
     (try simp only [zS,zT])
     refine⟨Or.inl rfl,?_⟩
     simp only [zh,push_cast,↓zK,↓zJ,↓reduceIte,zA,zB,zC,zD,zE,zF,zG,zH,zI,reduceCtorEq]
     rw [xz (by omega)]
    ·exact absurd hc (by decide)
   ·rw [vR hn1]
    refine zU rfl (fun hc=> ?_) (fun hc=> ?_)<;>(try simp only [push_cast]at hc)
    ·exfalso;omega
    ·refine zV ?_
     (try simp only [zS,zT,reduceIte,zF]);refine hK1 _ ?_
     refine zM fun K hK=> ?_
     refine zL zO zN [] rfl ?_
     simp only [push_cast,↓zK,↓zJ,↓reduceIte,zA,zB,zC,zD,zE,zF,zG,zH,zI,reduceCtorEq]
     repeat' apply And.intro
     all_goals try exact gB
     all_goals first|(refine hK _ ?_;clear hK K)|(simp only [push_cast];done)
     refine zc ?_
     (try simp only [zS,zT])
     refine⟨Or.inl rfl,?_⟩
     simp only [zh,push_cast,↓zK,↓zJ,↓reduceIte,zA,zB,zC,zD,zE,zF,zG,zH,zI,reduceCtorEq]
     rw [vR (by omega)];omega
set_option maxHeartbeats 1000000 in
theorem QZ (x:Me)(ha:x.Ln 1048576):Fn Try.prog tyT 19 [.agg (dMe x)] [.agg (dMe x)]:=by
 unfold dMe
 refine ZK (fn:=Try.f19) (rs:= [.cell 2 42]) zO zN Try.func19 (by kernel_rfl) rfl rfl (by rw [Try.ntmps19];exact Nat.le_of_ble_eq_true rfl) rfl (by simp only [szA,List.mem_cons,List.not_mem_nil,or_false,forall_eq_or_imp,forall_eq,VT.cells,szL];try decide) ?_
 rw [Try.ntmps19]
 simp only [push_cast,↓zK,↓zJ,↓reduceIte,zA,zB,zC,zD,zE,zF,zG,zH,zI,reduceCtorEq]
 refine zM fun K hK=> ?_
 refine zL zO zN [] rfl ?_
 simp only [push_cast,↓zK,↓zJ,↓reduceIte,zA,zB,zC,zD,zE,zF,zG,zH,zI,reduceCtorEq]
 repeat' apply And.intro
 all_goals try exact gB
 all_goals first|(refine hK _ ?_;clear hK K)|(simp only [push_cast];done)
 refine zM fun K hK=> ?_
 refine zL zO zN [] rfl ?_
 simp only [push_cast,↓zK,↓zJ,↓reduceIte,zA,zB,zC,zD,zE,zF,zG,zH,zI,reduceCtorEq]
 repeat' apply And.intro
 all_goals try exact gB
 all_goals first|(refine hK _ ?_;clear hK K)|(simp only [push_cast];done)
 have hA:=JG x.next ha.next
 refine zM fun K hK=> ?_
 refine zL zO zN [] rfl ?_
 simp only [push_cast,↓zK,↓zJ,↓reduceIte,zA,zB,zC,zD,zE,zF,zG,zH,zI,reduceCtorEq]
 refine⟨_,hA,?_⟩
 simp only [push_cast,↓zK,↓zJ,↓reduceIte,zA,zB,zC,zD,zE,zF,zG,zH,zI,reduceCtorEq]
 repeat' apply And.intro
 all_goals try exact gB
 refine hK _ ?_
 clear hK K hA
 have hA:=JG x.choice ha.choice
 refine zM fun K hK=> ?_
 refine zL zO zN [] rfl ?_
 simp only [push_cast,↓zK,↓zJ,↓reduceIte,zA,zB,zC,zD,zE,zF,zG,zH,zI,reduceCtorEq]
 refine⟨_,hA,?_⟩
 simp only [push_cast,↓zK,↓zJ,↓reduceIte,zA,zB,zC,zD,zE,zF,zG,zH,zI,reduceCtorEq]
 repeat' apply And.intro
 all_goals try exact gB
 refine hK _ ?_
 clear hK K hA
 refine zM fun K hK=> ?_
 refine zL zO zN [] rfl ?_
 simp only [push_cast,↓zK,↓zJ,↓reduceIte,zA,zB,zC,zD,zE,zF,zG,zH,zI,reduceCtorEq]
 repeat' apply And.intro
 all_goals try exact gB
 all_goals first|(refine hK _ ?_;clear hK K)|(simp only [push_cast];done)
 refine zc ?_
 (try simp only [zS,zT])
 refine⟨Or.inl rfl,?_⟩
 simp only [zh,yY,xR,push_cast,↓zK,↓zJ,↓reduceIte,zA,zB,zC,zD,zE,zF,zG,zH,zI,reduceCtorEq]
 try rfl
set_option maxHeartbeats 1000000 in
theorem QL (x:Me)(ha:x.Ln 1048576):Fn Try.prog tyT 22 [.agg (dMe x), .agg (dMe x)] [.c (.bool true)]:=by
 unfold dMe
 refine yT (fn:=Try.f22) (ts:= [4]) Try.func22 (by kernel_rfl) rfl rfl (by rw [Try.ntmps22];exact Nat.le_of_ble_eq_true rfl) rfl (by simp only [szA,List.mem_cons,List.not_mem_nil,or_false,forall_eq_or_imp,forall_eq,VT.cells,szL];try decide) ?_
 rw [Try.ntmps22]
 simp only [push_cast,↓zK,↓zJ,↓reduceIte,zA,zB,zC,zD,zE,zF,zG,zH,zI,reduceCtorEq]
 refine zM fun K hK=> ?_
 refine zL zO zN [] rfl ?_
 simp only [push_cast,↓zK,↓zJ,↓reduceIte,zA,zB,zC,zD,zE,zF,zG,zH,zI,reduceCtorEq]
 repeat' apply And.intro
 all_goals try exact gB
 all_goals first|(refine hK _ ?_;clear hK K)|(simp only [push_cast];done)
 refine zM fun K0 hK0=> ?_
 have hA:=VE x.next ha.next
 refine zM fun K hK=> ?_
 refine zL zO zN [] rfl ?_
 simp only [push_cast,↓zK,↓zJ,↓reduceIte,zA,zB,zC,zD,zE,zF,zG,zH,zI,reduceCtorEq]
 refine⟨_,hA,?_⟩
 simp only [push_cast,↓zK,↓zJ,↓reduceIte,zA,zB,zC,zD,zE,zF,zG,zH,zI,reduceCtorEq]
 repeat' apply And.intro
 all_goals try exact gB
 refine hK _ ?_
 clear hK K hA
 refine zU rfl (fun hc=>by cases hc) (fun _=> ?_)
 refine zV ?_
 (try simp only [zS,zT,reduceIte,zF]);refine hK0 _ ?_
 refine zM fun K1 hK1=> ?_
 have hA:=VE x.choice ha.choice
 refine zM fun K hK=> ?_
 refine zL zO zN [] rfl ?_
 simp only [push_cast,↓zK,↓zJ,↓reduceIte,zA,zB,zC,zD,zE,zF,zG,zH,zI,reduceCtorEq]
 refine⟨_,hA,?_⟩
 simp only [push_cast,↓zK,↓zJ,↓reduceIte,zA,zB,zC,zD,zE,zF,zG,zH,zI,reduceCtorEq]
 repeat' apply And.intro
 all_goals try exact gB
 refine hK _ ?_
 clear hK K hA
 refine zU rfl (fun hc=>by cases hc) (fun _=> ?_)
 refine zV ?_
 (try simp only [zS,zT,reduceIte,zF]);refine hK1 _ ?_
 refine zM fun K hK=> ?_
 refine zL zO zN [] rfl ?_
 simp only [push_cast,↓zK,↓zJ,↓reduceIte,zA,zB,zC,zD,zE,zF,zG,zH,zI,reduceCtorEq]
 repeat' apply And.intro
 all_goals try exact gB
 all_goals first|(refine hK _ ?_;clear hK K)|(simp only [push_cast];done)
 refine zc ?_
 (try simp only [zS,zT])
 refine⟨Or.inl rfl,?_⟩
 simp only [zh,push_cast,↓zK,↓zJ,↓reduceIte,zA,zB,zC,zD,zE,zF,zG,zH,zI,reduceCtorEq]
def Me.cnt (x:Me):Nat:=zx x.next+zx x.choice
theorem Me.ln_mono {B C:Nat}(hB:B≤C){x:Me}(h:x.Ln B):x.Ln C:=⟨xu.mono hB h.next,xu.mono hB h.choice⟩
theorem Me.cnt_le {x:Me}(h:x.Ln 1048576):x.cnt≤2199023255552:=by
 have h0:=YU h.next
 have h1:=YU h.choice
 unfold Me.cnt
 omega
def Wx (k:Int)(x:Me):Me:=
 ⟨mkR (k) x.next,mkR (k+(zx x.next:Nat)) x.choice⟩
set_option maxHeartbeats 1000000 in
theorem Jo (x:Me)(k:Int)(h0:0≤k)(h1:k+x.cnt≤4611686018427387904)(ha:x.Ln 4611686018427387904):FnG Try.prog tyT 24 [.agg (dMe x), .c (.int .i64 k)] [0,1] [(0,22,dII (mkR (k) x.next)),(1,22,dII (mkR (k+(zx x.next:Nat)) x.choice))] [.c (.int .i64 (k+x.cnt))]:=by
 have ht:x.cnt=zx x.next+zx x.choice:=by unfold Me.cnt; omega
 unfold dMe
 refine Va (fn:=Try.f24) (rs:= [.tmp 4]) (own:= [0,1]) (outs:= [(0,22,dII (mkR (k) x.next)),(1,22,dII (mkR (k+(zx x.next:Nat)) x.choice))]) zO zN Try.func24 (by kernel_rfl) rfl rfl (by rw [Try.ntmps24];exact Nat.le_of_ble_eq_true rfl) rfl (by simp only [szA,List.mem_cons,List.not_mem_nil,or_false,forall_eq_or_imp,forall_eq,VT.cells,szL];try decide) ?_
 rw [Try.ntmps24]
 simp only [push_cast,↓zK,↓zJ,↓reduceIte,zA,zB,zC,zD,zE,zF,zG,zH,zI,reduceCtorEq]
 refine zM fun K hK=> ?_
 refine zL zO zN [] rfl ?_
 simp only [push_cast,↓zK,↓zJ,↓reduceIte,zA,zB,zC,zD,zE,zF,zG,zH,zI,reduceCtorEq]
 repeat' apply And.intro
 all_goals try exact gB
 all_goals first|(refine hK _ ?_;clear hK K)|(simp only [push_cast];done)
 have hA:=wN x.next (k) (by omega) (by omega) ha.next.1
 refine zM fun K hK=> ?_
 refine xm 8 [0] [(0,22,dII (mkR (k) x.next))] zO zN [] rfl ?_
 simp only [push_cast,↓zK,↓zJ,↓reduceIte,zA,zB,zC,zD,zE,zF,zG,zH,zI,reduceCtorEq]
 refine⟨_,hA,?_⟩
 simp only [push_cast,↓zK,↓zJ,↓reduceIte,zA,zB,zC,zD,zE,zF,zG,zH,zI,reduceCtorEq]
 refine hK _ ?_
 clear hK K hA
 have hA:=wN x.choice (k+(zx x.next:Nat)) (by omega) (by omega) ha.choice.1
 refine zM fun K hK=> ?_
 refine xm 12 [0] [(0,22,dII (mkR (k+(zx x.next:Nat)) x.choice))] zO zN [] rfl ?_
 simp only [push_cast,↓zK,↓zJ,↓reduceIte,zA,zB,zC,zD,zE,zF,zG,zH,zI,reduceCtorEq]
 refine⟨_,hA,?_⟩
 simp only [push_cast,↓zK,↓zJ,↓reduceIte,zA,zB,zC,zD,zE,zF,zG,zH,zI,reduceCtorEq]
 refine hK _ ?_
 clear hK K hA
 refine zM fun K hK=> ?_
 refine zL zO zN [] rfl ?_
 simp only [push_cast,↓zK,↓zJ,↓reduceIte,zA,zB,zC,zD,zE,zF,zG,zH,zI,reduceCtorEq]
 repeat' apply And.intro
 all_goals try exact gB
 all_goals first|(refine hK _ ?_;clear hK K)|(simp only [push_cast];done)
 refine zc ?_
 (try simp only [zS,zT])
 refine⟨Or.inl rfl,?_⟩
 simp only [ZL,wC,yY,xR,push_cast,↓zK,↓zJ,↓reduceIte,zA,zB,zC,zD,zE,zF,zG,zH,zI,reduceCtorEq]
 try(unfold Me.cnt;omega)
set_option maxHeartbeats 1000000 in
theorem Jg (x:Me)(k:Int)(h0:0≤k)(h1:k+x.cnt≤4611686018427387904)(ha:x.Ln 4611686018427387904):Fn Try.prog tyT 29 [.agg (dMe (Wx k x)), .c (.int .i64 k)] [.c (.int .i64 (k+x.cnt))]:=by
 have ht:x.cnt=zx x.next+zx x.choice:=by unfold Me.cnt; omega
 unfold dMe Wx
 refine yT (fn:=Try.f29) (ts:= [4]) Try.func29 (by kernel_rfl) rfl rfl (by rw [Try.ntmps29];exact Nat.le_of_ble_eq_true rfl) rfl (by simp only [szA,List.mem_cons,List.not_mem_nil,or_false,forall_eq_or_imp,forall_eq,VT.cells,szL];try decide) ?_
 rw [Try.ntmps29]
 simp only [push_cast,↓zK,↓zJ,↓reduceIte,zA,zB,zC,zD,zE,zF,zG,zH,zI,reduceCtorEq]
 refine zM fun K hK=> ?_
 refine zL zO zN [] rfl ?_
 simp only [push_cast,↓zK,↓zJ,↓reduceIte,zA,zB,zC,zD,zE,zF,zG,zH,zI,reduceCtorEq]
 repeat' apply And.intro
 all_goals try exact gB
 all_goals first|(refine hK _ ?_;clear hK K)|(simp only [push_cast];done)
 have hA:=YY x.next (k) (by omega) (by omega) ha.next.1
 refine zM fun K hK=> ?_
 refine zL zO zN [] rfl ?_
 simp only [push_cast,↓zK,↓zJ,↓reduceIte,zA,zB,zC,zD,zE,zF,zG,zH,zI,reduceCtorEq]
 refine⟨_,hA,?_⟩
 simp only [push_cast,↓zK,↓zJ,↓reduceIte,zA,zB,zC,zD,zE,zF,zG,zH,zI,reduceCtorEq]
 repeat' apply And.intro
 all_goals try exact gB
 refine hK _ ?_
 clear hK K hA
 refine zM fun K0 hK0=> ?_
 refine zM fun K hK=> ?_
 refine zL zO zN [] rfl ?_
 simp only [push_cast,↓zK,↓zJ,↓reduceIte,zA,zB,zC,zD,zE,zF,zG,zH,zI,reduceCtorEq]
 repeat' apply And.intro
 all_goals try exact gB
 all_goals first|(refine hK _ ?_;clear hK K)|(simp only [push_cast];done)
 refine zU rfl (fun hc=>by simp only [decide_eq_true_eq]at hc;omega) (fun _=> ?_)
 refine zV ?_
 (try simp only [zS,zT,reduceIte,zF]);refine hK0 _ ?_
 have hA:=YY x.choice (k+(zx x.next:Nat)) (by omega) (by omega) ha.choice.1
 refine zM fun K hK=> ?_
 refine zL zO zN [] rfl ?_
 simp only [push_cast,↓zK,↓zJ,↓reduceIte,zA,zB,zC,zD,zE,zF,zG,zH,zI,reduceCtorEq]
 refine⟨_,hA,?_⟩
 simp only [push_cast,↓zK,↓zJ,↓reduceIte,zA,zB,zC,zD,zE,zF,zG,zH,zI,reduceCtorEq]
 repeat' apply And.intro
 all_goals try exact gB
 refine hK _ ?_
 clear hK K hA
 refine zM fun K1 hK1=> ?_
 refine zM fun K hK=> ?_
 refine zL zO zN [] rfl ?_
 simp only [push_cast,↓zK,↓zJ,↓reduceIte,zA,zB,zC,zD,zE,zF,zG,zH,zI,reduceCtorEq]
 repeat' apply And.intro
 all_goals try exact gB
 all_goals first|(refine hK _ ?_;clear hK K)|(simp only [push_cast];done)
 refine zU rfl (fun hc=>by simp only [decide_eq_true_eq]at hc;omega) (fun _=> ?_)
 refine zV ?_
 (try simp only [zS,zT,reduceIte,zF]);refine hK1 _ ?_
 refine zM fun K hK=> ?_
 refine zL zO zN [] rfl ?_
 simp only [push_cast,↓zK,↓zJ,↓reduceIte,zA,zB,zC,zD,zE,zF,zG,zH,zI,reduceCtorEq]
 repeat' apply And.intro
 all_goals try exact gB
 all_goals first|(refine hK _ ?_;clear hK K)|(simp only [push_cast];done)
 refine zc ?_
 (try simp only [zS,zT])
 refine⟨Or.inl rfl,?_⟩
 simp only [zh,push_cast,↓zK,↓zJ,↓reduceIte,zA,zB,zC,zD,zE,zF,zG,zH,zI,reduceCtorEq]
 try(unfold Me.cnt;omega)
open Go.ChangeShapes Go.WideShapes Go.ChangeAt Go.RowKit Go.Deep Go.Joins
structure Me.Rg (x:Me):Prop where
 next:Kj x.next
 choice:Kj x.choice
section
variable {H:Type} {enc:TypeId×Value→H} {W:World} {lo:Nat}
set_option maxRecDepth 100000 in
theorem zCn {fuel:Nat}{cs:List Value}{x:DataW H×List MemPlace}(h:Tro enc W fuel 38 cs x): ∃a:Me,RpSN lo W (dMe a) cs∧a.Rg∧a.Ln 9223372036854775807:=by
 obtain⟨y0,y1,n,_,hl,h0,h1⟩:=trod_struct2 Try.underlying38 h
 rw [show Try.prog.cellsOf 38=2 from by kernel_rfl]at hl
 obtain⟨c0,c1,rfl⟩:=zBt hl
 rw [show Try.prog.cellsOf 23=1 from by kernel_rfl]at h0
 rw [show Try.prog.cellsOf 23=1 from by kernel_rfl]at h1
 simp at h0 h1
 obtain⟨v0,a0,e0,r0,g0,l0⟩:=JA (lo:=lo) h0
 simp only [List.cons.injEq,and_true]at e0
 subst e0
 obtain⟨v1,a1,e1,r1,g1,l1⟩:=JA (lo:=lo) h1
 simp only [List.cons.injEq,and_true]at e1
 subst e1
 exact⟨⟨a0,a1⟩,Wd (ZE r0) (ZE r1),⟨g0,g1⟩,⟨l0,l1⟩⟩
set_option maxRecDepth 100000 in
theorem zDI {base:Nat}{v:Value}{d:DataW H}{p:List MemPlace}(hv:Value.okWide Try.prog W .any base 38 v)(h:DataW.Trod enc Try.prog W 0 (fun _=>true) true 38 v d p): ∃a:Me,wG (sz tyT) lo W (fun _=>none) (.agg (dMe a)) v∧a.Rg∧a.Ln 9223372036854775807:=by
 obtain⟨cs,rfl,hsz⟩:=okWide_struct Try.underlying38 hv
 obtain⟨fuel,hf⟩:=h
 obtain⟨a,h1,h2⟩:=zCn (lo:=lo) hf
 exact⟨a,⟨cs.toList,by simp,h1⟩,h2⟩
end
def qm (a:Ar)(who:Int)(plan:List Int)(v:Nat):Bool:=decide (gi plan v= -1)||(decide (gi a.owner v=who)&&yL (gl a.next v) (gi plan v))
def vO (a:Ar)(who:Int)(plan:List Int):Bool:=decide (plan.length=a.owner.length)&&wl plan.length (qm a who plan)
theorem WP {a:Ar}{who:Int}{plan:List Int}{v:Nat}(h:gi plan v= -1∨(gi a.owner v=who∧yL (gl a.next v) (gi plan v)=true)):qm a who plan v=true:=by
 unfold qm
 rw [Bool.or_eq_true,Bool.and_eq_true,decide_eq_true_eq,decide_eq_true_eq]
 exact h
theorem WO {a:Ar}{who:Int}{plan:List Int}{v:Nat}(h: ¬gi plan v= -1)(h2: ¬gi a.owner v=who∨yL (gl a.next v) (gi plan v)=false):qm a who plan v=false:=by
 unfold qm
 rw [decide_eq_false h,Bool.false_or,Bool.and_eq_false_iff,decide_eq_false_iff_not]
 exact h2
theorem Ju {a:Ar}{who:Int}{plan:List Int}(h: ¬plan.length=a.owner.length):vO a who plan=false:=by unfold vO;rw [decide_eq_false h];rfl
theorem jl {a:Ar}{who:Int}{plan:List Int}{v:Nat}(hv:v<plan.length)(h:qm a who plan v=false):vO a who plan=false:=by unfold vO;rw [vC hv h,Bool.and_false]
theorem Jv {a:Ar}{who:Int}{plan:List Int}(h:plan.length=a.owner.length)(h2: ∀v,v<plan.length→qm a who plan v=true):vO a who plan=true:=by unfold vO;rw [decide_eq_true h,vj h2];rfl
theorem ZV {a:Ar}{who:Int}{plan:List Int}(h:vO a who plan=true):plan.length=a.owner.length∧∀v,v<plan.length→gi plan v= -1∨(gi a.owner v=who∧yL (gl a.next v) (gi plan v)=true):=by
 unfold vO at h
 rw [Bool.and_eq_true,decide_eq_true_eq]at h
 refine⟨h.1,fun v hv=> ?_⟩
 have :=vi h.2 hv
 unfold qm at this
 rw [Bool.or_eq_true,Bool.and_eq_true,decide_eq_true_eq,decide_eq_true_eq]at this
 exact this
set_option maxRecDepth 20000 in
set_option maxHeartbeats 4000000 in
theorem zAC (a:Ar)(ha:a.Ln 1048576)(hnl:a.next.length=a.owner.length)(who:Int)(plan:List Int)(hp:plan.length≤1048576):Fn Try.prog tyT 115 [.agg (dAr a), .c (.int .i64 who), .c (DI plan)] [.c (.bool (vO a who plan))]:=by
 have hr: ∀v,(gl a.next v).length≤1048576:=fun v=>wW ha.next v
 have hno:=ha.owner
 unfold LnI at hno
 unfold dAr
 refine yT (fn:=Try.f115) (ts:= [6]) Try.func115 (by kernel_rfl) rfl rfl (by rw [Try.ntmps115];exact Nat.le_of_ble_eq_true rfl) rfl (by simp only [szA,List.mem_cons,List.not_mem_nil,or_false,forall_eq_or_imp,forall_eq,VT.cells,szL];try decide) ?_
 rw [Try.ntmps115]
 simp only [push_cast,↓zK,↓zJ,↓reduceIte,zA,zB,zC,zD,zE,zF,zG,zH,zI,reduceCtorEq]
 refine zM fun K hK=> ?_
 refine zL zO zN [] rfl ?_
 all_goals simp only [push_cast,↓zK,↓zJ,↓reduceIte,zA,zB,zC,zD,zE,zF,zG,zH,zI,reduceCtorEq]
 all_goals repeat'(first|(apply zP<;>(intro hg;(try simp only [push_cast]at hg)))|(refine⟨_,yk (gl a.next k) _ (hr k),?_⟩;simp only [push_cast,↓zK,↓zJ,↓reduceIte,zA,zB,zC,zD,zE,zF,zG,zH,zI,reduceCtorEq])|apply And.intro|(intro hg;(try simp only [push_cast]at hg)))
 all_goals first|exact gA|(exact zQ (by omega))|skip
 all_goals first|(refine hK _ ?_;clear hK K)|(simp only [push_cast];done)
 refine zM fun K1 hK1=> ?_
 refine zM fun K hK=> ?_
 refine zL zO zN [] rfl ?_
 all_goals simp only [push_cast,↓zK,↓zJ,↓reduceIte,zA,zB,zC,zD,zE,zF,zG,zH,zI,reduceCtorEq]
 all_goals repeat'(first|(apply zP<;>(intro hg;(try simp only [push_cast]at hg)))|(refine⟨_,yk (gl a.next k) _ (hr k),?_⟩;simp only [push_cast,↓zK,↓zJ,↓reduceIte,zA,zB,zC,zD,zE,zF,zG,zH,zI,reduceCtorEq])|apply And.intro|(intro hg;(try simp only [push_cast]at hg)))
 all_goals first|exact gA|(exact zQ (by omega))|skip
 all_goals first|(refine hK _ ?_;clear hK K)|(simp only [push_cast];done)
 refine zU rfl (fun hc=> ?_) (fun hc=> ?_)<;>(try simp only [push_cast]at hc)
 ·
  refine zM fun K hK=> ?_
  refine zL zO zN [] rfl ?_
  all_goals simp only [push_cast,↓zK,↓zJ,↓reduceIte,zA,zB,zC,zD,zE,zF,zG,zH,zI,reduceCtorEq]
  all_goals repeat'(first|(apply zP<;>(intro hg;(try simp only [push_cast]at hg)))|(refine⟨_,yk (gl a.next k) _ (hr k),?_⟩;simp only [push_cast,↓zK,↓zJ,↓reduceIte,zA,zB,zC,zD,zE,zF,zG,zH,zI,reduceCtorEq])|apply And.intro|(intro hg;(try simp only [push_cast]at hg)))
  all_goals first|exact gA|(exact zQ (by omega))|skip
  all_goals first|(refine hK _ ?_;clear hK K)|(simp only [push_cast];done)
  refine zc ?_
  (try simp only [zS,zT])
  refine⟨Or.inl rfl,?_⟩
  simp only [zh,push_cast,↓zK,↓zJ,↓reduceIte,zA,zB,zC,zD,zE,zF,zG,zH,zI,reduceCtorEq]
  symm
  exact Ju (by omega)
 ·
  refine zV ?_
  (try simp only [zS,zT,reduceIte,zF]);refine hK1 _ ?_
  refine zM fun K2 hK2=> ?_
  refine zM fun K hK=> ?_
  refine zL zO zN [] rfl ?_
  all_goals simp only [push_cast,↓zK,↓zJ,↓reduceIte,zA,zB,zC,zD,zE,zF,zG,zH,zI,reduceCtorEq]
  all_goals repeat'(first|(apply zP<;>(intro hg;(try simp only [push_cast]at hg)))|(refine⟨_,yk (gl a.next k) _ (hr k),?_⟩;simp only [push_cast,↓zK,↓zJ,↓reduceIte,zA,zB,zC,zD,zE,zF,zG,zH,zI,reduceCtorEq])|apply And.intro|(intro hg;(try simp only [push_cast]at hg)))
  all_goals first|exact gA|(exact zQ (by omega))|skip
  all_goals first|(refine hK _ ?_;clear hK K)|(simp only [push_cast];done)
  refine zZ ?_
  refine zo [6,7,8,17,18,19,20,21,22,23,24,25,26,27,28,29,30,31,32,33,34,35,36,37,38,39,40,41,42,43] [] (fun(k:Nat)=> [(17, .int .i64 k)]) (fun k=> []) (fun k=> []) (fun k=>k≤plan.length∧∀j,j<k→qm a who plan j=true) (fun k=>plan.length - k) 0 ?_ ⟨by omega,fun j hj=>by omega⟩ ?_
  ·
   refine zd rfl ?_ ?_ ?_<;>simp only [zl,zk,push_cast,↓zK,↓zJ,↓reduceIte,zA,zB,zC,zD,zE,zF,zG,zH,zI,reduceCtorEq]
  ·rintro k ⟨hk,hall⟩ KL0 hL0
   have hrk:=hr k
   simp only [push_cast,↓zK,↓zJ,↓reduceIte,zA,zB,zC,zD,zE,zF,zG,zH,zI,reduceCtorEq]
   refine zM fun K hK=> ?_
   refine zL zO zN [] rfl ?_
   all_goals simp only [push_cast,↓zK,↓zJ,↓reduceIte,zA,zB,zC,zD,zE,zF,zG,zH,zI,reduceCtorEq]
   all_goals repeat'(first|(apply zP<;>(intro hg;(try simp only [push_cast]at hg)))|(refine⟨_,yk (gl a.next k) _ (hr k),?_⟩;simp only [push_cast,↓zK,↓zJ,↓reduceIte,zA,zB,zC,zD,zE,zF,zG,zH,zI,reduceCtorEq])|apply And.intro|(intro hg;(try simp only [push_cast]at hg)))
   all_goals first|exact gA|(exact zQ (by omega))|skip
   all_goals first|(refine hK _ ?_;clear hK K)|(simp only [push_cast];done)
   refine zM fun K3 hK3=> ?_
   refine zU rfl (fun hc=> ?_) (fun hc=> ?_)<;>(try simp only [push_cast]at hc)
   ·
    refine zV ?_
    (try simp only [zS,zT,reduceIte,zF]);refine hK3 _ ?_
    refine zM fun K4 hK4=> ?_
    refine zZ ?_
    refine zM fun K hK=> ?_
    refine zL zO zN [] rfl ?_
    all_goals simp only [push_cast,↓zK,↓zJ,↓reduceIte,zA,zB,zC,zD,zE,zF,zG,zH,zI,reduceCtorEq]
    all_goals repeat'(first|(apply zP<;>(intro hg;(try simp only [push_cast]at hg)))|(refine⟨_,yk (gl a.next k) _ (hr k),?_⟩;simp only [push_cast,↓zK,↓zJ,↓reduceIte,zA,zB,zC,zD,zE,zF,zG,zH,zI,reduceCtorEq])|apply And.intro|(intro hg;(try simp only [push_cast]at hg)))
    all_goals first|exact gA|(exact zQ (by omega))|skip
    all_goals first|(refine hK _ ?_;clear hK K)|(simp only [push_cast];done)
    refine zM fun K hK=> ?_
    refine zp false zO zN ?_ rfl ?_
    ·kernel_rfl
    all_goals refine xI 18 fun K9 hK9=> ?_
    all_goals simp only [push_cast,↓zK,↓zJ,↓reduceIte,zA,zB,zC,zD,zE,zF,zG,zH,zI,reduceCtorEq]
    all_goals repeat'(first|(apply zP<;>(intro hg;(try simp only [push_cast]at hg)))|(refine⟨_,yk (gl a.next k) _ (hr k),?_⟩;simp only [push_cast,↓zK,↓zJ,↓reduceIte,zA,zB,zC,zD,zE,zF,zG,zH,zI,reduceCtorEq])|apply And.intro|(intro hg;(try simp only [push_cast]at hg)))
    all_goals first|exact gA|(exact zQ (by omega))|skip
    all_goals first|(refine hK9 _ ?_;clear hK9 K9)|(simp only [push_cast];done)
    all_goals simp only [push_cast,↓zK,↓zJ,↓reduceIte,zA,zB,zC,zD,zE,zF,zG,zH,zI,reduceCtorEq]
    all_goals repeat'(first|(apply zP<;>(intro hg;(try simp only [push_cast]at hg)))|(refine⟨_,yk (gl a.next k) _ (hr k),?_⟩;simp only [push_cast,↓zK,↓zJ,↓reduceIte,zA,zB,zC,zD,zE,zF,zG,zH,zI,reduceCtorEq])|apply And.intro|(intro hg;(try simp only [push_cast]at hg)))
    all_goals first|exact gA|(exact zQ (by omega))|skip
    all_goals first|(refine hK _ ?_;clear hK K)|(simp only [push_cast];done)
    all_goals refine zU rfl (fun hc=> ?_) (fun hc=> ?_)
    all_goals(first|(cases hc;done)|skip)
    all_goals(try simp only [push_cast]at hc)
    all_goals first
     |(
       refine zV ?_
       (try simp only [zS,zT,reduceIte,zF]);refine hK4 _ ?_
       refine zL zO zN [] rfl ?_
       all_goals simp only [push_cast,↓zK,↓zJ,↓reduceIte,zA,zB,zC,zD,zE,zF,zG,zH,zI,reduceCtorEq]
       all_goals repeat'(first|(apply zP<;>(intro hg;(try simp only [push_cast]at hg)))|(refine⟨_,yk (gl a.next k) _ (hr k),?_⟩;simp only [push_cast,↓zK,↓zJ,↓reduceIte,zA,zB,zC,zD,zE,zF,zG,zH,zI,reduceCtorEq])|apply And.intro|(intro hg;(try simp only [push_cast]at hg)))
       all_goals first|exact gA|(exact zQ (by omega))|skip
       refine hL0 _ ⟨k+1,⟨by omega,fun j hj=>(by
         by_cases hjk:j=k
         ·subst hjk;exact WP (by first|exact Or.inl (by omega)|exact Or.inr ⟨by omega,by with_reducible assumption⟩)
         ·exact hall j (by omega))⟩,by omega,?_⟩
       refine zd rfl ?_ ?_ ?_<;>simp only [zl,zk,push_cast,↓zK,↓zJ,↓reduceIte,zA,zB,zC,zD,zE,zF,zG,zH,zI,reduceCtorEq]
       done)
     |(
       refine zM fun K hK=> ?_
       refine zL zO zN [] rfl ?_
       all_goals simp only [push_cast,↓zK,↓zJ,↓reduceIte,zA,zB,zC,zD,zE,zF,zG,zH,zI,reduceCtorEq]
       all_goals repeat'(first|(apply zP<;>(intro hg;(try simp only [push_cast]at hg)))|(refine⟨_,yk (gl a.next k) _ (hr k),?_⟩;simp only [push_cast,↓zK,↓zJ,↓reduceIte,zA,zB,zC,zD,zE,zF,zG,zH,zI,reduceCtorEq])|apply And.intro|(intro hg;(try simp only [push_cast]at hg)))
       all_goals first|exact gA|(exact zQ (by omega))|skip
       all_goals first|(refine hK _ ?_;clear hK K)|(simp only [push_cast];done)
       refine zc ?_
       (try simp only [zS,zT])
       refine⟨Or.inl rfl,?_⟩
       simp only [zh,push_cast,↓zK,↓zJ,↓reduceIte,zA,zB,zC,zD,zE,zF,zG,zH,zI,reduceCtorEq]
       symm
       exact jl (v:=k) (by omega) (WO (by omega) (by first|exact Or.inl (by omega)|exact Or.inr (by with_reducible assumption)))
       done)
   ·
    refine zr ?_
    (try simp only [zS,zT,reduceIte,zF]);refine hK2 _ ?_
    refine zM fun K hK=> ?_
    refine zL zO zN [] rfl ?_
    all_goals simp only [push_cast,↓zK,↓zJ,↓reduceIte,zA,zB,zC,zD,zE,zF,zG,zH,zI,reduceCtorEq]
    all_goals repeat'(first|(apply zP<;>(intro hg;(try simp only [push_cast]at hg)))|(refine⟨_,yk (gl a.next k) _ (hr k),?_⟩;simp only [push_cast,↓zK,↓zJ,↓reduceIte,zA,zB,zC,zD,zE,zF,zG,zH,zI,reduceCtorEq])|apply And.intro|(intro hg;(try simp only [push_cast]at hg)))
    all_goals first|exact gA|(exact zQ (by omega))|skip
    all_goals first|(refine hK _ ?_;clear hK K)|(simp only [push_cast];done)
    refine zc ?_
    (try simp only [zS,zT])
    refine⟨Or.inl rfl,?_⟩
    simp only [zh,push_cast,↓zK,↓zJ,↓reduceIte,zA,zB,zC,zD,zE,zF,zG,zH,zI,reduceCtorEq]
    symm
    exact Jv (by omega) fun v hv=>hall v (by omega)
def qL (a:Ar)(next choice:List Int)(k:Int):Bool:=decide (next.length=a.owner.length)&&(vO a 0 choice&&wl next.length (fun v=>decide (0≤gi next v∧gi next v<k)))
theorem Jp {a:Ar}{next choice:List Int}{k:Int}(h: ¬next.length=a.owner.length):qL a next choice k=false:=by unfold qL;rw [decide_eq_false h];rfl
theorem Xr {a:Ar}{next choice:List Int}{k:Int}(h:vO a 0 choice=false):qL a next choice k=false:=by unfold qL;rw [h,Bool.false_and,Bool.and_false]
theorem Jq {a:Ar}{next choice:List Int}{k:Int}{v:Nat}(hv:v<next.length)(h: ¬(0≤gi next v∧gi next v<k)):qL a next choice k=false:=by unfold qL;rw [vC hv (decide_eq_false h),Bool.and_false,Bool.and_false]
theorem Jr {a:Ar}{next choice:List Int}{k:Int}(h1:next.length=a.owner.length)(h2:vO a 0 choice=true)(h3: ∀v,v<next.length→0≤gi next v∧gi next v<k):qL a next choice k=true:=by unfold qL;rw [decide_eq_true h1,h2,vj fun v hv=>decide_eq_true (h3 v hv)];rfl
def vU (a:Ar)(m:Me):Bool:=decide (1≤m.next.length∧m.next.length≤24∧m.choice.length=m.next.length)&&wl m.next.length (fun s=>qL a (gl m.next s) (gl m.choice s) m.next.length)
theorem jg {a:Ar}{m:Me}(h: ¬(1≤m.next.length∧m.next.length≤24∧m.choice.length=m.next.length)):vU a m=false:=by unfold vU;rw [decide_eq_false h];rfl
theorem VM {a:Ar}{m:Me}{s:Nat}(hs:s<m.next.length)(h:qL a (gl m.next s) (gl m.choice s) m.next.length=false):vU a m=false:=by unfold vU;rw [vC hs h,Bool.and_false]
theorem jh {a:Ar}{m:Me}(h1:1≤m.next.length∧m.next.length≤24∧m.choice.length=m.next.length)(h2: ∀s,s<m.next.length→qL a (gl m.next s) (gl m.choice s) m.next.length=true):vU a m=true:=by unfold vU;rw [decide_eq_true h1,vj h2];rfl
set_option maxRecDepth 20000 in
set_option maxHeartbeats 4000000 in
theorem vk (xs:List Int)(x:Int)(hl:xs.length≤1048576):Fn Try.prog tyT 74 [.c (DI xs), .c (.int .i64 x)] [.c (.bool (yL xs x))]:=by
 refine yT (fn:=Try.f74) (ts:= [4]) Try.func74 (by kernel_rfl) rfl rfl (by rw [Try.ntmps74];exact Nat.le_of_ble_eq_true rfl) rfl (by simp only [szA,List.mem_cons,List.not_mem_nil,or_false,forall_eq_or_imp,forall_eq,VT.cells,szL];try decide) ?_
 rw [Try.ntmps74]
 simp only [push_cast,↓zK,↓zJ,↓reduceIte,zA,zB,zC,zD,zE,zF,zG,zH,zI,reduceCtorEq]
 refine zM fun K hK=> ?_
 refine zL zO zN [] rfl ?_
 simp only [push_cast,↓zK,↓zJ,↓reduceIte,zA,zB,zC,zD,zE,zF,zG,zH,zI,reduceCtorEq]
 repeat' apply And.intro
 all_goals try exact gB
 all_goals first|(refine hK _ ?_;clear hK K)|(simp only [push_cast];done)
 refine zM fun K1 hK1=> ?_
 refine zM fun K hK=> ?_
 refine zL zO zN [] rfl ?_
 simp only [push_cast,↓zK,↓zJ,↓reduceIte,zA,zB,zC,zD,zE,zF,zG,zH,zI,reduceCtorEq]
 repeat' apply And.intro
 all_goals try exact gB
 all_goals first|(refine hK _ ?_;clear hK K)|(simp only [push_cast];done)
 refine zZ ?_
 refine zo [4,5,6,7,8,9,10,11,12,13,14,15,16,17] [] (fun(k:Nat)=> [(5, .int .i64 k)]) (fun k=> []) (fun k=> []) (fun k=>k≤xs.length∧∀j,j<k→¬gi xs j=x) (fun k=>xs.length - k) 0 ?_ ⟨by omega,fun j hj=>by omega⟩ ?_
 ·
  refine zd rfl ?_ ?_ ?_<;>simp only [zl,zk,push_cast,↓zK,↓zJ,↓reduceIte,zA,zB,zC,zD,zE,zF,zG,zH,zI,reduceCtorEq]
 ·rintro k ⟨hk,hall⟩ KL0 hL0
  simp only [push_cast,↓zK,↓zJ,↓reduceIte,zA,zB,zC,zD,zE,zF,zG,zH,zI,reduceCtorEq]
  refine zM fun K2 hK2=> ?_
  refine zM fun K hK=> ?_
  refine zL zO zN [] rfl ?_
  simp only [push_cast,↓zK,↓zJ,↓reduceIte,zA,zB,zC,zD,zE,zF,zG,zH,zI,reduceCtorEq]
  repeat' apply And.intro
  all_goals try exact gB
  all_goals first|(refine hK _ ?_;clear hK K)|(simp only [push_cast];done)
  refine zU rfl (fun hc=> ?_) (fun hc=> ?_)<;>(try simp only [push_cast]at hc)
  ·
   refine zV ?_
   (try simp only [zS,zT,reduceIte,zF]);refine hK2 _ ?_
   refine zM fun K3 hK3=> ?_
   refine zZ ?_
   refine zM fun K hK=> ?_
   refine zL zO zN [] rfl ?_
   simp only [push_cast,↓zK,↓zJ,↓reduceIte,zA,zB,zC,zD,zE,zF,zG,zH,zI,reduceCtorEq]
   repeat' apply And.intro
   all_goals try exact gB
   all_goals first|(refine hK _ ?_;clear hK K)|(simp only [push_cast];done)
   refine zU rfl (fun hc=> ?_) (fun hc=> ?_)<;>(try simp only [push_cast]at hc)
   ·
    refine zM fun K hK=> ?_
    refine zL zO zN [] rfl ?_
    simp only [push_cast,↓zK,↓zJ,↓reduceIte,zA,zB,zC,zD,zE,zF,zG,zH,zI,reduceCtorEq]
    repeat' apply And.intro
    all_goals try exact gB
    all_goals first|(refine hK _ ?_;clear hK K)|(simp only [push_cast];done)
    refine zc ?_
    (try simp only [zS,zT])
    refine⟨Or.inl rfl,?_⟩
    simp only [zh,push_cast,↓zK,↓zJ,↓reduceIte,zA,zB,zC,zD,zE,zF,zG,zH,zI,reduceCtorEq]
    have hf:zz xs x=k:=YX (by omega) hall (by omega)
    unfold yL
    rw [hf]
    exact(decide_eq_true (by omega)).symm
   ·
    refine zV ?_
    (try simp only [zS,zT,reduceIte,zF]);refine hK3 _ ?_
    refine zL zO zN [] rfl ?_
    simp only [push_cast,↓zK,↓zJ,↓reduceIte,zA,zB,zC,zD,zE,zF,zG,zH,zI,reduceCtorEq]
    repeat' apply And.intro
    all_goals try exact gB
    refine hL0 _ ⟨k+1,⟨by omega,fun j hj=>(by
      by_cases hjk:j=k
      ·subst hjk;omega
      ·exact hall j (by omega))⟩,by omega,?_⟩
    refine zd rfl ?_ ?_ ?_<;>simp only [zl,zk,push_cast,↓zK,↓zJ,↓reduceIte,zA,zB,zC,zD,zE,zF,zG,zH,zI,reduceCtorEq]
  ·
   refine zr ?_
   (try simp only [zS,zT,reduceIte,zF]);refine hK1 _ ?_
   refine zM fun K hK=> ?_
   refine zL zO zN [] rfl ?_
   simp only [push_cast,↓zK,↓zJ,↓reduceIte,zA,zB,zC,zD,zE,zF,zG,zH,zI,reduceCtorEq]
   repeat' apply And.intro
   all_goals try exact gB
   all_goals first|(refine hK _ ?_;clear hK K)|(simp only [push_cast];done)
   refine zc ?_
   (try simp only [zS,zT])
   refine⟨Or.inl rfl,?_⟩
   simp only [zh,push_cast,↓zK,↓zJ,↓reduceIte,zA,zB,zC,zD,zE,zF,zG,zH,zI,reduceCtorEq]
   unfold yL
   rw [Ja (fun j hj=>hall j (by omega))]
   exact(decide_eq_false (by omega)).symm
set_option maxRecDepth 20000 in
set_option maxHeartbeats 4000000 in
theorem zAF (a:Ar)(ha:a.Ln 1048576)(hnl:a.next.length=a.owner.length)(next choice:List Int)(h1:next.length≤1048576)(h2:choice.length≤1048576)(k:Int)(hk0:1≤k∧k≤24):Fn Try.prog tyT 82 [.agg (dAr a), .c (DI next), .c (DI choice), .c (.int .i64 k)] [.c (.bool (qL a next choice k))]:=by
 have hr: ∀v,(gl a.next v).length≤1048576:=fun v=>wW ha.next v
 have hno:=ha.owner
 unfold LnI at hno
 unfold dAr
 refine yT (fn:=Try.f82) (ts:= [8]) Try.func82 (by kernel_rfl) rfl rfl (by rw [Try.ntmps82];exact Nat.le_of_ble_eq_true rfl) rfl (by simp only [szA,List.mem_cons,List.not_mem_nil,or_false,forall_eq_or_imp,forall_eq,VT.cells,szL];try decide) ?_
 rw [Try.ntmps82]
 simp only [push_cast,↓zK,↓zJ,↓reduceIte,zA,zB,zC,zD,zE,zF,zG,zH,zI,reduceCtorEq]
 refine zM fun K hK=> ?_
 refine zL zO zN [] rfl ?_
 all_goals simp only [push_cast,↓zK,↓zJ,↓reduceIte,zA,zB,zC,zD,zE,zF,zG,zH,zI,reduceCtorEq]
 all_goals repeat'(first|(apply zP<;>(intro hg;(try simp only [push_cast]at hg)))|apply And.intro|(intro hg;(try simp only [push_cast]at hg)))
 all_goals first|exact gA|(exact zQ (by omega))|skip
 all_goals first|(refine hK _ ?_;clear hK K)|(simp only [push_cast];done)
 refine zM fun K1 hK1=> ?_
 refine zM fun K hK=> ?_
 refine zp false zO zN ?_ rfl ?_
 ·kernel_rfl
 all_goals simp only [push_cast,↓zK,↓zJ,↓reduceIte,zA,zB,zC,zD,zE,zF,zG,zH,zI,reduceCtorEq]
 all_goals repeat'(first|(apply zP<;>(intro hg;(try simp only [push_cast]at hg)))|apply And.intro|(intro hg;(try simp only [push_cast]at hg)))
 all_goals first|exact gA|(exact zQ (by omega))|skip
 all_goals first|(refine hK _ ?_;clear hK K)|(simp only [push_cast];done)
 all_goals refine zU rfl (fun hc=> ?_) (fun hc=> ?_)
 all_goals(first|(cases hc;done)|skip)
 all_goals(try simp only [push_cast]at hc)
 all_goals try(
   refine zM fun K hK=> ?_
   refine zL zO zN [] rfl ?_
   all_goals simp only [push_cast,↓zK,↓zJ,↓reduceIte,zA,zB,zC,zD,zE,zF,zG,zH,zI,reduceCtorEq]
   all_goals repeat'(first|(apply zP<;>(intro hg;(try simp only [push_cast]at hg)))|apply And.intro|(intro hg;(try simp only [push_cast]at hg)))
   all_goals first|exact gA|(exact zQ (by omega))|skip
   all_goals first|(refine hK _ ?_;clear hK K)|(simp only [push_cast];done)
   refine zc ?_
   (try simp only [zS,zT])
   refine⟨Or.inl rfl,?_⟩
   simp only [zh,push_cast,↓zK,↓zJ,↓reduceIte,zA,zB,zC,zD,zE,zF,zG,zH,zI,reduceCtorEq]
   symm
   first|exact Jp (by omega)|exact Xr (Ju (by omega))
   done)
 refine zV ?_
 (try simp only [zS,zT,reduceIte,zF]);refine hK1 _ ?_
 refine zM fun K2 hK2=> ?_
 refine zM fun K hK=> ?_
 refine zL zO zN [] rfl ?_
 all_goals simp only [push_cast,↓zK,↓zJ,↓reduceIte,zA,zB,zC,zD,zE,zF,zG,zH,zI,reduceCtorEq]
 all_goals repeat'(first|(apply zP<;>(intro hg;(try simp only [push_cast]at hg)))|apply And.intro|(intro hg;(try simp only [push_cast]at hg)))
 all_goals first|exact gA|(exact zQ (by omega))|skip
 all_goals first|(refine hK _ ?_;clear hK K)|(simp only [push_cast];done)
 refine zZ ?_
 refine zo [8,9,16,24,25,26,27,28,29,30,31,32,33,34,35,36,37,38,39,40,41,42,43,44,45,46,47,48,49,50,51,52,53,54,55,56,57,58,59,60,61,62,63,64] [] (fun(v:Nat)=> [(9, .int .i64 v)]) (fun v=> []) (fun v=> []) (fun v=>v≤a.owner.length∧∀j,j<v→(0≤gi next j∧gi next j<k)∧qm a 0 choice j=true) (fun v=>a.owner.length - v) 0 ?_ ⟨by omega,fun j hj=>by omega⟩ ?_
 ·
  refine zd rfl ?_ ?_ ?_<;>simp only [zl,zk,push_cast,↓zK,↓zJ,↓reduceIte,zA,zB,zC,zD,zE,zF,zG,zH,zI,reduceCtorEq]
 ·rintro v ⟨hv,hall⟩ KL0 hL0
  have hrv:=hr v
  simp only [push_cast,↓zK,↓zJ,↓reduceIte,zA,zB,zC,zD,zE,zF,zG,zH,zI,reduceCtorEq]
  refine zM fun K3 hK3=> ?_
  refine zM fun K hK=> ?_
  refine zL zO zN [] rfl ?_
  all_goals simp only [push_cast,↓zK,↓zJ,↓reduceIte,zA,zB,zC,zD,zE,zF,zG,zH,zI,reduceCtorEq]
  all_goals repeat'(first|(apply zP<;>(intro hg;(try simp only [push_cast]at hg)))|apply And.intro|(intro hg;(try simp only [push_cast]at hg)))
  all_goals first|exact gA|(exact zQ (by omega))|skip
  all_goals first|(refine hK _ ?_;clear hK K)|(simp only [push_cast];done)
  refine zU rfl (fun hc=> ?_) (fun hc=> ?_)<;>(try simp only [push_cast]at hc)
  ·
   refine zV ?_
   (try simp only [zS,zT,reduceIte,zF]);refine hK3 _ ?_
   refine zM fun K4 hK4=> ?_
   refine zZ ?_
   refine zM fun K5 hK5=> ?_
   refine zM fun K hK=> ?_
   refine zL zO zN [] rfl ?_
   all_goals refine qI 7 fun K9 hK9=> ?_
   all_goals simp only [push_cast,↓zK,↓zJ,↓reduceIte,zA,zB,zC,zD,zE,zF,zG,zH,zI,reduceCtorEq]
   all_goals repeat'(first|(apply zP<;>(intro hg;(try simp only [push_cast]at hg)))|(refine⟨_,yX _ _ _,?_⟩;simp only [push_cast,↓zK,↓zJ,↓reduceIte,zA,zB,zC,zD,zE,zF,zG,zH,zI,reduceCtorEq])|apply And.intro|(intro hg;(try simp only [push_cast]at hg)))
   all_goals first|exact gA|(exact zQ (by omega))|skip
   all_goals first|(refine hK9 _ ?_;clear hK9 K9)|(simp only [push_cast];done)
   all_goals simp only [push_cast,↓zK,↓zJ,↓reduceIte,zA,zB,zC,zD,zE,zF,zG,zH,zI,reduceCtorEq]
   all_goals repeat'(first|(apply zP<;>(intro hg;(try simp only [push_cast]at hg)))|(refine⟨_,yX _ _ _,?_⟩;simp only [push_cast,↓zK,↓zJ,↓reduceIte,zA,zB,zC,zD,zE,zF,zG,zH,zI,reduceCtorEq])|apply And.intro|(intro hg;(try simp only [push_cast]at hg)))
   all_goals first|exact gA|(exact zQ (by omega))|skip
   all_goals first|(refine hK _ ?_;clear hK K)|(simp only [push_cast];done)
   refine zU rfl (fun hc=> ?_) (fun hc=> ?_)<;>(try simp only [push_cast]at hc)
   ·
    refine zM fun K hK=> ?_
    refine zL zO zN [] rfl ?_
    all_goals simp only [push_cast,↓zK,↓zJ,↓reduceIte,zA,zB,zC,zD,zE,zF,zG,zH,zI,reduceCtorEq]
    all_goals repeat'(first|(apply zP<;>(intro hg;(try simp only [push_cast]at hg)))|apply And.intro|(intro hg;(try simp only [push_cast]at hg)))
    all_goals first|exact gA|(exact zQ (by omega))|skip
    all_goals first|(refine hK _ ?_;clear hK K)|(simp only [push_cast];done)
    refine zc ?_
    (try simp only [zS,zT])
    refine⟨Or.inl rfl,?_⟩
    simp only [zh,push_cast,↓zK,↓zJ,↓reduceIte,zA,zB,zC,zD,zE,zF,zG,zH,zI,reduceCtorEq]
    symm
    exact Jq (v:=v) (by omega) (by omega)
   ·
    refine zV ?_
    (try simp only [zS,zT,reduceIte,zF]);refine hK5 _ ?_
    refine zM fun K hK=> ?_
    refine yN false zO zN xM ?_ rfl ?_
    ·kernel_rfl
    intro E hE
    all_goals refine XE 23 (by decide) fun K9 hK9=> ?_
    all_goals simp only [push_cast,↓zK,↓zJ,↓reduceIte,zA,zB,zC,zD,zE,zF,zG,zH,zI,reduceCtorEq]
    all_goals repeat'(first|(apply zP<;>(intro hg;(try simp only [push_cast]at hg)))|(refine⟨_,vk (gl a.next v) _ (hr v),?_⟩;simp only [push_cast,↓zK,↓zJ,↓reduceIte,zA,zB,zC,zD,zE,zF,zG,zH,zI,reduceCtorEq])|apply And.intro|(intro hg;(try simp only [push_cast]at hg)))
    all_goals first|exact gA|(exact zQ (by omega))|skip
    all_goals first|(refine hK9 _ _ ?_;clear hK9 K9)|(simp only [push_cast];done)
    all_goals simp only [push_cast,↓zK,↓zJ,↓reduceIte,zA,zB,zC,zD,zE,zF,zG,zH,zI,reduceCtorEq]
    all_goals repeat'(first|(apply zP<;>(intro hg;(try simp only [push_cast]at hg)))|(refine⟨_,vk (gl a.next v) _ (hr v),?_⟩;simp only [push_cast,↓zK,↓zJ,↓reduceIte,zA,zB,zC,zD,zE,zF,zG,zH,zI,reduceCtorEq])|apply And.intro|(intro hg;(try simp only [push_cast]at hg)))
    all_goals first|exact gA|(refine hE _ _ ?_ ?_;kernel_rfl)|(exact zQ (by omega))|skip
    all_goals clear hE E
    all_goals first|(refine hK _ ?_;clear hK K)|(simp only [push_cast];done)
    all_goals refine zU rfl (fun hc=> ?_) (fun hc=> ?_)
    all_goals(first|(cases hc;done)|skip)
    all_goals(try simp only [push_cast]at hc)
    all_goals first
     |(
       refine zV ?_
       (try simp only [zS,zT,reduceIte,zF]);refine hK4 _ ?_
       refine zL zO zN [] rfl ?_
       all_goals simp only [push_cast,↓zK,↓zJ,↓reduceIte,zA,zB,zC,zD,zE,zF,zG,zH,zI,reduceCtorEq]
       all_goals repeat'(first|(apply zP<;>(intro hg;(try simp only [push_cast]at hg)))|apply And.intro|(intro hg;(try simp only [push_cast]at hg)))
       all_goals first|exact gA|(exact zQ (by omega))|skip
       refine hL0 _ ⟨v+1,⟨by omega,fun j hj=>(by
         by_cases hjv:j=v
         ·subst hjv;exact⟨by omega,WP (by first|exact Or.inl (by omega)|exact Or.inr ⟨by omega,by with_reducible assumption⟩)⟩
         ·exact hall j (by omega))⟩,by omega,?_⟩
       refine zd rfl ?_ ?_ ?_<;>simp only [zl,zk,push_cast,↓zK,↓zJ,↓reduceIte,zA,zB,zC,zD,zE,zF,zG,zH,zI,reduceCtorEq]
       done)
     |(
       refine zM fun K hK=> ?_
       refine zL zO zN [] rfl ?_
       all_goals simp only [push_cast,↓zK,↓zJ,↓reduceIte,zA,zB,zC,zD,zE,zF,zG,zH,zI,reduceCtorEq]
       all_goals repeat'(first|(apply zP<;>(intro hg;(try simp only [push_cast]at hg)))|apply And.intro|(intro hg;(try simp only [push_cast]at hg)))
       all_goals first|exact gA|(exact zQ (by omega))|skip
       all_goals first|(refine hK _ ?_;clear hK K)|(simp only [push_cast];done)
       refine zc ?_
       (try simp only [zS,zT])
       refine⟨Or.inl rfl,?_⟩
       simp only [zh,push_cast,↓zK,↓zJ,↓reduceIte,zA,zB,zC,zD,zE,zF,zG,zH,zI,reduceCtorEq]
       symm
       exact Xr (jl (v:=v) (by omega) (WO (by omega) (by first|exact Or.inl (by omega)|exact Or.inr (by with_reducible assumption))))
       done)
  ·
   refine zr ?_
   (try simp only [zS,zT,reduceIte,zF]);refine hK2 _ ?_
   refine zM fun K hK=> ?_
   refine zL zO zN [] rfl ?_
   all_goals simp only [push_cast,↓zK,↓zJ,↓reduceIte,zA,zB,zC,zD,zE,zF,zG,zH,zI,reduceCtorEq]
   all_goals repeat'(first|(apply zP<;>(intro hg;(try simp only [push_cast]at hg)))|apply And.intro|(intro hg;(try simp only [push_cast]at hg)))
   all_goals first|exact gA|(exact zQ (by omega))|skip
   all_goals first|(refine hK _ ?_;clear hK K)|(simp only [push_cast];done)
   refine zc ?_
   (try simp only [zS,zT])
   refine⟨Or.inl rfl,?_⟩
   simp only [zh,push_cast,↓zK,↓zJ,↓reduceIte,zA,zB,zC,zD,zE,zF,zG,zH,zI,reduceCtorEq]
   symm
   exact Jr (by omega) (Jv (by omega) fun j hj=>(hall j (by omega)).2) fun j hj=>(hall j (by omega)).1
set_option maxRecDepth 20000 in
set_option maxHeartbeats 4000000 in
theorem kV (a:Ar)(ha:a.Ln 1048576)(hnl:a.next.length=a.owner.length)(m:Me)(hm:m.Ln 1048576):Fn Try.prog tyT 68 [.agg (dAr a), .agg (dMe m)] [.c (.bool (vU a m))]:=by
 have hmr: ∀s,(gl m.next s).length≤1048576:=fun s=>wW hm.next s
 have hmc: ∀s,(gl m.choice s).length≤1048576:=fun s=>wW hm.choice s
 have hm1:=hm.next.1
 have hm2:=hm.choice.1
 have hno:=ha.owner
 unfold LnI at hno
 have hP:=fun s=>zAC a ha hnl 0 (gl m.choice s) (hmc s)
 unfold dAr at hP
 unfold dAr dMe
 refine yT (fn:=Try.f68) (ts:= [4]) Try.func68 (by kernel_rfl) rfl rfl (by rw [Try.ntmps68];exact Nat.le_of_ble_eq_true rfl) rfl (by simp only [szA,List.mem_cons,List.not_mem_nil,or_false,forall_eq_or_imp,forall_eq,VT.cells,szL];try decide) ?_
 rw [Try.ntmps68]
 simp only [push_cast,↓zK,↓zJ,↓reduceIte,zA,zB,zC,zD,zE,zF,zG,zH,zI,reduceCtorEq]
 refine zM fun K hK=> ?_
 refine zL zO zN [] rfl ?_
 all_goals simp only [push_cast,↓zK,↓zJ,↓reduceIte,zA,zB,zC,zD,zE,zF,zG,zH,zI,reduceCtorEq]
 all_goals repeat'(first|(apply zP<;>(intro hg;(try simp only [push_cast]at hg)))|apply And.intro|(intro hg;(try simp only [push_cast]at hg)))
 all_goals first|exact gA|(exact zQ (by omega))|skip
 all_goals first|(refine hK _ ?_;clear hK K)|(simp only [push_cast];done)
 refine zM fun K hK=> ?_
 refine zL zO zN [] rfl ?_
 all_goals simp only [push_cast,↓zK,↓zJ,↓reduceIte,zA,zB,zC,zD,zE,zF,zG,zH,zI,reduceCtorEq]
 all_goals repeat'(first|(apply zP<;>(intro hg;(try simp only [push_cast]at hg)))|apply And.intro|(intro hg;(try simp only [push_cast]at hg)))
 all_goals first|exact gA|(exact zQ (by omega))|skip
 all_goals first|(refine hK _ ?_;clear hK K)|(simp only [push_cast];done)
 refine zM fun K1 hK1=> ?_
 refine zM fun K hK=> ?_
 refine zp false zO zN ?_ rfl ?_
 ·kernel_rfl
 all_goals simp only [push_cast,↓zK,↓zJ,↓reduceIte,zA,zB,zC,zD,zE,zF,zG,zH,zI,reduceCtorEq]
 all_goals repeat'(first|(apply zP<;>(intro hg;(try simp only [push_cast]at hg)))|apply And.intro|(intro hg;(try simp only [push_cast]at hg)))
 all_goals first|exact gA|(exact zQ (by omega))|skip
 all_goals first|(refine hK _ ?_;clear hK K)|(simp only [push_cast];done)
 all_goals refine zU rfl (fun hc=> ?_) (fun hc=> ?_)
 all_goals(first|(cases hc;done)|skip)
 all_goals(try simp only [push_cast]at hc)
 all_goals try(
   refine zM fun K hK=> ?_
   refine zL zO zN [] rfl ?_
   all_goals simp only [push_cast,↓zK,↓zJ,↓reduceIte,zA,zB,zC,zD,zE,zF,zG,zH,zI,reduceCtorEq]
   all_goals repeat'(first|(apply zP<;>(intro hg;(try simp only [push_cast]at hg)))|apply And.intro|(intro hg;(try simp only [push_cast]at hg)))
   all_goals first|exact gA|(exact zQ (by omega))|skip
   all_goals first|(refine hK _ ?_;clear hK K)|(simp only [push_cast];done)
   refine zc ?_
   (try simp only [zS,zT])
   refine⟨Or.inl rfl,?_⟩
   simp only [zh,push_cast,↓zK,↓zJ,↓reduceIte,zA,zB,zC,zD,zE,zF,zG,zH,zI,reduceCtorEq]
   symm
   exact jg (by omega)
   done)
 refine zV ?_
 (try simp only [zS,zT,reduceIte,zF]);refine hK1 _ ?_
 refine zM fun K2 hK2=> ?_
 refine zM fun K hK=> ?_
 refine zL zO zN [] rfl ?_
 all_goals simp only [push_cast,↓zK,↓zJ,↓reduceIte,zA,zB,zC,zD,zE,zF,zG,zH,zI,reduceCtorEq]
 all_goals repeat'(first|(apply zP<;>(intro hg;(try simp only [push_cast]at hg)))|apply And.intro|(intro hg;(try simp only [push_cast]at hg)))
 all_goals first|exact gA|(exact zQ (by omega))|skip
 all_goals first|(refine hK _ ?_;clear hK K)|(simp only [push_cast];done)
 refine zZ ?_
 refine zo [4,6,7,9,15,19,31,32,33,34,35,36,37,38,39,40,41,42,43,44,45,46,47,48,49,50,51,52,53,54,55,56,57,58,59,60,61,62,63,64,65,66] [] (fun(s:Nat)=> [(31, .int .i64 s)]) (fun s=> []) (fun s=> []) (fun s=>s≤m.next.length∧∀j,j<s→qL a (gl m.next j) (gl m.choice j) m.next.length=true) (fun s=>m.next.length - s) 0 ?_ ⟨by omega,fun j hj=>by omega⟩ ?_
 ·
  refine zd rfl ?_ ?_ ?_<;>simp only [zl,zk,push_cast,↓zK,↓zJ,↓reduceIte,zA,zB,zC,zD,zE,zF,zG,zH,zI,reduceCtorEq]
 ·rintro s ⟨hs,hall⟩ KL0 hL0
  have hrs:=hmr s
  have hcs:=hmc s
  simp only [push_cast,↓zK,↓zJ,↓reduceIte,zA,zB,zC,zD,zE,zF,zG,zH,zI,reduceCtorEq]
  refine zM fun K hK=> ?_
  refine zL zO zN [] rfl ?_
  all_goals simp only [push_cast,↓zK,↓zJ,↓reduceIte,zA,zB,zC,zD,zE,zF,zG,zH,zI,reduceCtorEq]
  all_goals repeat'(first|(apply zP<;>(intro hg;(try simp only [push_cast]at hg)))|apply And.intro|(intro hg;(try simp only [push_cast]at hg)))
  all_goals first|exact gA|(exact zQ (by omega))|skip
  all_goals first|(refine hK _ ?_;clear hK K)|(simp only [push_cast];done)
  refine zM fun K3 hK3=> ?_
  refine zU rfl (fun hc=> ?_) (fun hc=> ?_)<;>(try simp only [push_cast]at hc)
  ·
   refine zV ?_
   (try simp only [zS,zT,reduceIte,zF]);refine hK3 _ ?_
   refine zM fun K4 hK4=> ?_
   refine zZ ?_
   refine zM fun K hK=> ?_
   refine zL zO zN [] rfl ?_
   all_goals simp only [push_cast,↓zK,↓zJ,↓reduceIte,zA,zB,zC,zD,zE,zF,zG,zH,zI,reduceCtorEq]
   all_goals repeat'(first|(apply zP<;>(intro hg;(try simp only [push_cast]at hg)))|apply And.intro|(intro hg;(try simp only [push_cast]at hg)))
   all_goals first|exact gA|(exact zQ (by omega))|skip
   all_goals first|(refine hK _ ?_;clear hK K)|(simp only [push_cast];done)
   refine zM fun K5 hK5=> ?_
   refine zM fun K hK=> ?_
   refine yN false zO zN xM ?_ rfl ?_
   ·kernel_rfl
   intro E hE
   all_goals refine XE 14 (by decide) fun K9 hK9=> ?_
   all_goals simp only [push_cast,↓zK,↓zJ,↓reduceIte,zA,zB,zC,zD,zE,zF,zG,zH,zI,reduceCtorEq]
   all_goals repeat'(first|(apply zP<;>(intro hg;(try simp only [push_cast]at hg)))|(refine⟨_,hP s,?_⟩;simp only [push_cast,↓zK,↓zJ,↓reduceIte,zA,zB,zC,zD,zE,zF,zG,zH,zI,reduceCtorEq])|apply And.intro|(intro hg;(try simp only [push_cast]at hg)))
   all_goals first|exact gA|(exact zQ (by omega))|skip
   all_goals first|(refine hK9 _ _ ?_;clear hK9 K9)|(simp only [push_cast];done)
   all_goals simp only [push_cast,↓zK,↓zJ,↓reduceIte,zA,zB,zC,zD,zE,zF,zG,zH,zI,reduceCtorEq]
   all_goals repeat'(first|(apply zP<;>(intro hg;(try simp only [push_cast]at hg)))|(refine⟨_,hP s,?_⟩;simp only [push_cast,↓zK,↓zJ,↓reduceIte,zA,zB,zC,zD,zE,zF,zG,zH,zI,reduceCtorEq])|apply And.intro|(intro hg;(try simp only [push_cast]at hg)))
   all_goals first|exact gA|(refine hE _ _ ?_ ?_;kernel_rfl)|(exact zQ (by omega))|skip
   all_goals clear hE E
   all_goals first|(refine hK _ ?_;clear hK K)|(simp only [push_cast];done)
   all_goals refine zU rfl (fun hc=> ?_) (fun hc=> ?_)
   all_goals(first|(cases hc;done)|skip)
   all_goals(try simp only [push_cast]at hc)
   all_goals first
    |(
      refine zV ?_
      (try simp only [zS,zT,reduceIte,zF]);refine hK5 _ ?_
      refine zM fun K hK=> ?_
      refine zL zO zN [] rfl ?_
      all_goals simp only [push_cast,↓zK,↓zJ,↓reduceIte,zA,zB,zC,zD,zE,zF,zG,zH,zI,reduceCtorEq]
      all_goals repeat'(first|(apply zP<;>(intro hg;(try simp only [push_cast]at hg)))|apply And.intro|(intro hg;(try simp only [push_cast]at hg)))
      all_goals first|exact gA|(exact zQ (by omega))|skip
      all_goals first|(refine hK _ ?_;clear hK K)|(simp only [push_cast];done)
      refine zZ ?_
      refine zo [4,9,15,19,42,54,55,56,57,58,59,60,61,62,63,64,65] [] (fun(k:Nat)=> [(54, .int .i64 k)]) (fun k=> []) (fun k=> []) (fun k=>k≤(gl m.next s).length∧∀j,j<k→0≤gi (gl m.next s) j∧gi (gl m.next s) j<m.next.length) (fun k=>(gl m.next s).length - k) 0 ?_ ⟨by omega,fun j hj=>by omega⟩ ?_
      ·
       refine zd rfl ?_ ?_ ?_<;>simp only [zl,zk,push_cast,↓zK,↓zJ,↓reduceIte,zA,zB,zC,zD,zE,zF,zG,zH,zI,reduceCtorEq]
      ·rintro k ⟨hk,hall2⟩ KL1 hL1
       simp only [push_cast,↓zK,↓zJ,↓reduceIte,zA,zB,zC,zD,zE,zF,zG,zH,zI,reduceCtorEq]
       refine zM fun K hK=> ?_
       refine zL zO zN [] rfl ?_
       all_goals simp only [push_cast,↓zK,↓zJ,↓reduceIte,zA,zB,zC,zD,zE,zF,zG,zH,zI,reduceCtorEq]
       all_goals repeat'(first|(apply zP<;>(intro hg;(try simp only [push_cast]at hg)))|apply And.intro|(intro hg;(try simp only [push_cast]at hg)))
       all_goals first|exact gA|(exact zQ (by omega))|skip
       all_goals first|(refine hK _ ?_;clear hK K)|(simp only [push_cast];done)
       refine zM fun K6 hK6=> ?_
       refine zU rfl (fun hc=> ?_) (fun hc=> ?_)<;>(try simp only [push_cast]at hc)
       ·
        refine zV ?_
        (try simp only [zS,zT,reduceIte,zF]);refine hK6 _ ?_
        refine zM fun K7 hK7=> ?_
        refine zZ ?_
        refine zM fun K hK=> ?_
        refine zL zO zN [] rfl ?_
        all_goals simp only [push_cast,↓zK,↓zJ,↓reduceIte,zA,zB,zC,zD,zE,zF,zG,zH,zI,reduceCtorEq]
        all_goals repeat'(first|(apply zP<;>(intro hg;(try simp only [push_cast]at hg)))|apply And.intro|(intro hg;(try simp only [push_cast]at hg)))
        all_goals first|exact gA|(exact zQ (by omega))|skip
        all_goals first|(refine hK _ ?_;clear hK K)|(simp only [push_cast];done)
        refine zM fun K hK=> ?_
        refine zp false zO zN ?_ rfl ?_
        ·kernel_rfl
        all_goals simp only [push_cast,↓zK,↓zJ,↓reduceIte,zA,zB,zC,zD,zE,zF,zG,zH,zI,reduceCtorEq]
        all_goals repeat'(first|(apply zP<;>(intro hg;(try simp only [push_cast]at hg)))|apply And.intro|(intro hg;(try simp only [push_cast]at hg)))
        all_goals first|exact gA|(exact zQ (by omega))|skip
        all_goals first|(refine hK _ ?_;clear hK K)|(simp only [push_cast];done)
        all_goals refine zU rfl (fun hc=> ?_) (fun hc=> ?_)
        all_goals(first|(cases hc;done)|skip)
        all_goals(try simp only [push_cast]at hc)
        all_goals try(
          refine zM fun K hK=> ?_
          refine zL zO zN [] rfl ?_
          all_goals simp only [push_cast,↓zK,↓zJ,↓reduceIte,zA,zB,zC,zD,zE,zF,zG,zH,zI,reduceCtorEq]
          all_goals repeat'(first|(apply zP<;>(intro hg;(try simp only [push_cast]at hg)))|apply And.intro|(intro hg;(try simp only [push_cast]at hg)))
          all_goals first|exact gA|(exact zQ (by omega))|skip
          all_goals first|(refine hK _ ?_;clear hK K)|(simp only [push_cast];done)
          refine zc ?_
          (try simp only [zS,zT])
          refine⟨Or.inl rfl,?_⟩
          simp only [zh,push_cast,↓zK,↓zJ,↓reduceIte,zA,zB,zC,zD,zE,zF,zG,zH,zI,reduceCtorEq]
          symm
          exact VM (s:=s) (by omega) (Jq (v:=k) (by omega) (by omega))
          done)
        refine zV ?_
        (try simp only [zS,zT,reduceIte,zF]);refine hK7 _ ?_
        refine zL zO zN [] rfl ?_
        all_goals simp only [push_cast,↓zK,↓zJ,↓reduceIte,zA,zB,zC,zD,zE,zF,zG,zH,zI,reduceCtorEq]
        all_goals repeat'(first|(apply zP<;>(intro hg;(try simp only [push_cast]at hg)))|apply And.intro|(intro hg;(try simp only [push_cast]at hg)))
        all_goals first|exact gA|(exact zQ (by omega))|skip
        refine hL1 _ ⟨k+1,⟨by omega,fun j hj=>(by
          by_cases hjk:j=k
          ·subst hjk;omega
          ·exact hall2 j (by omega))⟩,by omega,?_⟩
        refine zd rfl ?_ ?_ ?_<;>simp only [zl,zk,push_cast,↓zK,↓zJ,↓reduceIte,zA,zB,zC,zD,zE,zF,zG,zH,zI,reduceCtorEq]
       ·
        refine zr ?_
        (try simp only [zS,zT,reduceIte,zF]);refine hK4 _ ?_
        refine zL zO zN [] rfl ?_
        all_goals simp only [push_cast,↓zK,↓zJ,↓reduceIte,zA,zB,zC,zD,zE,zF,zG,zH,zI,reduceCtorEq]
        all_goals repeat'(first|(apply zP<;>(intro hg;(try simp only [push_cast]at hg)))|apply And.intro|(intro hg;(try simp only [push_cast]at hg)))
        all_goals first|exact gA|(exact zQ (by omega))|skip
        refine hL0 _ ⟨s+1,⟨by omega,fun j hj=>(by
          by_cases hjs:j=s
          ·subst hjs;exact Jr (by omega) (by with_reducible assumption) fun v hv=>hall2 v (by omega)
          ·exact hall j (by omega))⟩,by omega,?_⟩
        refine zd rfl ?_ ?_ ?_<;>simp only [zl,zk,push_cast,↓zK,↓zJ,↓reduceIte,zA,zB,zC,zD,zE,zF,zG,zH,zI,reduceCtorEq]
      done)
    |(
      refine zM fun K hK=> ?_
      refine zL zO zN [] rfl ?_
      all_goals simp only [push_cast,↓zK,↓zJ,↓reduceIte,zA,zB,zC,zD,zE,zF,zG,zH,zI,reduceCtorEq]
      all_goals repeat'(first|(apply zP<;>(intro hg;(try simp only [push_cast]at hg)))|apply And.intro|(intro hg;(try simp only [push_cast]at hg)))
      all_goals first|exact gA|(exact zQ (by omega))|skip
      all_goals first|(refine hK _ ?_;clear hK K)|(simp only [push_cast];done)
      refine zc ?_
      (try simp only [zS,zT])
      refine⟨Or.inl rfl,?_⟩
      simp only [zh,push_cast,↓zK,↓zJ,↓reduceIte,zA,zB,zC,zD,zE,zF,zG,zH,zI,reduceCtorEq]
      symm
      refine VM (s:=s) (by omega) ?_
      first|exact Jp (by omega)|exact Xr (by with_reducible assumption)
      done)
  ·
   refine zr ?_
   (try simp only [zS,zT,reduceIte,zF]);refine hK2 _ ?_
   refine zM fun K hK=> ?_
   refine zL zO zN [] rfl ?_
   all_goals simp only [push_cast,↓zK,↓zJ,↓reduceIte,zA,zB,zC,zD,zE,zF,zG,zH,zI,reduceCtorEq]
   all_goals repeat'(first|(apply zP<;>(intro hg;(try simp only [push_cast]at hg)))|apply And.intro|(intro hg;(try simp only [push_cast]at hg)))
   all_goals first|exact gA|(exact zQ (by omega))|skip
   all_goals first|(refine hK _ ?_;clear hK K)|(simp only [push_cast];done)
   refine zc ?_
   (try simp only [zS,zT])
   refine⟨Or.inl rfl,?_⟩
   simp only [zh,push_cast,↓zK,↓zJ,↓reduceIte,zA,zB,zC,zD,zE,zF,zG,zH,zI,reduceCtorEq]
   symm
   exact jh (by omega) fun j hj=>hall j (by omega)
set_option maxRecDepth 20000 in
set_option maxHeartbeats 4000000 in
theorem Kf (a:Ar)(ha:a.Ln 1048576)(m:Me)(hm:m.Ln 1048576):Fn Try.prog tyT 32 [.agg (dAr a), .agg (dMe m)] [.c (.bool (yn a&&vU a m))]:=by
 have hmr: ∀s,(gl m.next s).length≤1048576:=fun s=>wW hm.next s
 have hmc: ∀s,(gl m.choice s).length≤1048576:=fun s=>wW hm.choice s
 have hm1:=hm.next.1
 have hm2:=hm.choice.1
 have hno:=ha.owner
 unfold LnI at hno
 have hA:=kG a ha
 have hR:=fun h k hk s=>zAF a ha h (gl m.next s) (gl m.choice s) (hmr s) (hmc s) k hk
 unfold dAr at hA hR
 unfold dAr dMe
 refine yT (fn:=Try.f32) (ts:= [4]) Try.func32 (by kernel_rfl) rfl rfl (by rw [Try.ntmps32];exact Nat.le_of_ble_eq_true rfl) rfl (by simp only [szA,List.mem_cons,List.not_mem_nil,or_false,forall_eq_or_imp,forall_eq,VT.cells,szL];try decide) ?_
 rw [Try.ntmps32]
 simp only [push_cast,↓zK,↓zJ,↓reduceIte,zA,zB,zC,zD,zE,zF,zG,zH,zI,reduceCtorEq]
 refine zM fun K hK=> ?_
 refine zL zO zN [] rfl ?_
 all_goals simp only [push_cast,↓zK,↓zJ,↓reduceIte,zA,zB,zC,zD,zE,zF,zG,zH,zI,reduceCtorEq]
 all_goals repeat'(first|(apply zP<;>(intro hg;(try simp only [push_cast]at hg)))|apply And.intro|(intro hg;(try simp only [push_cast]at hg)))
 all_goals first|exact gA|(exact zQ (by omega))|skip
 all_goals first|(refine hK _ ?_;clear hK K)|(simp only [push_cast];done)
 refine zM fun K hK=> ?_
 refine zL zO zN [] rfl ?_
 all_goals simp only [push_cast,↓zK,↓zJ,↓reduceIte,zA,zB,zC,zD,zE,zF,zG,zH,zI,reduceCtorEq]
 all_goals repeat'(first|(apply zP<;>(intro hg;(try simp only [push_cast]at hg)))|apply And.intro|(intro hg;(try simp only [push_cast]at hg)))
 all_goals first|exact gA|(exact zQ (by omega))|skip
 all_goals first|(refine hK _ ?_;clear hK K)|(simp only [push_cast];done)
 refine zM fun K1 hK1=> ?_
 refine zM fun K hK=> ?_
 refine zp false zO zN ?_ rfl ?_
 ·kernel_rfl
 all_goals refine xI 2 fun K9 hK9=> ?_
 all_goals simp only [push_cast,↓zK,↓zJ,↓reduceIte,zA,zB,zC,zD,zE,zF,zG,zH,zI,reduceCtorEq]
 all_goals repeat'(first|(apply zP<;>(intro hg;(try simp only [push_cast]at hg)))|(refine⟨_,hA,?_⟩;simp only [push_cast,↓zK,↓zJ,↓reduceIte,zA,zB,zC,zD,zE,zF,zG,zH,zI,reduceCtorEq])|(refine⟨_,yX _ _ _,?_⟩;simp only [push_cast,↓zK,↓zJ,↓reduceIte,zA,zB,zC,zD,zE,zF,zG,zH,zI,reduceCtorEq])|apply And.intro|(intro hg;(try simp only [push_cast]at hg)))
 all_goals first|exact gA|(exact zQ (by omega))|skip
 all_goals first|(refine hK9 _ ?_;clear hK9 K9)|(simp only [push_cast];done)
 all_goals refine xI 4 fun K9 hK9=> ?_
 all_goals simp only [push_cast,↓zK,↓zJ,↓reduceIte,zA,zB,zC,zD,zE,zF,zG,zH,zI,reduceCtorEq]
 all_goals repeat'(first|(apply zP<;>(intro hg;(try simp only [push_cast]at hg)))|(refine⟨_,hA,?_⟩;simp only [push_cast,↓zK,↓zJ,↓reduceIte,zA,zB,zC,zD,zE,zF,zG,zH,zI,reduceCtorEq])|(refine⟨_,yX _ _ _,?_⟩;simp only [push_cast,↓zK,↓zJ,↓reduceIte,zA,zB,zC,zD,zE,zF,zG,zH,zI,reduceCtorEq])|apply And.intro|(intro hg;(try simp only [push_cast]at hg)))
 all_goals first|exact gA|(exact zQ (by omega))|skip
 all_goals first|(refine hK9 _ ?_;clear hK9 K9)|(simp only [push_cast];done)
 all_goals simp only [push_cast,↓zK,↓zJ,↓reduceIte,zA,zB,zC,zD,zE,zF,zG,zH,zI,reduceCtorEq]
 all_goals repeat'(first|(apply zP<;>(intro hg;(try simp only [push_cast]at hg)))|(refine⟨_,hA,?_⟩;simp only [push_cast,↓zK,↓zJ,↓reduceIte,zA,zB,zC,zD,zE,zF,zG,zH,zI,reduceCtorEq])|(refine⟨_,yX _ _ _,?_⟩;simp only [push_cast,↓zK,↓zJ,↓reduceIte,zA,zB,zC,zD,zE,zF,zG,zH,zI,reduceCtorEq])|apply And.intro|(intro hg;(try simp only [push_cast]at hg)))
 all_goals first|exact gA|(exact zQ (by omega))|skip
 all_goals first|(refine hK _ ?_;clear hK K)|(simp only [push_cast];done)
 all_goals refine zU rfl (fun hc=> ?_) (fun hc=> ?_)
 all_goals(first|(cases hc;done)|skip)
 all_goals(try simp only [push_cast]at hc)
 all_goals try(
   refine zM fun K hK=> ?_
   refine zL zO zN [] rfl ?_
   all_goals simp only [push_cast,↓zK,↓zJ,↓reduceIte,zA,zB,zC,zD,zE,zF,zG,zH,zI,reduceCtorEq]
   all_goals repeat'(first|(apply zP<;>(intro hg;(try simp only [push_cast]at hg)))|apply And.intro|(intro hg;(try simp only [push_cast]at hg)))
   all_goals first|exact gA|(exact zQ (by omega))|skip
   all_goals first|(refine hK _ ?_;clear hK K)|(simp only [push_cast];done)
   refine zc ?_
   (try simp only [zS,zT])
   refine⟨Or.inl rfl,?_⟩
   simp only [zh,push_cast,↓zK,↓zJ,↓reduceIte,zA,zB,zC,zD,zE,zF,zG,zH,zI,reduceCtorEq]
   symm
   first|(rw [show yn a=false from by with_reducible assumption];rfl)|(rw [jg (by omega),Bool.and_false])
   done)
 refine zV ?_
 (try simp only [zS,zT,reduceIte,zF]);refine hK1 _ ?_
 refine zM fun K2 hK2=> ?_
 have hok:yn a=true:=by with_reducible assumption
 refine zM fun K hK=> ?_
 refine zL zO zN [] rfl ?_
 all_goals simp only [push_cast,↓zK,↓zJ,↓reduceIte,zA,zB,zC,zD,zE,zF,zG,zH,zI,reduceCtorEq]
 all_goals repeat'(first|(apply zP<;>(intro hg;(try simp only [push_cast]at hg)))|apply And.intro|(intro hg;(try simp only [push_cast]at hg)))
 all_goals first|exact gA|(exact zQ (by omega))|skip
 all_goals first|(refine hK _ ?_;clear hK K)|(simp only [push_cast];done)
 refine zZ ?_
 refine zo [4,6,13,18,27,28,29,30,31,32,33,34,35,36,37,38,39,40,41,42,43,44,45] [] (fun(s:Nat)=> [(6, .int .i64 s)]) (fun s=> []) (fun s=> []) (fun s=>s≤m.next.length∧∀j,j<s→qL a (gl m.next j) (gl m.choice j) m.next.length=true) (fun s=>m.next.length - s) 0 ?_ ⟨by omega,fun j hj=>by omega⟩ ?_
 ·
  refine zd rfl ?_ ?_ ?_<;>simp only [zl,zk,push_cast,↓zK,↓zJ,↓reduceIte,zA,zB,zC,zD,zE,zF,zG,zH,zI,reduceCtorEq]
 ·rintro s ⟨hs,hall⟩ KL0 hL0
  have hrs:=hmr s
  have hcs:=hmc s
  simp only [push_cast,↓zK,↓zJ,↓reduceIte,zA,zB,zC,zD,zE,zF,zG,zH,zI,reduceCtorEq]
  refine zM fun K3 hK3=> ?_
  refine zM fun K hK=> ?_
  refine zL zO zN [] rfl ?_
  all_goals simp only [push_cast,↓zK,↓zJ,↓reduceIte,zA,zB,zC,zD,zE,zF,zG,zH,zI,reduceCtorEq]
  all_goals repeat'(first|(apply zP<;>(intro hg;(try simp only [push_cast]at hg)))|apply And.intro|(intro hg;(try simp only [push_cast]at hg)))
  all_goals first|exact gA|(exact zQ (by omega))|skip
  all_goals first|(refine hK _ ?_;clear hK K)|(simp only [push_cast];done)
  refine zU rfl (fun hc=> ?_) (fun hc=> ?_)<;>(try simp only [push_cast]at hc)
  ·
   refine zV ?_
   (try simp only [zS,zT,reduceIte,zF]);refine hK3 _ ?_
   refine zM fun K4 hK4=> ?_
   refine zZ ?_
   refine zM fun K hK=> ?_
   refine yN false zO zN xM ?_ rfl ?_
   ·kernel_rfl
   intro E hE
   all_goals refine XE 13 (by decide) fun K9 hK9=> ?_
   all_goals simp only [push_cast,↓zK,↓zJ,↓reduceIte,zA,zB,zC,zD,zE,zF,zG,zH,zI,reduceCtorEq]
   all_goals repeat'(first|(apply zP<;>(intro hg;(try simp only [push_cast]at hg)))|(refine⟨_,hR (yc hok).2.2 _ (by omega) s,?_⟩;simp only [push_cast,↓zK,↓zJ,↓reduceIte,zA,zB,zC,zD,zE,zF,zG,zH,zI,reduceCtorEq])|apply And.intro|(intro hg;(try simp only [push_cast]at hg)))
   all_goals first|exact gA|(exact zQ (by omega))|skip
   all_goals first|(refine hK9 _ _ ?_;clear hK9 K9)|(simp only [push_cast];done)
   all_goals simp only [push_cast,↓zK,↓zJ,↓reduceIte,zA,zB,zC,zD,zE,zF,zG,zH,zI,reduceCtorEq]
   all_goals repeat'(first|(apply zP<;>(intro hg;(try simp only [push_cast]at hg)))|(refine⟨_,hR (yc hok).2.2 _ (by omega) s,?_⟩;simp only [push_cast,↓zK,↓zJ,↓reduceIte,zA,zB,zC,zD,zE,zF,zG,zH,zI,reduceCtorEq])|apply And.intro|(intro hg;(try simp only [push_cast]at hg)))
   all_goals first|exact gA|(refine hE _ _ ?_ ?_;kernel_rfl)|(exact zQ (by omega))|skip
   all_goals clear hE E
   all_goals first|(refine hK _ ?_;clear hK K)|(simp only [push_cast];done)
   refine zU rfl (fun hc=> ?_) (fun hc=> ?_)<;>(try simp only [push_cast]at hc)
   ·
    refine zM fun K hK=> ?_
    refine zL zO zN [] rfl ?_
    all_goals simp only [push_cast,↓zK,↓zJ,↓reduceIte,zA,zB,zC,zD,zE,zF,zG,zH,zI,reduceCtorEq]
    all_goals repeat'(first|(apply zP<;>(intro hg;(try simp only [push_cast]at hg)))|apply And.intro|(intro hg;(try simp only [push_cast]at hg)))
    all_goals first|exact gA|(exact zQ (by omega))|skip
    all_goals first|(refine hK _ ?_;clear hK K)|(simp only [push_cast];done)
    refine zc ?_
    (try simp only [zS,zT])
    refine⟨Or.inl rfl,?_⟩
    simp only [zh,push_cast,↓zK,↓zJ,↓reduceIte,zA,zB,zC,zD,zE,zF,zG,zH,zI,reduceCtorEq]
    rw [VM (s:=s) (by omega) (by with_reducible assumption),Bool.and_false]
   ·
    refine zV ?_
    (try simp only [zS,zT,reduceIte,zF]);refine hK4 _ ?_
    refine zL zO zN [] rfl ?_
    all_goals simp only [push_cast,↓zK,↓zJ,↓reduceIte,zA,zB,zC,zD,zE,zF,zG,zH,zI,reduceCtorEq]
    all_goals repeat'(first|(apply zP<;>(intro hg;(try simp only [push_cast]at hg)))|apply And.intro|(intro hg;(try simp only [push_cast]at hg)))
    all_goals first|exact gA|(exact zQ (by omega))|skip
    refine hL0 _ ⟨s+1,⟨by omega,fun j hj=>(by
      by_cases hjs:j=s
      ·subst hjs;with_reducible assumption
      ·exact hall j (by omega))⟩,by omega,?_⟩
    refine zd rfl ?_ ?_ ?_<;>simp only [zl,zk,push_cast,↓zK,↓zJ,↓reduceIte,zA,zB,zC,zD,zE,zF,zG,zH,zI,reduceCtorEq]
  ·
   refine zr ?_
   (try simp only [zS,zT,reduceIte,zF]);refine hK2 _ ?_
   refine zM fun K hK=> ?_
   refine zL zO zN [] rfl ?_
   all_goals simp only [push_cast,↓zK,↓zJ,↓reduceIte,zA,zB,zC,zD,zE,zF,zG,zH,zI,reduceCtorEq]
   all_goals repeat'(first|(apply zP<;>(intro hg;(try simp only [push_cast]at hg)))|apply And.intro|(intro hg;(try simp only [push_cast]at hg)))
   all_goals first|exact gA|(exact zQ (by omega))|skip
   all_goals first|(refine hK _ ?_;clear hK K)|(simp only [push_cast];done)
   refine zc ?_
   (try simp only [zS,zT])
   refine⟨Or.inl rfl,?_⟩
   simp only [zh,push_cast,↓zK,↓zJ,↓reduceIte,zA,zB,zC,zD,zE,zF,zG,zH,zI,reduceCtorEq]
   rw [hok,jh (by omega) fun j hj=>hall j (by omega)];rfl
theorem VO : ∀(N:Nat) (l:List Nat),l.Nodup→(∀x∈l,x<N)→l.length≤N
 |0,l,_,h=>by
  cases l with
  |nil=>simp
  |cons x l=>have :=h x List.mem_cons_self;omega
 |N+1,l,hn,h=>by
  have h1:=List.length_eq_countP_add_countP (p:=fun x=>x==N) (l:=l)
  have h2:l.countP (fun x=>x==N)≤1:=List.nodup_iff_count.1 hn N
  have h4:=VO N (l.filter (fun x=> !(x==N))) (hn.filter _) fun x hx=>by
   have h5:=List.mem_filter.1 hx
   have h6:=h x h5.1
   have h7: ¬x=N:=by simpa using h5.2
   omega
  have h3:(l.filter (fun x=> !(x==N))).length=l.countP (fun x=> !(x==N)):=(List.countP_eq_length_filter ..).symm
  have h8:l.countP (fun x=>decide ¬(x==N)=true)=l.countP (fun x=> !(x==N)):=by
   congr 1
   funext x
   by_cases e:x=N<;>simp [e]
  omega
theorem vK {xs:List Int}{y:Int}{j:Nat}(h:j<xs.length+1):gi (xs++ [y]) j=if j=xs.length then y else gi xs j:=by
 by_cases e:j=xs.length
 ·subst e;rw [if_pos rfl,Zi]
 ·rw [if_neg e,we (by omega)]
def goP (a:Ar)(even odd:List Int)(v:Int):Int:=if gi a.owner v.toNat=0 then gi even v.toNat else gi odd v.toNat
structure Kg (a:Ar)(even odd:List Int)(v0:Int)(met:List Int)(v:Int):Prop where
 rg: ∀j,j<met.length→0≤gi met j∧gi met j<a.owner.length
 ne: ∀j,j<met.length→∀i,i<j→¬gi met i=gi met j
 go: ∀j,j+1<met.length→gi met (j+1)=goP a even odd (gi met j)
 last:1≤met.length→v=goP a even odd (gi met (met.length - 1))
 f0:met.length=0→v=v0
 f1:1≤met.length→gi met 0=v0
 hv:0≤v∧v<a.owner.length
theorem Kg.start {a:Ar}{even odd:List Int}{v0:Int}(h:0≤v0∧v0<a.owner.length):Kg a even odd v0 [] v0:=
 ⟨fun j hj=>by simp at hj,fun j hj=>by simp at hj,fun j hj=>by simp at hj,fun h=>by simp at h,fun _=>rfl,fun h=>by simp at h,h⟩
theorem Kg.next {a:Ar}{even odd:List Int}{v0:Int}{met:List Int}{v:Int}(h:Kg a even odd v0 met v)(hn:yL met v=false)(hg:0≤goP a even odd v∧goP a even odd v<a.owner.length):Kg a even odd v0 (met++ [v]) (goP a even odd v):=by
 have hne: ∀i,i<met.length→¬gi met i=v:=fun i hi e=>by
  have h1:v∈met:=by rw [←e];exact List.mem_of_getElem? (vJ hi)
  rw [←qX]at h1
  rw [h1]at hn
  cases hn
 have hl:(met++ [v]).length=met.length+1:=by simp
 refine⟨fun j hj=> ?_,fun j hj i hi=> ?_,fun j hj=> ?_,fun _=> ?_,fun e=>by rw [hl]at e;omega,fun _=> ?_,hg⟩
 ·rw [hl]at hj
  rw [vK hj]
  split
  ·exact h.hv
  ·exact h.rg j (by omega)
 ·rw [hl]at hj
  rw [vK hj,vK (by omega),if_neg (by omega)]
  split
  ·exact hne i (by omega)
  ·exact h.ne j (by omega) i hi
 ·rw [hl]at hj
  rw [vK (j:=j+1) (by omega),vK (j:=j) (by omega),if_neg (show ¬j=met.length by omega)]
  split
  ·have h5:=h.last (by omega)
   rw [show met.length - 1=j from by omega]at h5
   exact h5
  ·exact h.go j (by omega)
 ·rw [hl,Nat.add_sub_cancel,vK (j:=met.length) (by omega),if_pos rfl]
 ·rw [vK (by omega)]
  split
  ·exact h.f0 (by omega)
  ·exact h.f1 (by omega)
structure PlayP (a:Ar)(even odd:List Int)(v0:Int)(l:Ls):Prop where
 ok:zDk a l=true
 first:gi (XS l) 0=v0
 rg: ∀i,i≤l.stem.length+l.loop.length→0≤gi (XS l) i∧gi (XS l) i<a.owner.length
 go: ∀i,i<l.stem.length+l.loop.length→gi (XS l) (i+1)=goP a even odd (gi (XS l) i)
 last:gi (XS l) (l.stem.length+l.loop.length)=gi (XS l) l.stem.length
 pos:1≤l.loop.length
 len:l.stem.length+l.loop.length≤a.owner.length
end Go.Proofs.Ythepmdkpbjfdcaa
