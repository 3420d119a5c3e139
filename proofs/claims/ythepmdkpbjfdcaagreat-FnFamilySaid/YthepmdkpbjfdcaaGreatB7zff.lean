/- records of pairs: valid pairs; both sides -/
import Derived.Test.YthepmdkpbjfdcaaGreatB6zff
import Derived.Test.YthepmdkpbjfdcaaGreatB5zff
import Derived.Test.YthepmdkpbjfdcaaGreatB4zff
namespace Go.Proofs.YthepmdkpbjfdcaaGreat
open Nat renaming reduceMod → zA, reduceMul → zB, reduceDiv → zC, reduceAdd → zD, reduceSub → zE, reduceEqDiff → zF, reduceBEq → zG, reduceLT → zH, reduceLeDiff → zI
open Go.RowKit
set_option linter.unusedVariables false
set_option linter.unusedSimpArgs false
def wK (ps:List Pr)(n:Int)(i:Nat):Bool:=zv (gp ps i).ask n&&zv (gp ps i).give n
theorem UX {ps:List Pr}{n:Int}{i:Nat}(h:zv (gp ps i).ask n=false):wK ps n i=false:=by unfold wK;rw [h];rfl
theorem UY {ps:List Pr}{n:Int}{i:Nat}(h:zv (gp ps i).give n=false):wK ps n i=false:=by unfold wK;rw [h,Bool.and_false]
theorem JR {ps:List Pr}{n:Int}{i:Nat}(h:zv (gp ps i).ask n=true)(h2:zv (gp ps i).give n=true):wK ps n i=true:=by unfold wK;rw [h,h2];rfl
def arB (ps:List Pr)(n:Int):Bool:=decide (ps.length≤4)&&Ym ps.length (wK ps n)
def vy (ps:List Pr)(n:Int):Bool:=decide (0≤n∧n≤256)&&arB ps n
theorem un {ps:List Pr}{n:Int}{i:Nat}(hi:i<ps.length)(h:wK ps n i=false):arB ps n=false:=by unfold arB;rw [YP hi h,Bool.and_false]
theorem Uu {ps:List Pr}{n:Int}(h: ∀i,i<ps.length→wK ps n i=true):arB ps n=decide (ps.length≤4):=by unfold arB;rw [qG h,Bool.and_true]
theorem zD1 {ps:List Pr}{n:Int}(h: ¬(0≤n∧n≤256)):vy ps n=false:=by unfold vy;rw [decide_eq_false h];rfl
theorem uH {ps:List Pr}{n:Int}(h:arB ps n=false):vy ps n=false:=by unfold vy;rw [h,Bool.and_false]
theorem JV {ps:List Pr}{n:Int}(h:0≤n∧n≤256):vy ps n=arB ps n:=by unfold vy;rw [decide_eq_true h];rfl
theorem zLF {ps:List Pr}{n:Int}(h: ¬ps.length≤4):arB ps n=false:=by unfold arB;rw [decide_eq_false h];rfl
theorem VQ {ps:List Pr}{n:Int}(h:vy ps n=true):(0≤n∧n≤256)∧ps.length≤4∧∀i,i<ps.length→zv (gp ps i).ask n=true∧zv (gp ps i).give n=true:=by
 unfold vy arB at h
 simp only [Bool.and_eq_true,decide_eq_true_eq]at h
 refine⟨h.1,h.2.1,fun i hi=> ?_⟩
 have :=xl h.2.2 hi
 unfold wK at this
 rwa [Bool.and_eq_true]at this
set_option maxRecDepth 20000 in
set_option maxHeartbeats 4000000 in
theorem qS (s:List Int)(hs:s.length≤1048576)(n:Int)(hn:0≤n∧n≤256):Fn Tryz.prog tyT 62 [.c (DI s), .c (.int .i64 n)] [.c (.bool (zv s n))]:=by
 refine θH (ts:= [4]) Tryz.func62 Tryz.ntmps62 ?_
 push_cast
 refine θA ?_
 refine zL fun K hK=> ?_
 refine zc false zQ zN ?_ rfl ?_
 ·kernel_rfl
 all_goals refine zm 2 fun K9 hK9=> ?_
 all_goals push_cast
 all_goals repeat'(first|(apply zO<;>(intro hg;push_cast at hg))|(refine⟨_,xH _ _ _,?_⟩;push_cast)|(refine⟨_,xv s n hs (by omega) (by omega),?_⟩;push_cast)|apply And.intro|(intro hg;push_cast at hg))
 all_goals try exact gA
 refine hK9 _ ?_;clear hK9 K9
 all_goals refine zm 4 fun K9 hK9=> ?_
 all_goals push_cast
 all_goals repeat'(first|(apply zO<;>(intro hg;push_cast at hg))|(refine⟨_,xH _ _ _,?_⟩;push_cast)|(refine⟨_,xv s n hs (by omega) (by omega),?_⟩;push_cast)|apply And.intro|(intro hg;push_cast at hg))
 all_goals try exact gA
 refine hK9 _ ?_;clear hK9 K9
 all_goals push_cast
 all_goals repeat'(first|(apply zO<;>(intro hg;push_cast at hg))|(refine⟨_,xH _ _ _,?_⟩;push_cast)|(refine⟨_,xv s n hs (by omega) (by omega),?_⟩;push_cast)|apply And.intro|(intro hg;push_cast at hg))
 all_goals try exact gA
 refine hK _ ?_;clear hK K
 all_goals(
   refine zY ⟨Or.inl rfl,?_⟩
   push_cast [zd]
   all_goals first|rfl|omega|(symm;with_reducible assumption))
set_option maxRecDepth 20000 in
set_option maxHeartbeats 4000000 in
theorem vM (xs:List Int)(x:Int)(hl:xs.length≤1048576):Fn Tryz.prog tyT 93 [.c (DI xs), .c (.int .i64 x)] [.c (.bool (zr xs x))]:=by
 refine θH (ts:= [4]) Tryz.func93 Tryz.ntmps93 ?_
 push_cast
 refine θA ?_
 refine zL fun K1 hK1=> ?_
 refine θA ?_
 refine zV ?_
 refine zh [4,5,6,7,8,9,10,11,12,13,14,15,16,17] [] (fun(k:Nat)=> [(5, .int .i64 k)]) (fun k=> []) (fun k=> []) (fun k=>k≤xs.length∧∀j,j<k→¬gi xs j=x) (fun k=>xs.length - k) 0 ?_ ⟨by omega,fun j hj=>by omega⟩ ?_
 ·
  exact θX
 ·rintro k ⟨hk,hall⟩ KL0 hL0
  push_cast
  refine zL fun K2 hK2=> ?_
  refine θA ?_
  refine θU (fun hc=> ?_) fun hc=> ?_
  ·
   refine zW (hK2 _ ?_)
   refine zL fun K3 hK3=> ?_
   refine zV ?_
   refine θA ?_
   refine θU (fun hc=> ?_) fun hc=> ?_
   ·
    refine θA ?_
    refine zY ⟨Or.inl rfl,?_⟩
    push_cast [zd]
    have hf:qA xs x=k:=zAF (by omega) hall (by omega)
    unfold zr
    rw [hf]
    exact(decide_eq_true (by omega)).symm
   ·
    refine zW (hK3 _ ?_)
    refine θB ?_
    refine hL0 _ ⟨k+1,⟨by omega,fun j hj=>(by
      by_cases hjk:j=k
      ·subst hjk;omega
      ·exact hall j (by omega))⟩,by omega,?_⟩
    exact θX
  ·
   refine zi (hK1 _ ?_)
   refine θA ?_
   refine zY ⟨Or.inl rfl,?_⟩
   push_cast [zd]
   unfold zr
   rw [zBK (fun j hj=>hall j (by omega))]
   exact(decide_eq_false (by omega)).symm
set_option maxRecDepth 20000 in
set_option maxHeartbeats 4000000 in
theorem Vf (ps:List Pr)(ha:PLn 1048576 ps)(n:Int):Fn Tryz.prog tyT 66 [.c (.lst 93 (dII (ilv ps))), .c (.int .i64 n)] [.c (.bool (arB ps n))]:=by
 have hl:=ha.1
 have hg:=fun k=>Xy ha k
 have hga: ∀k,(gp ps k).ask.length≤1048576:=fun k=>(hg k).ask
 have hgg: ∀k,(gp ps k).give.length≤1048576:=fun k=>(hg k).give
 have hli:=xV ps
 refine θH (ts:= [4]) Tryz.func66 Tryz.ntmps66 ?_
 push_cast [↓zK,↓zJ]
 refine θA ?_
 refine zL fun K1 hK1=> ?_
 refine θA ?_
 refine zV ?_
 refine zh [4,6,9,10,11,12,13,14,15,16,17,18,19,20,21,22,23,24,25] [] (fun(k:Nat)=> [(9, .int .i64 k)]) (fun k=> []) (fun k=> []) (fun k=>k≤ps.length∧∀j,j<k→wK ps n j=true) (fun k=>ps.length - k) 0 ?_ ⟨by omega,fun j hj=>by omega⟩ ?_
 ·
  exact θX
 ·rintro k ⟨hk,hall⟩ KL0 hL0
  push_cast [↓zK,↓zJ]
  refine θA ?_
  refine zL fun K2 hK2=> ?_
  refine θU (fun hc=> ?_) fun hc=> ?_
  ·
   refine zW (hK2 _ ?_)
   refine zL fun K3 hK3=> ?_
   refine zV ?_
   refine θA ?_
   refine zL fun K hK=> ?_
   refine zc false zQ zN ?_ rfl ?_
   ·kernel_rfl
   all_goals refine zm 4 fun K9 hK9=> ?_
   all_goals push_cast [↓zK,↓zJ]
   all_goals repeat'(first|(apply zO<;>(intro hg;(try push_cast at hg)))|(refine⟨_,yP (gp ps k).ask n (hga k),?_⟩;push_cast [↓zK,↓zJ])|(refine⟨_,yP (gp ps k).give n (hgg k),?_⟩;push_cast [↓zK,↓zJ])|apply And.intro|(intro hg;(try push_cast at hg)))
   all_goals first|exact gA|(exact zP (by simp only [push_cast];omega))|(exact zP (by omega))|skip
   all_goals(refine hK9 _ ?_;clear hK9 K9)
   all_goals refine zm 6 fun K9 hK9=> ?_
   all_goals push_cast [↓zK,↓zJ]
   all_goals repeat'(first|(apply zO<;>(intro hg;(try push_cast at hg)))|(refine⟨_,yP (gp ps k).ask n (hga k),?_⟩;push_cast [↓zK,↓zJ])|(refine⟨_,yP (gp ps k).give n (hgg k),?_⟩;push_cast [↓zK,↓zJ])|apply And.intro|(intro hg;(try push_cast at hg)))
   all_goals first|exact gA|(exact zP (by simp only [push_cast];omega))|(exact zP (by omega))|skip
   all_goals(refine hK9 _ ?_;clear hK9 K9)
   all_goals push_cast [↓zK,↓zJ]
   all_goals repeat'(first|(apply zO<;>(intro hg;(try push_cast at hg)))|(refine⟨_,yP (gp ps k).ask n (hga k),?_⟩;push_cast [↓zK,↓zJ])|(refine⟨_,yP (gp ps k).give n (hgg k),?_⟩;push_cast [↓zK,↓zJ])|apply And.intro|(intro hg;(try push_cast at hg)))
   all_goals first|exact gA|(exact zP (by simp only [push_cast];omega))|(exact zP (by omega))|skip
   all_goals(refine hK _ ?_;clear hK K)
   all_goals refine zU rfl (fun hc=> ?_) (fun hc=> ?_)
   all_goals(first|(cases hc;done)|skip)
   all_goals(try simp only [push_cast]at hc)
   all_goals try(
     refine θA ?_
     refine zY ⟨Or.inl rfl,?_⟩
     push_cast [zd,↓zK,↓zJ]
     first|exact(un (i:=k) (by omega) (UX (by with_reducible assumption))).symm|exact(un (i:=k) (by omega) (UY (by with_reducible assumption))).symm
     done)
   refine zW (hK3 _ ?_)
   refine θB ?_
   refine hL0 _ ⟨k+1,⟨by omega,fun j hj=>(by
     by_cases hjk:j=k
     ·subst hjk;exact JR (by with_reducible assumption) (by with_reducible assumption)
     ·exact hall j (by omega))⟩,by omega,?_⟩
   exact θX
  ·
   refine zi ?_
   have hkk:k=ps.length:=by omega
   subst hkk
   refine hK1 _ ?_
   refine θA ?_
   refine zY ⟨Or.inl rfl,?_⟩
   push_cast [zd,↓zK,↓zJ]
   rw [Uu hall]
   all_goals first|rfl|(simp;done)|(refine decide_eq_decide.2 ?_;omega)|(symm;refine decide_eq_decide.2 ?_;omega)
set_option maxRecDepth 20000 in
set_option maxHeartbeats 4000000 in
theorem zEc (ps:List Pr)(ha:PLn 1048576 ps)(n:Int):Fn Tryz.prog tyT 90 [.c (.lst 93 (dII (ilv ps))), .c (.int .i64 n)] [.c (.bool (vy ps n))]:=by
 have hl:=ha.1
 have hg:=fun k=>Xy ha k
 have hga: ∀k,(gp ps k).ask.length≤1048576:=fun k=>(hg k).ask
 have hgg: ∀k,(gp ps k).give.length≤1048576:=fun k=>(hg k).give
 have hli:=xV ps
 refine θH (ts:= [4]) Tryz.func90 Tryz.ntmps90 ?_
 push_cast [↓zK,↓zJ]
 refine θA ?_
 refine zL fun K1 hK1=> ?_
 refine zL fun K hK=> ?_
 refine zc false zQ zN ?_ rfl ?_
 ·kernel_rfl
 all_goals refine zm 2 fun K9 hK9=> ?_
 all_goals push_cast [↓zK,↓zJ]
 all_goals repeat'(first|(apply zO<;>(intro hg;(try push_cast at hg)))|(refine⟨_,xH n 0 256,?_⟩;push_cast [↓zK,↓zJ])|apply And.intro|(intro hg;(try push_cast at hg)))
 all_goals first|exact gA|(exact zP (by simp only [push_cast];omega))|(exact zP (by omega))|skip
 all_goals(refine hK9 _ ?_;clear hK9 K9)
 all_goals push_cast [↓zK,↓zJ]
 all_goals repeat'(first|(apply zO<;>(intro hg;(try push_cast at hg)))|(refine⟨_,xH n 0 256,?_⟩;push_cast [↓zK,↓zJ])|apply And.intro|(intro hg;(try push_cast at hg)))
 all_goals first|exact gA|(exact zP (by simp only [push_cast];omega))|(exact zP (by omega))|skip
 all_goals(refine hK _ ?_;clear hK K)
 all_goals refine zU rfl (fun hc=> ?_) (fun hc=> ?_)
 all_goals(first|(cases hc;done)|skip)
 all_goals(try simp only [push_cast]at hc)
 all_goals try(
   refine θA ?_
   refine zY ⟨Or.inl rfl,?_⟩
   push_cast [zd,↓zK,↓zJ]
   all_goals first|exact(zD1 (by omega)).symm|exact(uH (zLF (by omega))).symm
   done)
 refine zW (hK1 _ ?_)
 refine zL fun K2 hK2=> ?_
 refine θA ?_
 refine zV ?_
 refine zh [4,5,9,14,15,16,17,18,19,20,21,22,23,24,25,26,27,28,29,30,31,32,33,34,35,36,37] [] (fun(k:Nat)=> [(5, .int .i64 k)]) (fun k=> []) (fun k=> []) (fun k=>k≤ps.length∧∀j,j<k→wK ps n j=true) (fun k=>ps.length - k) 0 ?_ ⟨by omega,fun j hj=>by omega⟩ ?_
 ·
  exact θX
 ·rintro k ⟨hk,hall⟩ KL0 hL0
  push_cast [↓zK,↓zJ]
  refine zL fun K3 hK3=> ?_
  refine θA ?_
  refine θU (fun hc=> ?_) fun hc=> ?_
  ·
   refine zW (hK3 _ ?_)
   refine zL fun K4 hK4=> ?_
   refine zV ?_
   refine zL fun K hK=> ?_
   refine zc false zQ zN ?_ rfl ?_
   ·kernel_rfl
   all_goals refine zm 7 fun K9 hK9=> ?_
   all_goals push_cast [↓zK,↓zJ]
   all_goals repeat'(first|(apply zO<;>(intro hg;(try push_cast at hg)))|(refine⟨_,qS (gp ps k).ask (hga k) n (by omega),?_⟩;push_cast [↓zK,↓zJ])|(refine⟨_,qS (gp ps k).give (hgg k) n (by omega),?_⟩;push_cast [↓zK,↓zJ])|apply And.intro|(intro hg;(try push_cast at hg)))
   all_goals first|exact gA|(exact zP (by simp only [push_cast];omega))|(exact zP (by omega))|skip
   all_goals(refine hK9 _ ?_;clear hK9 K9)
   all_goals refine zm 9 fun K9 hK9=> ?_
   all_goals push_cast [↓zK,↓zJ]
   all_goals repeat'(first|(apply zO<;>(intro hg;(try push_cast at hg)))|(refine⟨_,qS (gp ps k).ask (hga k) n (by omega),?_⟩;push_cast [↓zK,↓zJ])|(refine⟨_,qS (gp ps k).give (hgg k) n (by omega),?_⟩;push_cast [↓zK,↓zJ])|apply And.intro|(intro hg;(try push_cast at hg)))
   all_goals first|exact gA|(exact zP (by simp only [push_cast];omega))|(exact zP (by omega))|skip
   all_goals(refine hK9 _ ?_;clear hK9 K9)
   all_goals push_cast [↓zK,↓zJ]
   all_goals repeat'(first|(apply zO<;>(intro hg;(try push_cast at hg)))|(refine⟨_,qS (gp ps k).ask (hga k) n (by omega),?_⟩;push_cast [↓zK,↓zJ])|(refine⟨_,qS (gp ps k).give (hgg k) n (by omega),?_⟩;push_cast [↓zK,↓zJ])|apply And.intro|(intro hg;(try push_cast at hg)))
   all_goals first|exact gA|(exact zP (by simp only [push_cast];omega))|(exact zP (by omega))|skip
   all_goals(refine hK _ ?_;clear hK K)
   all_goals refine zU rfl (fun hc=> ?_) (fun hc=> ?_)
   all_goals(first|(cases hc;done)|skip)
   all_goals(try simp only [push_cast]at hc)
   all_goals try(
     refine θA ?_
     refine zY ⟨Or.inl rfl,?_⟩
     push_cast [zd,↓zK,↓zJ]
     first|exact(uH (un (i:=k) (by omega) (UX (by with_reducible assumption)))).symm|exact(uH (un (i:=k) (by omega) (UY (by with_reducible assumption)))).symm
     done)
   refine zW (hK4 _ ?_)
   refine θB ?_
   refine hL0 _ ⟨k+1,⟨by omega,fun j hj=>(by
     by_cases hjk:j=k
     ·subst hjk;exact JR (by with_reducible assumption) (by with_reducible assumption)
     ·exact hall j (by omega))⟩,by omega,?_⟩
   exact θX
  ·
   refine zi ?_
   have hkk:k=ps.length:=by omega
   subst hkk
   refine hK2 _ ?_
   refine θA ?_
   refine zY ⟨Or.inl rfl,?_⟩
   push_cast [zd,↓zK,↓zJ]
   rw [JV (by omega),Uu hall]
   exact(decide_eq_true (by omega)).symm
structure Pa where
 a:Ar
 prio:List Int
 deriving DecidableEq
def dPa (x:Pa):List D:= [DI x.a.owner,DII x.a.next,DI x.prio]
structure Pa.Ln (B:Nat)(x:Pa):Prop where
 a:x.a.Ln B
 prio:LnI B x.prio
def Pa.cnt (x:Pa):Nat:=x.a.owner.length+zEM x.a.next+x.prio.length
theorem Pa.ln_mono {B C:Nat}(hB:B≤C){x:Pa}(h:x.Ln B):x.Ln C:=⟨Ar.ln_mono hB h.a,LnI.mono hB h.prio⟩
def qI (g:Pa):Bool:=yK g.a&&(decide (g.prio.length=g.a.owner.length)&&Ym g.prio.length (fun k=>decide (0≤gi g.prio k∧gi g.prio k≤40)))
theorem zE3 {g:Pa}(h1:yK g.a=true)(h2:g.prio.length=g.a.owner.length)(h3: ∀k,k<g.prio.length→0≤gi g.prio k∧gi g.prio k≤40):qI g=true:=by
 unfold qI;rw [h1,decide_eq_true h2,qG fun k hk=>decide_eq_true (h3 k hk)];rfl
def Yw (g:Int→Int)(r:List Int)(k:Nat):List Int:=(r.take k).map g++r.drop k
theorem zDA {c:List Int}{k:Nat}(h:k<c.length):c.drop k=gi c k::c.drop (k+1):=by
 rw [List.drop_eq_getElem_cons h]
 congr 1
 unfold gi
 rw [List.getD_eq_getElem?_getD,List.getElem?_eq_getElem h]
 rfl
theorem zNp (g:Int→Int)(r:List Int):Yw g r 0=r:=by simp [Yw]
theorem zJw (g:Int→Int)(r:List Int):Yw g r r.length=r.map g:=by simp [Yw]
theorem zJx {g:Int→Int}{r:List Int}{k:Nat}(h:k≤r.length):(Yw g r k).length=r.length:=by simp [Yw];omega
theorem zL3 {g:Int→Int}{r:List Int}{k:Nat}(h:k<r.length):gi (Yw g r k) k=gi r k:=by
 have hl:((r.take k).map g).length=k:=by simp;omega
 unfold Yw
 rw [zDA h]
 exact zJc (xs:=(r.take k).map g) (ys:=gi r k::r.drop (k+1)) (k:=0) hl
theorem zJy {g:Int→Int}{r:List Int}{k:Nat}(h:k<r.length):(Yw g r k).set k (g (gi r k))=Yw g r (k+1):=by
 have hl:((r.take k).map g).length=k:=by simp;omega
 unfold Yw
 rw [List.set_append_right _ _ (by omega),hl,Nat.sub_self,zDA h,List.set_cons_zero,List.take_add_one,wC h]
 simp
set_option maxRecDepth 20000 in
set_option maxHeartbeats 4000000 in
theorem zAQ (a:Ar)(ha:a.Ln 1048576):Fn Tryz.prog tyT 71 [.agg (dAr a)] [.agg (dAr a)]:=by
 have h0:=ha.owner
 have hC0:=zBX a.owner h0
 obtain⟨ow,xs⟩:=a
 have hx:Yk 1048576 xs:=ha.next
 have h1:=hx.1
 have hr: ∀v,(gl xs v).length≤1048576:=fun v=>ZP hx v
 have hC:=fun k=>zBX (gl xs k) (hr k)
 unfold LnI at h0
 dsimp only at h0 hC0
 unfold dAr
 refine XQ (fn:=Tryz.f71) (rs:= [.cell 2 31]) zQ zN Tryz.func71 (by kernel_rfl) rfl rfl (by rw [Tryz.ntmps71];exact Nat.le_of_ble_eq_true rfl) rfl (by simp only [szA,List.mem_cons,List.not_mem_nil,or_false,forall_eq_or_imp,forall_eq,VT.cells,szL];try decide) ?_
 rw [Tryz.ntmps71]
 push_cast
 refine θA ?_
 refine θL fun K hK=> ?_
 refine θD 3 ?_
 refine θE hK ?_
 refine zL fun K1 hK1=> ?_
 refine θA ?_
 refine zV ?_
 refine zh [3,4,9,10,11,12,13,14,15,16,17,18,19,20,21,22,23,24,25,26] [49] (fun(k:Nat)=> [(4, .int .i64 k),(3, .bp 3 0)]) (fun k=> [(3,[.sl 48 [] 0 ow.length 2, .sl 49 [] 0 k 22])]) (fun k=> [(48,⟨.ex,2,dI ow,none⟩),(49,⟨.ex,22,dII (xs.take k),none⟩)]) (fun k=>k≤xs.length) (fun k=>xs.length - k) 0 ?_ (by omega) ?_
 ·
  rw [show dII (xs.take 0)= []from by simp [dII]]
  exact θX
 ·rintro k hk KL0 hL0
  have htk:(xs.take k).length=k:=by rw [List.length_take];omega
  have hrk:=hr k
  push_cast
  refine zL fun K2 hK2=> ?_
  refine θA ?_
  refine θU (fun hc=> ?_) fun hc=> ?_
  ·
   refine zW (hK2 _ ?_)
   refine zL fun K3 hK3=> ?_
   refine zV ?_
   refine yN false zQ zN xR ?_ rfl ?_
   ·kernel_rfl
   intro E hE
   all_goals refine yb 8 (by decide) fun K9 hK9=> ?_
   all_goals push_cast
   all_goals repeat'(first|(apply zO<;>(intro hg;push_cast at hg))|(refine⟨_,hC k,?_⟩;push_cast)|apply And.intro|(intro hg;push_cast at hg))
   all_goals first|exact gA|(exact zP (by omega))|skip
   refine hK9 _ _ ?_;clear hK9 K9
   all_goals push_cast
   all_goals repeat'(first|(apply zO<;>(intro hg;push_cast at hg))|(refine⟨_,hC k,?_⟩;push_cast)|apply And.intro|(intro hg;push_cast at hg))
   all_goals first|exact gA|(refine hE _ _ ?_ ?_;kernel_rfl)|(exact zP (by omega))|skip
   all_goals clear hE E
   refine hK3 _ ?_
   refine yx [.sl 2, .sl 22] 3 ?_
   push_cast
   refine θB ?_
   refine hL0 _ ⟨k+1,by omega,by omega,?_⟩
   (try rw [List.take_take,Nat.min_self])
   rw [Ui (by omega)]
   exact θX
  ·
   refine zi ?_
   have hkk:k=xs.length:=by omega
   subst hkk
   rw [List.take_length]
   refine hK1 _ ?_
   refine θA ?_
   refine zY ⟨Or.inl rfl,?_⟩
   push_cast [zd,zt,yH]
def vq (a:Ar):Ar:=⟨a.owner.map (fun x=>1 - x),a.next⟩
set_option maxRecDepth 20000 in
set_option maxHeartbeats 4000000 in
theorem zGP (a:Ar)(ha:a.Ln 1048576)(hok:yK a=true):Fn Tryz.prog tyT 24 [.agg (dAr a)] [.agg (dAr (vq a))]:=by
 have h0:=ha.owner
 have h1:=ha.next.1
 unfold LnI at h0
 have hal:=yO hok
 have hat:=fun v (hv:v<a.owner.length)=>xD hok hv
 have hO:=jo a ha
 rw [hok]at hO
 have hC:=zAQ a ha
 unfold vq
 unfold dAr at hO hC⊢
 refine XQ (fn:=Tryz.f24) (rs:= [.cell 2 31]) zQ zN Tryz.func24 (by kernel_rfl) rfl rfl (by rw [Tryz.ntmps24];exact Nat.le_of_ble_eq_true rfl) rfl (by simp only [szA,List.mem_cons,List.not_mem_nil,or_false,forall_eq_or_imp,forall_eq,VT.cells,szL];try decide) ?_
 rw [Tryz.ntmps24]
 push_cast
 refine θA ?_
 refine zL fun K1 hK1=> ?_
 refine θL fun K hK=> ?_
 refine θD 2 ?_
 refine θE hK ?_
 refine zU rfl (fun hc=> ?_) (fun hc=> ?_)
 skip
 ·exfalso;first|(cases hc;done)|(simp only [push_cast]at hc;done)|(simp only [push_cast]at hc;omega)|omega
 refine zW (hK1 _ ?_)
 refine θL fun K hK=> ?_
 refine θD 2 ?_
 refine θE hK ?_
 refine zL fun K2 hK2=> ?_
 refine θA ?_
 refine zV ?_
 refine zh [3,4,11,12,13,14,15,16,17,18,19,20,21,22,23,24,25,26,27] [48] (fun(k:Nat)=> [(4, .int .i64 k),(3, .bp 3 0)]) (fun k=> [(3,[.sl 48 [] 0 a.owner.length 2, .sl 49 [] 0 a.next.length 22])]) (fun k=> [(48,⟨.ex,2,dI (Yw (fun x=>1 - x) a.owner k),none⟩),(49,⟨.ex,22,dII a.next,none⟩)]) (fun k=>k≤a.owner.length) (fun k=>a.owner.length - k) 0 ?_ (by omega) ?_
 ·
  rw [zNp]
  exact θX
 ·rintro k hk KL0 hL0
  have hml:=zJx (g:=fun x=>1 - x) hk
  have hmg:k<a.owner.length→gi (Yw (fun x=>1 - x) a.owner k) k=gi a.owner k:=fun h=>zL3 h
  push_cast
  refine zL fun K3 hK3=> ?_
  refine θA ?_
  refine θU (fun hc=> ?_) fun hc=> ?_
  ·
   refine zW (hK3 _ ?_)
   refine zL fun K4 hK4=> ?_
   refine zV ?_
   refine yN false zQ zN xR ?_ rfl ?_
   ·kernel_rfl
   intro E hE
   all_goals push_cast
   all_goals repeat'(first|(apply zO<;>(intro hg;push_cast at hg))|apply And.intro|(intro hg;push_cast at hg))
   all_goals first|exact gA|(refine hE _ _ ?_ ?_;kernel_rfl)|(rw [hmg (by omega)];have :=hat k (by omega);omega)|skip
   all_goals clear hE E
   refine hK4 _ ?_
   refine θB ?_
   rw [hmg (by omega),show(1:Int) - gi a.owner k=(fun x=>1 - x) (gi a.owner k)from rfl,zJy (by omega)]
   refine hL0 _ ⟨k+1,by omega,by omega,?_⟩
   exact θX
  ·
   refine zi ?_
   have hkk:k=a.owner.length:=by omega
   subst hkk
   rw [zJw]
   refine hK2 _ ?_
   refine θA ?_
   refine zY ⟨Or.inl rfl,?_⟩
   push_cast [zd,zt,yH]
   all_goals first|rfl|(simp;done)
theorem UF {n k:Nat}{x:Int}(h:k<n):gi (List.replicate n x) k=x:=by
 unfold gi
 rw [List.getD_eq_getElem?_getD,List.getElem?_replicate,if_pos h]
 rfl
structure Plc where
 at_:Int
 record:List Int
 deriving DecidableEq
def dPlc (x:Plc):List D:= [.int .i64 x.at_,DI x.record]
structure Plc.Ln (B:Nat)(x:Plc):Prop where
 record:LnI B x.record
def yy (ps:List Plc):List D:=ps.flatMap dPlc
def gq (ps:List Plc)(k:Nat):Plc:=ps.getD k ⟨0,[]⟩
theorem wt (p:Plc)(ps:List Plc):yy (p::ps)= .int .i64 p.at_::DI p.record::yy ps:=rfl
theorem m2q (n:Nat):n*2 / 2=n:=by omega
theorem zDa (ps:List Plc):(yy ps).length=ps.length*2:=by
 induction ps with
 |nil=>rfl
 |cons p ps ih=>rw [wt,List.length_cons,List.length_cons,ih,List.length_cons];omega
theorem zJP (ps qs:List Plc):yy (ps++qs)=yy ps++yy qs:=List.flatMap_append ..
theorem zHe (ps:List Plc)(x:Int)(r:List Int):yy ps++ [D.int .i64 x,D.lst 2 (dI r)]=yy (ps++ [⟨x,r⟩]):=by rw [zJP];rfl
theorem zHE (ps:List Plc):(yy ps).take (ps.length*2)=yy ps:=List.take_of_length_le (by rw [zDa];exact Nat.le_refl _)
theorem zKr {ps:List Plc}{k:Nat}(h:k<ps.length):ps[k]? =some (gq ps k):=by
 unfold gq
 rw [List.getD_eq_getElem?_getD,List.getElem?_eq_getElem h]
 rfl
theorem zGk {ps:List Plc}{k:Nat}(h:ps.length≤k):gq ps k=⟨0,[]⟩:=by
 unfold gq
 rw [List.getD_eq_getElem?_getD,List.getElem?_eq_none h]
 rfl
theorem vC {ps:List Plc}{k:Nat}(h:k<ps.length):gq ps k∈ps:=List.mem_of_getElem? (zKr h)
theorem zC4 (ps:List Plc)(k:Nat):(yy ps)[k*2]? =if k<ps.length then some (.int .i64 (gq ps k).at_)else none:=by
 induction ps generalizing k with
 |nil=>rfl
 |cons p ps ih=>
  cases k with
  |zero=>rfl
  |succ k=>
   rw [show(k+1)*2=k*2+1+1 from by omega,wt,List.getElem?_cons_succ,List.getElem?_cons_succ,ih,List.length_cons]
   simp only [gq,List.getD_cons_succ]
   split<;>split<;>first|rfl|omega
theorem Wq (ps:List Plc)(k:Nat):(yy ps)[k*2+1]? =if k<ps.length then some (DI (gq ps k).record)else none:=by
 induction ps generalizing k with
 |nil=>rfl
 |cons p ps ih=>
  cases k with
  |zero=>rfl
  |succ k=>
   rw [show(k+1)*2+1=k*2+1+1+1 from by omega,wt,List.getElem?_cons_succ,List.getElem?_cons_succ,ih,List.length_cons]
   simp only [gq,List.getD_cons_succ]
   split<;>split<;>first|rfl|omega
theorem zH4 (ps:List Plc)(k:Nat):Ql (yy ps) (k*2)=(gq ps k).at_:=by
 unfold Ql
 rw [zC4]
 by_cases h:k<ps.length
 ·rw [if_pos h]
 ·rw [if_neg h,zGk (by omega)]
theorem zH5 (ps:List Plc)(k:Nat):xh (yy ps) (k*2+1)=dI (gq ps k).record:=by
 unfold xh
 rw [Wq]
 by_cases h:k<ps.length
 ·rw [if_pos h]
 ·rw [if_neg h,zGk (by omega)];rfl
theorem zZ {ps:List Plc}{k:Nat}(h:k<ps.length):vG (yy ps) (k*2+1)=2:=by
 unfold vG
 rw [Wq,if_pos h]
theorem zGI (ps:List Plc)(k:Nat):xq (.int .i64) (yy ps) (k*2)=(k<ps.length):=by
 unfold xq
 rw [zC4]
 apply propext
 constructor
 ·rintro⟨n,h⟩;split at h;assumption;cases h
 ·intro h;rw [if_pos h];exact⟨_,rfl⟩
theorem zGJ (ps:List Plc)(k:Nat):xq (.sl 2) (yy ps) (k*2+1)=(k<ps.length):=by
 unfold xq
 rw [Wq]
 apply propext
 constructor
 ·rintro⟨n,h⟩;split at h;assumption;cases h
 ·intro h;rw [if_pos h];exact⟨_,rfl⟩
theorem zEy (ps:List Plc)(k:Nat):zo (yy ps) [k*2+1]=(k<ps.length):=by
 unfold zo
 rw [Wq]
 apply propext
 constructor
 ·rintro⟨e,ys,h,-⟩;split at h;assumption;cases h
 ·intro h;rw [if_pos h];exact⟨_,_,rfl,trivial⟩
theorem zIr (ps:List Plc)(k:Nat)(n:Int):(yy ps).set (k*2) (.int .i64 n)=yy (ps.set k ⟨n,(gq ps k).record⟩):=by
 induction ps generalizing k with
 |nil=>simp [yy]
 |cons p ps ih=>
  cases k with
  |zero=>rfl
  |succ k=>rw [show(k+1)*2=k*2+1+1 from by omega,wt,List.set_cons_succ,List.set_cons_succ,ih,List.set_cons_succ,wt];rfl
theorem zIs (ps:List Plc)(k:Nat)(r:List Int):(yy ps).set (k*2+1) (.lst 2 (dI r))=yy (ps.set k ⟨(gq ps k).at_,r⟩):=by
 induction ps generalizing k with
 |nil=>simp [yy]
 |cons p ps ih=>
  cases k with
  |zero=>rfl
  |succ k=>rw [show(k+1)*2+1=k*2+1+1+1 from by omega,wt,List.set_cons_succ,List.set_cons_succ,ih,List.set_cons_succ,wt];rfl
attribute [push_cast] m2q zDa zHE zHe zH4 zH5 zGI zGJ zEy zIr zIs
def QLn (B:Nat)(ps:List Plc):Prop:=ps.length≤B∧∀p∈ps,p.record.length≤B
theorem Wu {B:Nat}{ps:List Plc}(h:QLn B ps)(k:Nat):(gq ps k).record.length≤B:=by
 rcases Nat.lt_or_ge k ps.length with hk|hk
 ·exact h.2 _ (vC hk)
 ·rw [zGk hk];exact Nat.zero_le _
end Go.Proofs.YthepmdkpbjfdcaaGreat
