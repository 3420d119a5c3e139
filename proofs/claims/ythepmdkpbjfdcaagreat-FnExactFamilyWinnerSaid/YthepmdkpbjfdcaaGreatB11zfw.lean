/- The program's attractor; the walk -/
import Derived.Test.YthepmdkpbjfdcaaGreatB9zfw
import Derived.Test.YthepmdkpbjfdcaaGreatB10zfw
import Derived.Test.YthepmdkpbjfdcaaGreatGDzfw
import Derived.Test.YthepmdkpbjfdcaaGreatGEzfw
import Derived.Test.YthepmdkpbjfdcaaGreatB6zfw
import Derived.Test.YthepmdkpbjfdcaaGreatB8zfw
namespace Go.Proofs.YthepmdkpbjfdcaaGreat
open Nat renaming reduceMod → zA, reduceMul → zB, reduceDiv → zC, reduceAdd → zD, reduceSub → zE, reduceEqDiff → zF, reduceBEq → zG, reduceLT → zH, reduceLeDiff → zI
open Go.RowKit
set_option linter.unusedVariables false
set_option linter.unusedSimpArgs false
def dSv (x:L7):List D:= [DI x.owner,DII x.next,DI x.prio,DII x.prev]
theorem zCs {c:List Int}{v:Nat}(h:v<c.length):c.set v (gi c v)=c:=by
 refine List.ext_getElem (by simp) fun j h1 h2=> ?_
 rw [List.getElem_set]
 split
 ·rename_i e
  subst e
  unfold gi
  rw [List.getD_eq_getElem?_getD,List.getElem?_eq_getElem h]
  rfl
 ·rfl
theorem zHV {x:L7}{inn:List Bool}{lc:List Int}{v:Nat}(h:gi lc v=0):lc.set v (ve x inn v)=lc.set v (vL x inn lc v):=by unfold vL;rw [if_pos h]
theorem zI9 {x:L7}{inn:List Bool}{lc:List Int}{v:Nat}(hv:v<lc.length)(h: ¬gi lc v=0):lc.set v (vL x inn lc v)=lc:=by unfold vL;rw [if_neg h];exact zCs hv
theorem zBM {c:List Int}{v:Nat}{y:Int}(h:v<c.length):gi (c.set v y) v=y:=by rw [qN h,if_pos rfl]
theorem JH (a b:List Int)(v:Int):dI a++(dI b++ [D.int .i64 v])=dI (a++(b++ [v])):=by simp [dI]
theorem zE4 {qd:List Int}{o:Nat}{pre:List D}(h:pre= []∨pre=dI (qd.take o)): ∃ps:List Int,(ps= []∨ps=qd.take o)∧pre=dI ps:=by
 rcases h with h|h
 ·exact⟨[], .inl rfl,h⟩
 ·exact⟨_, .inr rfl,h⟩
set_option maxRecDepth 20000 in
set_option maxHeartbeats 8000000 in
theorem zIB (x:L7)(inn:List Bool)(hx:x.Ok inn.length)(hed: ∀(v:Nat) (u:Int),v<inn.length→edB x v u=true)(who:Int)(goal:List Bool)(hg9:goal.length=inn.length)(hsub: ∀_:Unit,∀v,v<inn.length→gb goal v=true→gb inn v=true):FnB Tryz.prog tyT 182 (dSv x) [.c (.int .i64 who), .c (.lst 4 (dB inn)), .c (.lst 4 (dB goal))] (dSv x) [.c (.lst 4 (dB (yX x inn.length inn who goal)))]:=by
 have hn1:=hx.hn
 have hn2:=hx.ho
 have hn4:=hx.hx
 have hn5:=hx.hv
 have hL:=YT goal (by omega)
 have hatl:=wC x inn.length inn who goal
 generalize hR:yX x inn.length inn who goal=R at hatl⊢
 rw [hg9]at hL
 have hil0:=wH goal inn.length
 unfold dSv
 refine zDt (fn:=Tryz.f182) (rs:= [.tmp 8]) zO zN Tryz.func182 (by kernel_rfl) rfl rfl (by rw [Tryz.ntmps182];exact Nat.le_of_ble_eq_true rfl) rfl (by simp only [szA,List.mem_cons,List.not_mem_nil,or_false,forall_eq_or_imp,forall_eq,false_implies,implies_true,VT.cells,szL];try decide) (Nat.le_of_ble_eq_true rfl) (by simp only [szL];decide) (Nat.le_of_ble_eq_true rfl) rfl ?_
 rw [Tryz.ntmps182]
 push_cast [↓zK,↓zJ]
 refine zL fun K hK=> ?_
 refine zM zO zN [] rfl ?_
 all_goals push_cast [↓zK,↓zJ]
 all_goals repeat'(first|(apply zP<;>(intro hg;(try simp only [push_cast]at hg)))|apply And.intro|(intro hg;(try simp only [push_cast]at hg)))
 all_goals first|exact gA|(exact zS (by omega))|(rw [List.length_set];omega)|(simp only [List.length_set];omega)|skip
 all_goals(refine hK _ ?_;clear hK K)
 refine zL fun K hK=> ?_
 refine zM zO zN [] rfl ?_
 all_goals push_cast [↓zK,↓zJ]
 all_goals repeat'(first|(apply zP<;>(intro hg;(try simp only [push_cast]at hg)))|apply And.intro|(intro hg;(try simp only [push_cast]at hg)))
 all_goals first|exact gA|(exact zS (by omega))|(rw [List.length_set];omega)|(simp only [List.length_set];omega)|skip
 all_goals(refine hK _ ?_;clear hK K)
 refine zL fun K hK=> ?_
 refine zM zO zN [] rfl ?_
 all_goals push_cast [↓zK,↓zJ]
 all_goals repeat'(first|(apply zP<;>(intro hg;(try simp only [push_cast]at hg)))|apply And.intro|(intro hg;(try simp only [push_cast]at hg)))
 all_goals first|exact gA|(exact zS (by omega))|(rw [List.length_set];omega)|(simp only [List.length_set];omega)|skip
 all_goals(refine hK _ ?_;clear hK K)
 refine zL fun K hK=> ?_
 refine zM zO zN [] rfl ?_
 all_goals refine zl 2 fun K9 hK9=> ?_
 all_goals push_cast [↓zK,↓zJ]
 all_goals repeat'(first|(apply zP<;>(intro hg;(try simp only [push_cast]at hg)))|(refine⟨_,hL,?_⟩;push_cast [↓zK,↓zJ])|apply And.intro|(intro hg;(try simp only [push_cast]at hg)))
 all_goals first|exact gA|(exact zS (by omega))|(rw [List.length_set];omega)|(simp only [List.length_set];omega)|skip
 all_goals(refine hK9 _ ?_;clear hK9 K9)
 all_goals push_cast [↓zK,↓zJ]
 all_goals repeat'(first|(apply zP<;>(intro hg;(try simp only [push_cast]at hg)))|(refine⟨_,hL,?_⟩;push_cast [↓zK,↓zJ])|apply And.intro|(intro hg;(try simp only [push_cast]at hg)))
 all_goals first|exact gA|(exact zS (by omega))|(rw [List.length_set];omega)|(simp only [List.length_set];omega)|skip
 all_goals(refine hK _ ?_;clear hK K)
 refine zL fun K1 hK1=> ?_
 refine zV ?_
 refine zh [11,12,14,16,25,26,27,28,29,30,31,32,33,34,35,36,37,38,39,40,41,42,43,44,45,46,47,48,49,50,51,52,53,54,55,56,57,58,59,60,61,62,63,64,65,66,67,68,69,70,71,72,73,74,75,76,77,78,79,80,81,82,83,84,85,86,87,88,89,90,91,92,93,94,95,96,97,98,99,100,101,102,103,104,105,106,107,108,109,110,111,112,113,114,115] [144,160,176] (fun(p:Nat×List Int×List Bool×List Int×List Int×List Int×Nat)=> [(9, .sl 144 [] 0 goal.length 4),(10, .sl 160 [] 0 inn.length 3),(11, .sl 176 [] p.2.2.2.2.2.2 (p.2.1.length - p.1) 2)]) (fun p=> []) (fun p=> [(144,⟨.ex,4,dB p.2.2.1,none⟩),(160,⟨.ex,3,dI p.2.2.2.1,none⟩),(176,⟨.ex,2,dI p.2.2.2.2.2.1,none⟩)]) (fun p=>p.1≤p.2.1.length∧PuI x inn.length inn who goal p.2.2.1 p.2.2.2.1 p.2.2.2.2.1 p.2.1 (fun _ u=>yD (p.2.1.take p.1) u)∧QdI p.2.1 p.1 p.2.2.2.2.2.1 p.2.2.2.2.2.2) (fun p=>inn.length - p.1) (0,yd goal inn.length,goal,List.replicate inn.length 0,(List.range inn.length).map (fun v=>ve x inn v),yd goal inn.length,0) ?_ ⟨by dsimp only;omega,PuI.start hx hg9 (hsub ()),QdI.start _⟩ ?_
 ·
  refine zX rfl ?_ ?_ ?_<;>push_cast [zg,zf,↓zK,↓zJ]
 ·rintro⟨i,Q,out,lc,Lf,qd,o⟩ ⟨hv,hA,hq⟩ KL0 hL0
  dsimp only at hv hA hq
  have hl0:=hA.at_.lo
  have hl1:=hA.len
  have hql:=hA.at_.qle
  have hqn:=hq.len
  have hqo:=hq.lo
  push_cast [↓zK,↓zJ]
  refine zL fun K2 hK2=> ?_
  refine zL fun K hK=> ?_
  refine zM zO zN [] rfl ?_
  all_goals push_cast [↓zK,↓zJ]
  all_goals repeat'(first|(apply zP<;>(intro hg;(try simp only [push_cast]at hg)))|apply And.intro|(intro hg;(try simp only [push_cast]at hg)))
  all_goals first|exact gA|(exact zS (by omega))|(rw [List.length_set];omega)|(simp only [List.length_set];omega)|skip
  all_goals(refine hK _ ?_;clear hK K)
  refine zT rfl (fun hc=> ?_) (fun hc=> ?_)<;>(try simp only [push_cast]at hc)
  ·
   refine zU ?_
   refine hK2 _ ?_
   refine zV ?_
   have hqi:=hA.at_.qin (i:=i) (by omega)
   have hhd:=hq.head (i:=i) (by omega)
   have hpop:=hq.pop (by omega)
   obtain⟨qi,hqi0⟩: ∃qi,Q.take i=qi:=⟨_,rfl⟩
   obtain⟨u0,hu0⟩: ∃u0,gi Q i=u0:=⟨_,rfl⟩
   rw [hu0]at hqi hhd
   have hAb:=hA.cong (Ul hA.at_)
   rw [hu0,hqi0]at hAb
   refine zL fun K hK=> ?_
   refine zM zO zN [] rfl ?_
   all_goals push_cast [↓zK,↓zJ]
   all_goals repeat'(first|(apply zP<;>(intro hg;(try simp only [push_cast]at hg)))|apply And.intro|(intro hg;(try simp only [push_cast]at hg)))
   all_goals first|exact gA|(exact zS (by omega))|(rw [List.length_set];omega)|(simp only [List.length_set];omega)|skip
   all_goals(refine hK _ ?_;clear hK K)
   (try rw [hhd])
   refine zL fun K hK=> ?_
   refine zM zO zN [] rfl ?_
   all_goals push_cast [↓zK,↓zJ]
   all_goals repeat'(first|(apply zP<;>(intro hg;(try simp only [push_cast]at hg)))|apply And.intro|(intro hg;(try simp only [push_cast]at hg)))
   all_goals first|exact gA|(exact zS (by omega))|(rw [List.length_set];omega)|(simp only [List.length_set];omega)|skip
   all_goals(refine hK _ ?_;clear hK K)
   refine zL fun K hK=> ?_
   refine zM zO zN [] rfl ?_
   all_goals push_cast [↓zK,↓zJ]
   all_goals repeat'(first|(apply zP<;>(intro hg;(try simp only [push_cast]at hg)))|apply And.intro|(intro hg;(try simp only [push_cast]at hg)))
   all_goals first|exact gA|(exact zS (by omega))|(rw [List.length_set];omega)|(simp only [List.length_set];omega)|skip
   all_goals(refine hK _ ?_;clear hK K)
   refine zV ?_
   refine zh [11,14,16,25,28,29,31,32,41,42,43,44,45,46,47,48,49,50,51,52,53,54,55,56,57,58,59,60,61,62,63,64,65,66,67,68,69,70,71,72,73,74,75,76,77,78,79,80,81,82,83,84,85,86,87,88,89,90,91,92,93,94,95,96,97,98,99,100,101,102,103,104,105,106,107,108,109,110,111,112,113,114,115] [144,160,176] (fun(p:Nat×List Int×List Bool×List Int×List Int×List Int×Nat)=> [(41, .int .i64 p.1),(9, .sl 144 [] 0 goal.length 4),(10, .sl 160 [] 0 inn.length 3),(11, .sl 176 [] p.2.2.2.2.2.2 (p.2.1.length - (i+1)) 2)]) (fun p=> []) (fun p=> [(144,⟨.ex,4,dB p.2.2.1,none⟩),(160,⟨.ex,3,dI p.2.2.2.1,none⟩),(176,⟨.ex,2,dI p.2.2.2.2.2.1,none⟩)]) (fun p=>p.1≤(gl x.prev u0.toNat).length∧PuI x inn.length inn who goal p.2.2.1 p.2.2.2.1 p.2.2.2.2.1 p.2.1 (PK x qi u0 p.1)∧QdI p.2.1 (i+1) p.2.2.2.2.2.1 p.2.2.2.2.2.2∧p.2.1.take i=qi∧gi p.2.1 i=u0∧i<p.2.1.length) (fun p=>(gl x.prev u0.toNat).length - p.1) (0,Q,out,lc,Lf,qd,o+1) ?_ ⟨by dsimp only;omega,hAb,hpop,hqi0,hu0,by dsimp only;omega⟩ ?_
   ·
    (try rw [show Q.length - i - 1=Q.length - (i+1) by omega])
    refine zX rfl ?_ ?_ ?_<;>push_cast [zg,zf,↓zK,↓zJ]
   ·rintro⟨k,Q,out,lc,Lf,qd,o⟩ ⟨hk,hA2,hq3,hq2,hu2,hil⟩ KL1 hL1
    dsimp only at hk hA2 hq3 hq2 hu2 hil
    have hpl:=hx.dpv u0.toNat (by omega)
    push_cast [↓zK,↓zJ]
    refine zL fun K hK=> ?_
    refine zM zO zN [] rfl ?_
    all_goals push_cast [↓zK,↓zJ]
    all_goals repeat'(first|(apply zP<;>(intro hg;(try simp only [push_cast]at hg)))|apply And.intro|(intro hg;(try simp only [push_cast]at hg)))
    all_goals first|exact gA|(exact zS (by omega))|(rw [List.length_set];omega)|(simp only [List.length_set];omega)|skip
    all_goals(refine hK _ ?_;clear hK K)
    refine zL fun K3 hK3=> ?_
    refine zT rfl (fun hc=> ?_) (fun hc=> ?_)<;>(try simp only [push_cast]at hc)
    ·
     refine zU ?_
     refine hK3 _ ?_
     refine zL fun K4 hK4=> ?_
     refine zV ?_
     have hl0:=hA2.at_.lo
     have hl1:=hA2.len
     have hql2:=hA2.at_.qle
     have hqn:=hq3.len
     have hqo:=hq3.lo
     refine zL fun K hK=> ?_
     refine zM zO zN [] rfl ?_
     all_goals push_cast [↓zK,↓zJ]
     all_goals repeat'(first|(apply zP<;>(intro hg;(try simp only [push_cast]at hg)))|apply And.intro|(intro hg;(try simp only [push_cast]at hg)))
     all_goals first|exact gA|(exact zS (by omega))|(rw [List.length_set];omega)|(simp only [List.length_set];omega)|skip
     all_goals(refine hK _ ?_;clear hK K)
     refine zL fun K5 hK5=> ?_
     have hp1:=hx.pin u0.toNat (by omega) k (by omega)
     have hqi2:=hA2.at_.qin (i:=i) hil
     rw [hu2]at hqi2
     have hps0:=fun v u=>PK_s (x:=x) (qi:=qi) (u0:=u0) (k:=k) (by omega) (by omega) v u
     have hnew:=zDy hx hA2.at_ hil (k:=k) (by rw [hu2];omega)
     rw [hu2,hq2]at hnew
     obtain⟨w0,hw0⟩: ∃w:Int,gi (gl x.prev u0.toNat) k=w:=⟨_,rfl⟩
     rw [hw0]at hp1 hps0 hnew⊢
     obtain⟨v0,rfl⟩: ∃v0:Nat,w0=(v0:Int):=⟨w0.toNat,by omega⟩
     simp only [Int.toNat_natCast]at hp1 hps0 hnew
     have hv0:v0<inn.length:=by omega
     have hcg:=hA2.rg v0 hv0
     refine zL fun K hK=> ?_
     refine zj false zO zN ?_ rfl ?_
     ·kernel_rfl
     all_goals push_cast [↓zK,↓zJ]
     all_goals repeat'(first|(apply zP<;>(intro hg;(try simp only [push_cast]at hg)))|apply And.intro|(intro hg;(try simp only [push_cast]at hg)))
     all_goals first|exact gA|(exact zS (by omega))|(rw [List.length_set];omega)|(simp only [List.length_set];omega)|skip
     all_goals(refine hK _ ?_;clear hK K)
     all_goals refine zT rfl (fun hc=> ?_) (fun hc=> ?_)
     all_goals(first|(cases hc;done)|skip)
     all_goals(try simp only [push_cast]at hc)
     all_goals first
      |(
        refine zU ?_
        refine hK5 _ ?_
        refine zL fun K6 hK6=> ?_
        have hst:=PuI.step hx hA2 (v0:=v0) hv0 hqi2.1 hqi2.2.1 hqi2.2.2 (by with_reducible assumption) (by with_reducible assumption) (hed v0 u0 hv0) (by obtain⟨j9,a9,b9⟩:=hp1.2;exact⟨j9,a9,by rw [b9];omega⟩) hnew hps0
        refine zL fun K hK=> ?_
        refine zM zO zN [] rfl ?_
        all_goals push_cast [↓zK,↓zJ]
        all_goals repeat'(first|(apply zP<;>(intro hg;(try simp only [push_cast]at hg)))|apply And.intro|(intro hg;(try simp only [push_cast]at hg)))
        all_goals first|exact gA|(exact zS (by omega))|(rw [List.length_set];omega)|(simp only [List.length_set];omega)|skip
        all_goals(refine hK _ ?_;clear hK K)
        refine zT rfl (fun hc=> ?_) (fun hc=> ?_)<;>(try simp only [push_cast]at hc)
        ·
         refine zEC [16,49,67,68,69,70,71,72,73,74,75,76,77,78,79,80,81,82,83,84,85,86,87,88,89,90,91,92,93,94,95,96] [160] (fun(u9:Unit)=> [(10, .sl 160 [] 0 inn.length 3)]) (fun u9=> []) (fun u9=> [(160,⟨.ex,3,dI (lc.set v0 (vL x inn lc v0)),none⟩)]) (fun u9=>True) ?_ ?_
         ·
          intro K7 hK7
          have hst2:=hst.2 (by first|assumption|(simpa using hc))
          have hm1:=hst2.1
          have hdl:=kM hx (inn:=inn) hv0
          refine zL fun K hK=> ?_
          refine zM zO zN [] rfl ?_
          all_goals push_cast [↓zK,↓zJ]
          all_goals repeat'(first|(apply zP<;>(intro hg;(try simp only [push_cast]at hg)))|apply And.intro|(intro hg;(try simp only [push_cast]at hg)))
          all_goals first|exact gA|(exact zS (by omega))|(rw [List.length_set];omega)|(simp only [List.length_set];omega)|skip
          all_goals(refine hK _ ?_;clear hK K)
          refine zT rfl (fun hc=> ?_) (fun hc=> ?_)<;>(try simp only [push_cast]at hc)
          ·
           have hrl:=hx.deg v0 hv0
           refine zL fun K hK=> ?_
           refine zM zO zN [] rfl ?_
           all_goals push_cast [↓zK,↓zJ]
           all_goals repeat'(first|(apply zP<;>(intro hg;(try simp only [push_cast]at hg)))|apply And.intro|(intro hg;(try simp only [push_cast]at hg)))
           all_goals first|exact gA|(exact zS (by omega))|(rw [List.length_set];omega)|(simp only [List.length_set];omega)|skip
           all_goals(refine hK _ ?_;clear hK K)
           refine zV ?_
           refine zh [16,49,82,83,84,85,86,87,88,89,90,91,92,93,94,95,96] [160] (fun(j:Nat)=> [(82, .int .i64 j),(10, .sl 160 [] 0 inn.length 3)]) (fun j=> []) (fun j=> [(160,⟨.ex,3,dI (lc.set v0 (vM x inn v0 j)),none⟩)]) (fun j=>j≤(gl x.next v0).length) (fun j=>(gl x.next v0).length - j) 0 ?_ (by omega) ?_
           ·
            rw [show lc.set v0 (vM x inn v0 0)=lc from by rw [show vM x inn v0 0=gi lc v0 from by rw [show gi lc v0=0 by with_reducible assumption];rfl];exact zCs (by omega)]
            refine zX rfl ?_ ?_ ?_<;>push_cast [zg,zf,↓zK,↓zJ]
           ·rintro j hj KL2 hL2
            push_cast [↓zK,↓zJ]
            refine zL fun K hK=> ?_
            refine zM zO zN [] rfl ?_
            all_goals push_cast [↓zK,↓zJ]
            all_goals repeat'(first|(apply zP<;>(intro hg;(try simp only [push_cast]at hg)))|apply And.intro|(intro hg;(try simp only [push_cast]at hg)))
            all_goals first|exact gA|(exact zS (by omega))|(rw [List.length_set];omega)|(simp only [List.length_set];omega)|skip
            all_goals(refine hK _ ?_;clear hK K)
            refine zL fun K8 hK8=> ?_
            refine zT rfl (fun hc=> ?_) (fun hc=> ?_)<;>(try simp only [push_cast]at hc)
            ·
             refine zU ?_
             refine hK8 _ ?_
             refine zL fun K9 hK9=> ?_
             refine zV ?_
             have hto:=hx.to v0 hv0 j (by omega)
             have hdk:=JK x inn v0 j
             have hsi:=zBM (c:=lc) (v:=v0) (y:=vM x inn v0 j) (by omega)
             refine zL fun K hK=> ?_
             refine zM zO zN [] rfl ?_
             all_goals push_cast [↓zK,↓zJ]
             all_goals repeat'(first|(apply zP<;>(intro hg;(try simp only [push_cast]at hg)))|apply And.intro|(intro hg;(try simp only [push_cast]at hg)))
             all_goals first|exact gA|(exact zS (by omega))|(rw [List.length_set];omega)|(simp only [List.length_set];omega)|skip
             all_goals(refine hK _ ?_;clear hK K)
             refine zL fun K hK=> ?_
             refine zM zO zN [] rfl ?_
             all_goals push_cast [↓zK,↓zJ]
             all_goals repeat'(first|(apply zP<;>(intro hg;(try simp only [push_cast]at hg)))|apply And.intro|(intro hg;(try simp only [push_cast]at hg)))
             all_goals first|exact gA|(exact zS (by omega))|(rw [List.length_set];omega)|(simp only [List.length_set];omega)|skip
             all_goals(refine hK _ ?_;clear hK K)
             refine zT rfl (fun hc=> ?_) (fun hc=> ?_)<;>(try simp only [push_cast]at hc)
             ·
              refine zM zO zN [] rfl ?_
              all_goals push_cast [↓zK,↓zJ]
              all_goals repeat'(first|(apply zP<;>(intro hg;(try simp only [push_cast]at hg)))|apply And.intro|(intro hg;(try simp only [push_cast]at hg)))
              all_goals first|exact gA|(exact zS (by omega))|(rw [List.length_set];omega)|(simp only [List.length_set];omega)|skip
              refine hK9 _ ?_
              refine zM zO zN [] rfl ?_
              all_goals push_cast [↓zK,↓zJ]
              all_goals repeat'(first|(apply zP<;>(intro hg;(try simp only [push_cast]at hg)))|apply And.intro|(intro hg;(try simp only [push_cast]at hg)))
              all_goals first|exact gA|(exact zS (by omega))|(rw [List.length_set];omega)|(simp only [List.length_set];omega)|skip
              refine hL2 _ ⟨j+1,by omega,by omega,?_⟩
              (try rw [hsi])
              (try rw [List.set_set])
              rw [KU (by with_reducible assumption) (hed v0 _ hv0)]
              refine zX rfl ?_ ?_ ?_<;>push_cast [zg,zf,↓zK,↓zJ]
             ·
              refine zU ?_
              refine hK9 _ ?_
              refine zM zO zN [] rfl ?_
              all_goals push_cast [↓zK,↓zJ]
              all_goals repeat'(first|(apply zP<;>(intro hg;(try simp only [push_cast]at hg)))|apply And.intro|(intro hg;(try simp only [push_cast]at hg)))
              all_goals first|exact gA|(exact zS (by omega))|(rw [List.length_set];omega)|(simp only [List.length_set];omega)|skip
              refine hL2 _ ⟨j+1,by omega,by omega,?_⟩
              rw [KT (by with_reducible assumption)]
              refine zX rfl ?_ ?_ ?_<;>push_cast [zg,zf,↓zK,↓zJ]
            ·
             refine zi ?_
             have hjj:j=(gl x.next v0).length:=by omega
             subst hjj
             (try rw [show vM x inn v0 (gl x.next v0).length=ve x inn v0 from rfl])
             (try simp only [zQ,zR,reduceIte,zF])
             refine hK7 _ ⟨(),trivial,?_⟩
             rw [←zHV (by with_reducible assumption)]
             refine zX rfl ?_ ?_ ?_<;>push_cast [zg,zf,↓zK,↓zJ]
          ·
           refine zU ?_
           (try simp only [zQ,zR,reduceIte,zF])
           refine hK7 _ ⟨(),trivial,?_⟩
           rw [zI9 (by omega) (by with_reducible assumption)]
           refine zX rfl ?_ ?_ ?_<;>push_cast [zg,zf,↓zK,↓zJ]
         ·
          rintro u9 hj7
          have hst2:=hst.2 (by first|assumption|(simpa using hc))
          have hm1:=hst2.1
          have hdl:=kM hx (inn:=inn) hv0
          push_cast [↓zK,↓zJ]
          have hsm:=zBM (c:=lc) (v:=v0) (y:=vL x inn lc v0) (by omega)
          refine zL fun K hK=> ?_
          refine zM zO zN [] rfl ?_
          all_goals push_cast [↓zK,↓zJ]
          all_goals repeat'(first|(apply zP<;>(intro hg;(try simp only [push_cast]at hg)))|apply And.intro|(intro hg;(try simp only [push_cast]at hg)))
          all_goals first|exact gA|(exact zS (by omega))|(rw [List.length_set];omega)|(simp only [List.length_set];omega)|skip
          all_goals(refine hK _ ?_;clear hK K)
          (try rw [hsm])
          (try rw [List.set_set])
          have hsm2:=zBM (c:=lc) (v:=v0) (y:=vL x inn lc v0 - 1) (by omega)
          refine zL fun K hK=> ?_
          refine zM zO zN [] rfl ?_
          all_goals push_cast [↓zK,↓zJ]
          all_goals repeat'(first|(apply zP<;>(intro hg;(try simp only [push_cast]at hg)))|apply And.intro|(intro hg;(try simp only [push_cast]at hg)))
          all_goals first|exact gA|(exact zS (by omega))|(rw [List.length_set];omega)|(simp only [List.length_set];omega)|skip
          all_goals(refine hK _ ?_;clear hK K)
          refine zT rfl (fun hc=> ?_) (fun hc=> ?_)<;>(try simp only [push_cast]at hc)
          ·
           refine zi ?_
           refine hK4 _ ?_
           refine zM zO zN [] rfl ?_
           all_goals push_cast [↓zK,↓zJ]
           all_goals repeat'(first|(apply zP<;>(intro hg;(try simp only [push_cast]at hg)))|apply And.intro|(intro hg;(try simp only [push_cast]at hg)))
           all_goals first|exact gA|(exact zS (by omega))|(rw [List.length_set];omega)|(simp only [List.length_set];omega)|skip
           refine hL1 _ ⟨(k+1,Q,out,lc.set v0 (vL x inn lc v0 - 1),Lf.set v0 (gi Lf v0 - 1),qd,o),⟨by dsimp only;omega,hst2.2.1 (by omega),hq3,by dsimp only;first|exact hq2|(rw [List.take_append_of_le_length (by omega)];exact hq2),by dsimp only;first|exact hu2|(rw [Wb hil];exact hu2),by dsimp only;first|exact hil|(rw [List.length_append];omega)⟩,by dsimp only;omega,?_⟩
           skip
           refine zX rfl ?_ ?_ ?_<;>push_cast [zg,zf,↓zK,↓zJ]
           all_goals first|rfl|(rw [JH];done)|(simp [dI];done)|skip
          ·
           refine zU ?_
           refine hK6 _ ?_
           refine zL fun K hK=> ?_
           refine zM zO zN [] rfl ?_
           all_goals push_cast [↓zK,↓zJ]
           all_goals repeat'(first|(apply zP<;>(intro hg;(try simp only [push_cast]at hg)))|apply And.intro|(intro hg;(try simp only [push_cast]at hg)))
           all_goals first|exact gA|(exact zS (by omega))|(rw [List.length_set];omega)|(simp only [List.length_set];omega)|skip
           all_goals(refine hK _ ?_;clear hK K)
           refine XP (Uw tyT) (jB zO) (some 114) zO zN [] rfl ?_
           push_cast [↓zK,↓zJ]
           repeat'(first|apply And.intro|(intro pre hpre))
           all_goals first|exact True.intro|exact rfl|omega|with_reducible assumption|(simp only [Qj];omega)|(decide)|skip
           obtain⟨ps,hps,rfl⟩:=zE4 hpre
           clear hpre
           push_cast [↓zK,↓zJ]
           all_goals repeat'(first|apply And.intro)
           all_goals first|exact True.intro|exact rfl|omega|skip
           refine hK4 _ ?_
           refine zM zO zN [] rfl ?_
           all_goals push_cast [↓zK,↓zJ]
           all_goals repeat'(first|(apply zP<;>(intro hg;(try simp only [push_cast]at hg)))|apply And.intro|(intro hg;(try simp only [push_cast]at hg)))
           all_goals first|exact gA|(exact zS (by omega))|(rw [List.length_set];omega)|(simp only [List.length_set];omega)|skip
           refine hL1 _ ⟨(k+1,Q++ [(v0:Int)],out.set v0 true,lc.set v0 (vL x inn lc v0 - 1),Lf.set v0 (gi Lf v0 - 1),ps++(qd.drop o++ [(v0:Int)]),ps.length),⟨by dsimp only;omega,hst2.2.2 (by omega),hq3.push _ hps,by dsimp only;first|exact hq2|(rw [List.take_append_of_le_length (by omega)];exact hq2),by dsimp only;first|exact hu2|(rw [Wb hil];exact hu2),by dsimp only;first|exact hil|(rw [List.length_append];omega)⟩,by dsimp only;omega,?_⟩
           rw [show(Q++ [(v0:Int)]).length - (i+1)=Q.length - (i+1)+1 from by rw [List.length_append,List.length_singleton];omega]
           refine zX rfl ?_ ?_ ?_<;>push_cast [zg,zf,↓zK,↓zJ]
           all_goals first|rfl|(rw [JH];done)|(simp [dI];done)|skip
        ·
         refine zU ?_
         refine hK6 _ ?_
         refine zL fun K hK=> ?_
         refine zM zO zN [] rfl ?_
         all_goals push_cast [↓zK,↓zJ]
         all_goals repeat'(first|(apply zP<;>(intro hg;(try simp only [push_cast]at hg)))|apply And.intro|(intro hg;(try simp only [push_cast]at hg)))
         all_goals first|exact gA|(exact zS (by omega))|(rw [List.length_set];omega)|(simp only [List.length_set];omega)|skip
         all_goals(refine hK _ ?_;clear hK K)
         refine XP (Uw tyT) (jB zO) (some 114) zO zN [] rfl ?_
         push_cast [↓zK,↓zJ]
         repeat'(first|apply And.intro|(intro pre hpre))
         all_goals first|exact True.intro|exact rfl|omega|with_reducible assumption|(simp only [Qj];omega)|(decide)|skip
         obtain⟨ps,hps,rfl⟩:=zE4 hpre
         clear hpre
         push_cast [↓zK,↓zJ]
         all_goals repeat'(first|apply And.intro)
         all_goals first|exact True.intro|exact rfl|omega|skip
         refine hK4 _ ?_
         refine zM zO zN [] rfl ?_
         all_goals push_cast [↓zK,↓zJ]
         all_goals repeat'(first|(apply zP<;>(intro hg;(try simp only [push_cast]at hg)))|apply And.intro|(intro hg;(try simp only [push_cast]at hg)))
         all_goals first|exact gA|(exact zS (by omega))|(rw [List.length_set];omega)|(simp only [List.length_set];omega)|skip
         refine hL1 _ ⟨(k+1,Q++ [(v0:Int)],out.set v0 true,lc,Lf.set v0 (gi Lf v0 - 1),ps++(qd.drop o++ [(v0:Int)]),ps.length),⟨by dsimp only;omega,hst.1 (by first|assumption|omega|(simpa using hc)),hq3.push _ hps,by dsimp only;first|exact hq2|(rw [List.take_append_of_le_length (by omega)];exact hq2),by dsimp only;first|exact hu2|(rw [Wb hil];exact hu2),by dsimp only;first|exact hil|(rw [List.length_append];omega)⟩,by dsimp only;omega,?_⟩
         rw [show(Q++ [(v0:Int)]).length - (i+1)=Q.length - (i+1)+1 from by rw [List.length_append,List.length_singleton];omega]
         refine zX rfl ?_ ?_ ?_<;>push_cast [zg,zf,↓zK,↓zJ]
         all_goals first|rfl|(rw [JH];done)|(simp [dI];done)|skip
        done)
      |(
        refine zi ?_
        refine hK4 _ ?_
        refine zM zO zN [] rfl ?_
        all_goals push_cast [↓zK,↓zJ]
        all_goals repeat'(first|(apply zP<;>(intro hg;(try simp only [push_cast]at hg)))|apply And.intro|(intro hg;(try simp only [push_cast]at hg)))
        all_goals first|exact gA|(exact zS (by omega))|(rw [List.length_set];omega)|(simp only [List.length_set];omega)|skip
        refine hL1 _ ⟨(k+1,Q,out,lc,Lf,qd,o),⟨by dsimp only;omega,hA2.skip (v0:=v0) hv0 hqi2.2.1 (by first|exact .inl (by with_reducible assumption)|exact .inr (.inl (by with_reducible assumption))) hps0,hq3,by dsimp only;first|exact hq2|(rw [List.take_append_of_le_length (by omega)];exact hq2),by dsimp only;first|exact hu2|(rw [Wb hil];exact hu2),by dsimp only;first|exact hil|(rw [List.length_append];omega)⟩,by dsimp only;omega,?_⟩
        skip
        refine zX rfl ?_ ?_ ?_<;>push_cast [zg,zf,↓zK,↓zJ]
        all_goals first|rfl|(rw [JH];done)|(simp [dI];done)|skip
        done)
    ·
     refine zi ?_
     refine hL0 _ ⟨(i+1,Q,out,lc,Lf,qd,o),⟨by dsimp only;omega,hA2.cong (zDx hx hil hq2 hu2 (by omega) hA2.at_),hq3⟩,by dsimp only;omega,?_⟩
     refine zX rfl ?_ ?_ ?_<;>push_cast [zg,zf,↓zK,↓zJ]
  ·
   refine zi ?_
   have hie:i=Q.length:=by omega
   subst hie
   have hfin:=AtI.end' hx hA.at_
   rw [hR]at hfin
   refine hK1 _ ?_
   refine zL fun K hK=> ?_
   refine zM zO zN [] rfl ?_
   all_goals push_cast [↓zK,↓zJ]
   all_goals repeat'(first|(apply zP<;>(intro hg;(try simp only [push_cast]at hg)))|apply And.intro|(intro hg;(try simp only [push_cast]at hg)))
   all_goals first|exact gA|(exact zS (by omega))|(rw [List.length_set];omega)|(simp only [List.length_set];omega)|skip
   all_goals(refine hK _ ?_;clear hK K)
   refine zW ?_
   refine⟨Or.inl rfl,?_⟩
   push_cast [VC,za,vU,yB,yZ,↓zK,↓zJ]
   (try rw [hfin])
   all_goals first|rfl|exact⟨rfl,hatl⟩|exact⟨rfl,hatl.symm⟩|(simp_all;done)|skip
section
variable {P:Program} {τ:Ty} {lo:Nat} {w0:Fz} {ow:Nat→Option Pl} {hd:Nat→Value} {bk:Nat→Nat} {st:St} {a:Act} {w:World}
def FnA (P:Program)(τ:Ty)(f:FuncId)(d:D):Prop:=
 vJ P f∧∀(w:World) (g v:Value),Rp (sz τ) 0 w (fun _=>none) .sh d v→Calls P f #[g,v] w fun e w'=>e= .returned (.tuple #[v, .int .i64 0])∧Below w.heap.size w w'
def jC (P:Program)(τ:Ty)(o:Oper)(K:St→Prop)(st:St):Prop:=
 match yA o with
 |some (f,args,ts)=>
  match args.toList with
  | [X,Y]=>
   match cellsOf τ st (ev st Y)with
   |some (d,ob)=>ob∧FnA P τ f d∧K (st.put o.dst (.tup [ev st Y, .int .i64 0]))
   |none=>False
  |_=>False
 |none=>False
theorem Ux :jA P τ (jC P τ):=by
 intro lo w0 st a w o K Q K' hd9 h ha hK
 obtain⟨ow,hd,bk,hr⟩:=h
 unfold jC at ha
 split at ha
 rotate_left
 ·exact ha.elim
 rename_i f args ts hc
 split at ha
 rotate_left
 ·exact ha.elim
 rename_i X Y hXY
 split at ha
 rotate_left
 ·exact ha.elim
 rename_i d ob hcell
 obtain⟨hob,⟨hcl,hcall⟩,hK1⟩:=ha
 have hv:=ze hr Y
 have hrp:=wW hr (ow':=fun _=>none) (fun _ _ _ _ _ _ _=>rfl) hv hcell hob 0
 have hC:=hcall w (a.eval X) _ hrp
 unfold Oper.wp
 rw [Yj hr hc hcl,hXY]
 simp only [Oper.upon]
 refine hC.mono fun e' w' hpost=> ?_
 obtain⟨he,hbl⟩:=hpost
 subst he
 have hgrow:=Xb hr (w':=w') (ow':=ow) hbl.size (fun b hb=>⟨hbl.block b hb,rfl⟩) (hr.below.below hbl) (fun b p hle hp hne=>by rw [hr.new b hle]at hp;cases hp) (fun b hle=>hr.new b (by have :=hbl.size;omega))
 refine hK _ _ w' hK1 (xV hgrow hd9 ?_)
 simp only [AvR]
 refine⟨[a.eval Y, .int .i64 0],rfl,?_⟩
 simp only [zZ]
 exact⟨_,_,rfl,ze hgrow Y,_,_,rfl,by simp only [AvR],rfl⟩
def YN (τ:Ty)(n:Nat)(e:TypeId)(xs:List D):St:={n:=n,s:= [(1, .sl 16 [] 0 (xs.length / sz τ e) e),(0, .dead)],b:= [],r:= [(16,⟨.sh,e,xs,some 16⟩)]}
def RetA (e:TypeId)(xs:List D)(τ:Ty)(rs:List ResultVar)(ex:Exit)(st:St):Prop:=(ex= .ret∨ex= .normal)∧
 match yB τ st rs with
 |some ([.sl d [] 0 m e', .int .i64 0],ob)=>ob∧(match lk st.r d with|some R=>R.pin=some 16∧R.e=e'∧R.xs.length=m*sz τ e'∧sz τ e'≠0|none=>False)
 |_=>False
theorem zAE {n:Nat}{e:TypeId}{xs:List D}{g v:Value}(hn:2≤n)(hz:sz τ e≠0)(hv:Rp (sz τ) 0 w (fun _=>none) .sh (.lst e xs) v):
  zd τ w.heap.size ⟨w,fun _=>True,fun id=>if id=16 then some v else none⟩ (fun _=>none) (fun _=>v) (fun _=>0) (YN τ n e xs) {tmps:= #[g,v]++Array.replicate (n - #[g,v].size) undef,defers:= []} w:=by
 obtain⟨vs,⟨k1,N,k2,A,c,k3,k4,k5,k6⟩,k7⟩:=(zu _ _).1 hv
 have hN:xs.length / sz τ e=N:=by rw [k2];exact Nat.mul_div_cancel _ (Nat.pos_of_ne_zero hz)
 refine⟨fun ad h=> ?_,rfl,?_,Nat.le_refl _,⟨rfl,rfl,rfl,Nat.le_refl _,fun b hb _=>rfl⟩,fun b p hb h=>(by cases h),fun b hb=>rfl,fun k u hk=> ?_,fun d R hd=> ?_,fun t us ht=> ?_,fun d R i hd hp=> ?_⟩
 ·simp at h
 ·simp [YN];omega
 ·simp only [YN,zc,yp]at hk
  split at hk
  ·rename_i e1
   cases hk
   subst e1
   have h1:(#[g,v]++Array.replicate (n - #[g,v].size) undef).getD 1 undef=v:=by
    rw [Array.getD_eq_getD_getElem?,Array.getElem?_append_left (by simp)]
    rfl
   show AvR _ _ _ _ _ _ _ ((#[g,v]++Array.replicate (n - #[g,v].size) undef).getD 1 undef)
   rw [h1]
   simp only [AvR]
   refine⟨⟨A,N,c,k3⟩,fun R hR hp=>⟨v,by simp only [yC],A,N,c,A,c,nw0,k3,by rw [hN];exact k3,by omega,by omega,k5,fun _=>⟨rfl,rfl⟩,fun hne=> ?_⟩⟩
   obtain⟨b,o,e1,-⟩:=k6 (by omega)
   exact⟨b,o,e1,by rw [Nat.zero_mul];exact e1⟩
  ·split at hk
   ·cases hk;simp only [AvR]
   ·cases hk
 ·simp only [YN,zc,yp]at hd
  split at hd
  ·rename_i e1
   cases hd
   exact UP hv
  ·cases hd
 ·simp only [YN,yp]at ht;cases ht
 ·simp only [YN,zc,yp]at hd
  split at hd
  ·cases hd;cases hp;simp
  ·cases hd
theorem zIa (hτ:zx P τ)(hpos:yO τ){f:FuncId}{fn:Func}{c:Code}{rs:List ResultVar}{e:TypeId}{xs:List D}(hfn:P.funcs[f]? =some fn)(hname:(fn.name== "runtime.NumGoroutine")=false)(hb:fn.body=some c)(hres:fn.results=rs.toArray)(hn:2≤fn.ntmps)(hz:sz τ e≠0)
  (h:awp P τ c (RetA e xs τ rs) (YN τ fn.ntmps e xs)):FnA P τ f (.lst e xs):=by
 refine⟨⟨fn,hfn,hname,by rw [hb];rfl⟩,fun w g v hv=> ?_⟩
 have hst0:=zAE (g:=g) hn hz hv
 refine calls_of_wp hfn hb (Go.wp_mono (h _ _ _ w ⟨_,_,_,hst0⟩) fun ex a' w' ⟨st',⟨ow,hd,bk,hr⟩,he,hret0⟩=> ?_)
 have hpost:a'.defers= []∧∃z,(results fn a'.tmps).run P w'= .ok z w'∧((Ending.returned z)= .returned (.tuple #[v, .int .i64 0])∧Below w.heap.size w w'):=by
  split at hret0
  rotate_left
  ·exact hret0.elim
  rename_i d m e' ob hrv
  obtain⟨hob,hR0⟩:=hret0
  cases hR:lk st'.r d with
  |none=>rw [hR]at hR0;exact hR0.elim
  |some R=>
   rw [hR]at hR0
   obtain⟨hp,hRe,hlen,hz'⟩:=hR0
   obtain⟨zs,hrun,hvs⟩:=qk hτ hpos hr hres hrv hob
   simp only [zZ,AvR]at hvs
   obtain⟨x0,l0,rfl,⟨-,hx0⟩,x1,l1,rfl,rfl,rfl⟩:=hvs
   obtain⟨hv9,hin,hsub⟩:=hx0 R hR (by simp only [zk])
   simp only [yC,Option.some.injEq]at hin
   subst hin
   have hpin:=hr.pin d R 16 hR hp
   simp only [if_true,Option.some.injEq]at hpin
   obtain⟨A,n,c1,A',c',hnw,hhd,hval,hle2,hlc,hmx,hf0,hA⟩:=hsub
   obtain⟨rfl,rfl⟩:=hf0 rfl
   obtain⟨A3,n3,c3,e3,l3,-⟩:=xG (hr.root _ R hR)
   rw [hhd]at e3
   cases e3
   rw [hRe]at l3
   have hnm:n=m:=Nat.eq_of_mul_eq_mul_right (Nat.pos_of_ne_zero hz') (by rw [←l3,hlen])
   subst hnm
   refine⟨hr.defers,_,hrun,?_,⟨hr.below.os,hr.below.tape,hr.below.output,hr.below.size,fun b hb=>hr.below.block b hb trivial⟩⟩
   rw [hval,←hhd,←hpin]
   rfl
 rcases he with rfl|rfl<;>exact hpost
end
attribute [push_cast] jC YN RetA
def dU (xs:List Int):List D:=xs.map (.int .u8)
theorem zJU (xs:List Int):(dU xs).length=xs.length:=by simp [dU]
theorem zHi (xs:List Int)(i:Nat):XR (dU xs) i=gi xs i:=by
 unfold XR dU gi
 rw [List.getElem?_map,List.getD_eq_getElem?_getD]
 cases xs[i]? <;>rfl
theorem zHB (xs:List Int)(i:Nat):xX (.int .u8) (dU xs) i=(i<xs.length):=by
 unfold xX dU
 rw [List.getElem?_map]
 apply propext
 constructor
 ·rintro⟨n,h⟩
  cases hx:xs[i]? with
  |none=>rw [hx]at h;cases h
  |some y=>exact(List.getElem?_eq_some_iff.1 hx).1
 ·intro h
  rw [List.getElem?_eq_getElem h]
  exact⟨_,rfl⟩
theorem zIP (xs:List Int)(n:Nat):(dU xs).take n=dU (xs.take n):=by simp [dU]
theorem zHX (xs:List Int)(n:Nat):(dU xs).drop n=dU (xs.drop n):=by simp [dU]
theorem zIQ :Int.toNat 33=33:=rfl
theorem zHy :min 33 64=33:=rfl
theorem zHK (n:Int):arC .i64 n=(.int .i64 n,jW n):=rfl
attribute [push_cast] zIQ zHy zHK zJU zHi zHB zIP zHX
section
variable {P:Program} {τ:Ty} {lo:Nat} {w0:Fz} {ow:Nat→Option Pl} {hd:Nat→Value} {bk:Nat→Nat} {st:St} {a:Act} {w:World}
end
theorem rm_kv {α:Type}(f:Nat→Bool)(k:Nat)(v:α)(l:List (Nat×α)):rm f ((k,v)::l)=if f k=true then rm f l else(k,v)::rm f l:=by
 unfold rm
 rw [List.filter_cons]
 cases f k<;>rfl
theorem rm_nl {α:Type}(f:Nat→Bool):rm f ([]:List (Nat×α))= []:=rfl
attribute [push_cast] rm_kv rm_nl
attribute [-push_cast] rm
theorem zGR (n:Nat):(1:Int)+(n:Int)=(n:Int)+1:=Int.add_comm _ _
attribute [push_cast] zGR Int.sub_zero
def ilv (ps:List Pr):List (List Int):=ps.flatMap fun p=> [p.ask,p.give]
def gp (ps:List Pr)(k:Nat):Pr:=ps.getD k ⟨[],[]⟩
theorem Kd (p:Pr)(ps:List Pr):ilv (p::ps)=p.ask::p.give::ilv ps:=rfl
theorem m2d (n:Nat):n*2 / 2=n:=by omega
theorem zCi (ps:List Pr):(ilv ps).length=ps.length*2:=by
 induction ps with
 |nil=>rfl
 |cons p ps ih=>rw [Kd,List.length_cons,List.length_cons,ih,List.length_cons];omega
theorem zHj (ps:List Pr)(k:Nat):gl (ilv ps) (k*2)=(gp ps k).ask:=by
 induction ps generalizing k with
 |nil=>rfl
 |cons p ps ih=>
  cases k with
  |zero=>rfl
  |succ k=>rw [show(k+1)*2=k*2+1+1 from by omega,Kd];exact ih k
theorem zHk (ps:List Pr)(k:Nat):gl (ilv ps) (k*2+1)=(gp ps k).give:=by
 induction ps generalizing k with
 |nil=>rfl
 |cons p ps ih=>
  cases k with
  |zero=>rfl
  |succ k=>rw [show(k+1)*2+1=k*2+1+1+1 from by omega,Kd];exact ih k
attribute [push_cast] m2d zCi zHj zHk
theorem zFI (ps:List Pr):(ilv ps).take (ps.length*2)=ilv ps:=List.take_of_length_le (by rw [zCi];exact Nat.le_refl _)
attribute [push_cast] zFI
def PLn (B:Nat)(ps:List Pr):Prop:=ps.length≤B∧∀p∈ps,p.Ln B
theorem PLn.mono {B C:Nat}(hB:B≤C){ps:List Pr}(h:PLn B ps):PLn C ps:=⟨Nat.le_trans h.1 hB,fun p hp=>Pr.ln_mono hB (h.2 p hp)⟩
set_option maxRecDepth 20000 in
set_option maxHeartbeats 4000000 in
theorem ZJ (s:List Int)(hs:s.length≤1048576)(n:Int)(hn:0≤n∧n≤256):Fn Tryz.prog tyT 62 [.c (DI s), .c (.int .i64 n)] [.c (.bool (yf s n))]:=by
 refine zr (fn:=Tryz.f62) (ts:= [4]) Tryz.func62 (by kernel_rfl) rfl rfl (by rw [Tryz.ntmps62];exact Nat.le_of_ble_eq_true rfl) rfl (by simp only [szA,List.mem_cons,List.not_mem_nil,or_false,forall_eq_or_imp,forall_eq,VT.cells,szL];try decide) ?_
 rw [Tryz.ntmps62]
 push_cast
 refine zL fun K hK=> ?_
 refine zM zO zN [] rfl ?_
 push_cast
 repeat' apply And.intro
 all_goals try exact gB
 refine hK _ ?_;clear hK K
 refine zL fun K hK=> ?_
 refine zj false zO zN ?_ rfl ?_
 ·kernel_rfl
 all_goals refine yF 2 fun K9 hK9=> ?_
 all_goals push_cast
 all_goals repeat'(first|(apply zP<;>(intro hg;push_cast at hg))|(refine⟨_,xB _ _ _,?_⟩;push_cast)|(refine⟨_,xQ s n hs (by omega) (by omega),?_⟩;push_cast)|apply And.intro|(intro hg;push_cast at hg))
 all_goals try exact gA
 refine hK9 _ ?_;clear hK9 K9
 all_goals refine yF 4 fun K9 hK9=> ?_
 all_goals push_cast
 all_goals repeat'(first|(apply zP<;>(intro hg;push_cast at hg))|(refine⟨_,xB _ _ _,?_⟩;push_cast)|(refine⟨_,xQ s n hs (by omega) (by omega),?_⟩;push_cast)|apply And.intro|(intro hg;push_cast at hg))
 all_goals try exact gA
 refine hK9 _ ?_;clear hK9 K9
 all_goals push_cast
 all_goals repeat'(first|(apply zP<;>(intro hg;push_cast at hg))|(refine⟨_,xB _ _ _,?_⟩;push_cast)|(refine⟨_,xQ s n hs (by omega) (by omega),?_⟩;push_cast)|apply And.intro|(intro hg;push_cast at hg))
 all_goals try exact gA
 refine hK _ ?_;clear hK K
 all_goals(
   refine zW ?_
   refine⟨Or.inl rfl,?_⟩
   push_cast [za]
   all_goals first|rfl|omega|(symm;with_reducible assumption))
set_option maxRecDepth 20000 in
set_option maxHeartbeats 4000000 in
theorem YS (xs:List Int)(x:Int)(hl:xs.length≤1048576):Fn Tryz.prog tyT 93 [.c (DI xs), .c (.int .i64 x)] [.c (.bool (yD xs x))]:=by
 refine zr (fn:=Tryz.f93) (ts:= [4]) Tryz.func93 (by kernel_rfl) rfl rfl (by rw [Tryz.ntmps93];exact Nat.le_of_ble_eq_true rfl) rfl (by simp only [szA,List.mem_cons,List.not_mem_nil,or_false,forall_eq_or_imp,forall_eq,VT.cells,szL];try decide) ?_
 rw [Tryz.ntmps93]
 push_cast
 refine zL fun K hK=> ?_
 refine zM zO zN [] rfl ?_
 push_cast
 repeat' apply And.intro
 all_goals try exact gB
 refine hK _ ?_;clear hK K
 refine zL fun K1 hK1=> ?_
 refine zL fun K hK=> ?_
 refine zM zO zN [] rfl ?_
 push_cast
 repeat' apply And.intro
 all_goals try exact gB
 refine hK _ ?_;clear hK K
 refine zV ?_
 refine zh [4,5,6,7,8,9,10,11,12,13,14,15,16,17] [] (fun(k:Nat)=> [(5, .int .i64 k)]) (fun k=> []) (fun k=> []) (fun k=>k≤xs.length∧∀j,j<k→¬gi xs j=x) (fun k=>xs.length - k) 0 ?_ ⟨by omega,fun j hj=>by omega⟩ ?_
 ·
  refine zX rfl ?_ ?_ ?_<;>push_cast [zg,zf]
 ·rintro k ⟨hk,hall⟩ KL0 hL0
  push_cast
  refine zL fun K2 hK2=> ?_
  refine zL fun K hK=> ?_
  refine zM zO zN [] rfl ?_
  push_cast
  repeat' apply And.intro
  all_goals try exact gB
  refine hK _ ?_;clear hK K
  refine zT rfl (fun hc=> ?_) (fun hc=> ?_)<;>(try simp only [push_cast]at hc)
  ·
   refine zU ?_
   refine hK2 _ ?_
   refine zL fun K3 hK3=> ?_
   refine zV ?_
   refine zL fun K hK=> ?_
   refine zM zO zN [] rfl ?_
   push_cast
   repeat' apply And.intro
   all_goals try exact gB
   refine hK _ ?_;clear hK K
   refine zT rfl (fun hc=> ?_) (fun hc=> ?_)<;>(try simp only [push_cast]at hc)
   ·
    refine zL fun K hK=> ?_
    refine zM zO zN [] rfl ?_
    push_cast
    repeat' apply And.intro
    all_goals try exact gB
    refine hK _ ?_;clear hK K
    refine zW ?_
    refine⟨Or.inl rfl,?_⟩
    push_cast [za]
    have hf:qJ xs x=k:=kP (by omega) hall (by omega)
    unfold yD
    rw [hf]
    exact(decide_eq_true (by omega)).symm
   ·
    refine zU ?_
    refine hK3 _ ?_
    refine zM zO zN [] rfl ?_
    push_cast
    repeat' apply And.intro
    all_goals try exact gB
    refine hL0 _ ⟨k+1,⟨by omega,fun j hj=>(by
      by_cases hjk:j=k
      ·subst hjk;omega
      ·exact hall j (by omega))⟩,by omega,?_⟩
    refine zX rfl ?_ ?_ ?_<;>push_cast [zg,zf]
  ·
   refine zi ?_
   refine hK1 _ ?_
   refine zL fun K hK=> ?_
   refine zM zO zN [] rfl ?_
   push_cast
   repeat' apply And.intro
   all_goals try exact gB
   refine hK _ ?_;clear hK K
   refine zW ?_
   refine⟨Or.inl rfl,?_⟩
   push_cast [za]
   unfold yD
   rw [WX (fun j hj=>hall j (by omega))]
   exact(decide_eq_false (by omega)).symm
structure Plc where
 at_:Int
 record:List Int
 deriving DecidableEq
def dPlc (x:Plc):List D:= [.int .i64 x.at_,DI x.record]
def Plc.tot (x:Plc):Nat:=x.record.length
structure Plc.Ln (B:Nat)(x:Plc):Prop where
 record:LnI B x.record
theorem Plc.ln_of {B:Nat}{x:Plc}(h:x.tot≤B):x.Ln B:=by
 unfold Plc.tot at h
 exact⟨YL (by omega)⟩
def yw (ps:List Plc):List D:=ps.flatMap dPlc
def gq (ps:List Plc)(k:Nat):Plc:=ps.getD k ⟨0,[]⟩
theorem wE (p:Plc)(ps:List Plc):yw (p::ps)= .int .i64 p.at_::DI p.record::yw ps:=rfl
theorem m2q (n:Nat):n*2 / 2=n:=by omega
theorem zAu (ps:List Plc):(yw ps).length=ps.length*2:=by
 induction ps with
 |nil=>rfl
 |cons p ps ih=>rw [wE,List.length_cons,List.length_cons,ih,List.length_cons];omega
theorem zFj (ps qs:List Plc):yw (ps++qs)=yw ps++yw qs:=List.flatMap_append ..
theorem zD9 (ps:List Plc)(x:Int)(r:List Int):yw ps++ [D.int .i64 x,D.lst 2 (dI r)]=yw (ps++ [⟨x,r⟩]):=by rw [zFj];rfl
theorem zDm (ps:List Plc):(yw ps).take (ps.length*2)=yw ps:=List.take_of_length_le (by rw [zAu];exact Nat.le_refl _)
theorem zGw {ps:List Plc}{k:Nat}(h:k<ps.length):ps[k]? =some (gq ps k):=by
 unfold gq
 rw [List.getD_eq_getElem?_getD,List.getElem?_eq_getElem h]
 rfl
theorem zDQ {ps:List Plc}{k:Nat}(h:ps.length≤k):gq ps k=⟨0,[]⟩:=by
 unfold gq
 rw [List.getD_eq_getElem?_getD,List.getElem?_eq_none h]
 rfl
theorem YQ {ps:List Plc}{k:Nat}(h:k<ps.length):gq ps k∈ps:=List.mem_of_getElem? (zGw h)
theorem zAV (ps:List Plc)(k:Nat):(yw ps)[k*2]? =if k<ps.length then some (.int .i64 (gq ps k).at_)else none:=by
 induction ps generalizing k with
 |nil=>rfl
 |cons p ps ih=>
  cases k with
  |zero=>rfl
  |succ k=>
   rw [show(k+1)*2=k*2+1+1 from by omega,wE,List.getElem?_cons_succ,List.getElem?_cons_succ,ih,List.length_cons]
   simp only [gq,List.getD_cons_succ]
   split<;>split<;>first|rfl|omega
theorem VN (ps:List Plc)(k:Nat):(yw ps)[k*2+1]? =if k<ps.length then some (DI (gq ps k).record)else none:=by
 induction ps generalizing k with
 |nil=>rfl
 |cons p ps ih=>
  cases k with
  |zero=>rfl
  |succ k=>
   rw [show(k+1)*2+1=k*2+1+1+1 from by omega,wE,List.getElem?_cons_succ,List.getElem?_cons_succ,ih,List.length_cons]
   simp only [gq,List.getD_cons_succ]
   split<;>split<;>first|rfl|omega
theorem zEW (ps:List Plc)(k:Nat):XR (yw ps) (k*2)=(gq ps k).at_:=by
 unfold XR
 rw [zAV]
 by_cases h:k<ps.length
 ·rw [if_pos h]
 ·rw [if_neg h,zDQ (by omega)]
theorem zEX (ps:List Plc)(k:Nat):xO (yw ps) (k*2+1)=dI (gq ps k).record:=by
 unfold xO
 rw [VN]
 by_cases h:k<ps.length
 ·rw [if_pos h]
 ·rw [if_neg h,zDQ (by omega)];rfl
theorem zb {ps:List Plc}{k:Nat}(h:k<ps.length):qt (yw ps) (k*2+1)=2:=by
 unfold qt
 rw [VN,if_pos h]
theorem zC4 (ps:List Plc)(k:Nat):xX (.int .i64) (yw ps) (k*2)=(k<ps.length):=by
 unfold xX
 rw [zAV]
 apply propext
 constructor
 ·rintro⟨n,h⟩;split at h;assumption;cases h
 ·intro h;rw [if_pos h];exact⟨_,rfl⟩
theorem zC5 (ps:List Plc)(k:Nat):xX (.sl 2) (yw ps) (k*2+1)=(k<ps.length):=by
 unfold xX
 rw [VN]
 apply propext
 constructor
 ·rintro⟨n,h⟩;split at h;assumption;cases h
 ·intro h;rw [if_pos h];exact⟨_,rfl⟩
theorem zBw (ps:List Plc)(k:Nat):zk (yw ps) [k*2+1]=(k<ps.length):=by
 unfold zk
 rw [VN]
 apply propext
 constructor
 ·rintro⟨e,ys,h,-⟩;split at h;assumption;cases h
 ·intro h;rw [if_pos h];exact⟨_,_,rfl,trivial⟩
theorem zFC (ps:List Plc)(k:Nat)(n:Int):(yw ps).set (k*2) (.int .i64 n)=yw (ps.set k ⟨n,(gq ps k).record⟩):=by
 induction ps generalizing k with
 |nil=>simp [yw]
 |cons p ps ih=>
  cases k with
  |zero=>rfl
  |succ k=>rw [show(k+1)*2=k*2+1+1 from by omega,wE,List.set_cons_succ,List.set_cons_succ,ih,List.set_cons_succ,wE];rfl
theorem zFD (ps:List Plc)(k:Nat)(r:List Int):(yw ps).set (k*2+1) (.lst 2 (dI r))=yw (ps.set k ⟨(gq ps k).at_,r⟩):=by
 induction ps generalizing k with
 |nil=>simp [yw]
 |cons p ps ih=>
  cases k with
  |zero=>rfl
  |succ k=>rw [show(k+1)*2+1=k*2+1+1+1 from by omega,wE,List.set_cons_succ,List.set_cons_succ,ih,List.set_cons_succ,wE];rfl
attribute [push_cast] m2q zAu zDm zD9 zEW zEX zC4 zC5 zBw zFC zFD
def QLn (B:Nat)(ps:List Plc):Prop:=ps.length≤B∧∀p∈ps,p.record.length≤B
theorem JS {B:Nat}{ps:List Plc}(h:QLn B ps)(k:Nat):(gq ps k).record.length≤B:=by
 rcases Nat.lt_or_ge k ps.length with hk|hk
 ·exact h.2 _ (YQ hk)
 ·rw [zDQ hk];exact Nat.zero_le _
attribute [-push_cast] rm
def Zn (g:Pa)(xs:List Int):Nat→Int
 |0=> -1
 |k+1=>if gi g.prio (gi xs k).toNat>Zn g xs k then gi g.prio (gi xs k).toNat else Zn g xs k
theorem zBV (g:Pa)(xs:List Int)(k:Nat):Zn g xs (k+1)=if gi g.prio (gi xs k).toNat>Zn g xs k then gi g.prio (gi xs k).toNat else Zn g xs k:=rfl
theorem zBU (g:Pa)(xs:List Int): ∀k j,j<k→gi g.prio (gi xs j).toNat≤Zn g xs k
 |0,j,h=>by omega
 |k+1,j,h=>by
  rw [zBV]
  by_cases e:j=k
  ·subst e;split<;>omega
  ·have :=zBU g xs k j (by omega)
   split<;>omega
theorem zCx (g:Pa)(xs:List Int): ∀k,Zn g xs k= -1∨∃j,j<k∧gi g.prio (gi xs j).toNat=Zn g xs k
 |0=> .inl rfl
 |k+1=>by
  rw [zBV]
  split
  ·exact .inr ⟨k,by omega,rfl⟩
  ·rcases zCx g xs k with e|⟨j,hj,e⟩
   ·exact .inl e
   ·exact .inr ⟨j,by omega,e⟩
set_option maxRecDepth 20000 in
set_option maxHeartbeats 4000000 in
theorem zGm (g:Pa)(hg:g.Ln 1048576)(xs:List Int)(hx:xs.length≤1048576)(hr: ∀j,j<xs.length→0≤gi xs j∧gi xs j<g.prio.length):Fn Tryz.prog tyT 181 [.agg (dPa g), .c (DI xs)] [.c (.int .i64 (Zn g xs xs.length))]:=by
 unfold dPa
 refine zr (fn:=Tryz.f181) (ts:= [4]) Tryz.func181 (by kernel_rfl) rfl rfl (by rw [Tryz.ntmps181];exact Nat.le_of_ble_eq_true rfl) rfl (by simp only [szA,List.mem_cons,List.not_mem_nil,or_false,forall_eq_or_imp,forall_eq,VT.cells,szL];try decide) ?_
 rw [Tryz.ntmps181]
 push_cast
 refine zL fun K hK=> ?_
 refine zM zO zN [] rfl ?_
 push_cast
 repeat' apply And.intro
 all_goals try exact gB
 refine hK _ ?_;clear hK K
 refine zL fun K hK=> ?_
 refine zM zO zN [] rfl ?_
 push_cast
 repeat' apply And.intro
 all_goals try exact gB
 refine hK _ ?_;clear hK K
 refine zL fun K1 hK1=> ?_
 refine zL fun K hK=> ?_
 refine zM zO zN [] rfl ?_
 push_cast
 repeat' apply And.intro
 all_goals try exact gB
 refine hK _ ?_;clear hK K
 refine zV ?_
 refine zh [5,7,10,11,12,13,14,15,16,17,18,19,20,21] [] (fun(k:Nat)=> [(10, .int .i64 k),(5, .int .i64 (Zn g xs k))]) (fun k=> []) (fun k=> []) (fun k=>k≤xs.length) (fun k=>xs.length - k) 0 ?_ (by omega) ?_
 ·
  rw [show Zn g xs 0= -1 from rfl]
  refine zX rfl ?_ ?_ ?_<;>push_cast [zg,zf]
 ·rintro k hk KL0 hL0
  push_cast
  refine zL fun K hK=> ?_
  refine zM zO zN [] rfl ?_
  push_cast
  repeat' apply And.intro
  all_goals try exact gB
  refine hK _ ?_;clear hK K
  refine zL fun K2 hK2=> ?_
  refine zT rfl (fun hc=> ?_) (fun hc=> ?_)<;>(try simp only [push_cast]at hc)
  ·
   refine zU ?_
   refine hK2 _ ?_
   refine zL fun K3 hK3=> ?_
   refine zV ?_
   have hrk:=hr k (by omega)
   refine zL fun K hK=> ?_
   refine zM zO zN [] rfl ?_
   push_cast
   repeat' apply And.intro
   all_goals try exact gB
   refine hK _ ?_;clear hK K
   refine zM zO zN [] rfl ?_
   push_cast
   repeat' apply And.intro
   all_goals try exact gB
   refine hK3 _ ?_
   refine zM zO zN [] rfl ?_
   push_cast
   repeat' apply And.intro
   all_goals try exact gB
   refine hL0 _ ⟨k+1,by omega,by omega,?_⟩
   rw [zBV]
   refine zX rfl ?_ ?_ ?_<;>push_cast [zg,zf]
   all_goals first|rfl|(refine congrArg (AV.int .i64) ?_;omega)|skip
  ·
   refine zi ?_
   have hkk:k=xs.length:=by omega
   subst hkk
   refine hK1 _ ?_
   refine zL fun K hK=> ?_
   refine zM zO zN [] rfl ?_
   push_cast
   repeat' apply And.intro
   all_goals try exact gB
   refine hK _ ?_;clear hK K
   refine zW ?_
   refine⟨Or.inl rfl,?_⟩
   push_cast [za]
end Go.Proofs.YthepmdkpbjfdcaaGreat
