/- The program's attractor; the walk -/
import Derived.Test.YtcleaokoimhedaaGreatB21zmo
import Derived.Test.YtcleaokoimhedaaGreatB10zmo
import Derived.Test.YtcleaokoimhedaaGreatB19zmo
namespace Go.Proofs.YtcleaokoimhedaaGreat
open Nat renaming reduceMod → zA, reduceMul → zB, reduceDiv → zC, reduceAdd → zD, reduceSub → zE, reduceEqDiff → zF, reduceBEq → zG, reduceLT → zH, reduceLeDiff → zI
open Go.RowKit
set_option linter.unusedVariables false
set_option linter.unusedSimpArgs false
def dSv (x:L7):List D:= [DI x.owner,DII x.next,DI x.prio,DII x.prev]
theorem zFg {c:List Int}{v:Nat}(h:v<c.length):c.set v (gi c v)=c:=by
 refine List.ext_getElem (by simp) fun j h1 h2=> ?_
 rw [List.getElem_set]
 split
 ·rename_i e
  subst e
  unfold gi
  rw [List.getD_eq_getElem?_getD,List.getElem?_eq_getElem h]
  rfl
 ·rfl
theorem zLB {x:L7}{inn:List Bool}{lc:List Int}{v:Nat}(h:gi lc v=0):lc.set v (wK x inn v)=lc.set v (vt x inn lc v):=by unfold vt;rw [if_pos h]
theorem zM9 {x:L7}{inn:List Bool}{lc:List Int}{v:Nat}(hv:v<lc.length)(h: ¬gi lc v=0):lc.set v (vt x inn lc v)=lc:=by unfold vt;rw [if_neg h];exact zFg hv
theorem zDt {c:List Int}{v:Nat}{y:Int}(h:v<c.length):gi (c.set v y) v=y:=by rw [qb h,if_pos rfl]
theorem jD (a b:List Int)(v:Int):dI a++(dI b++ [D.int .i64 v])=dI (a++(b++ [v])):=by simp [dI]
theorem zH6 {qd:List Int}{o:Nat}{pre:List D}(h:pre= []∨pre=dI (qd.take o)): ∃ps:List Int,(ps= []∨ps=qd.take o)∧pre=dI ps:=by
 rcases h with h|h
 ·exact⟨[], .inl rfl,h⟩
 ·exact⟨_, .inr rfl,h⟩
set_option maxRecDepth 20000 in
set_option maxHeartbeats 8000000 in
theorem zL5 (x:L7)(inn:List Bool)(hx:x.Ok inn.length)(hed: ∀(v:Nat) (u:Int),v<inn.length→edB x v u=true)(who:Int)(goal:List Bool)(hg9:goal.length=inn.length)(hsub: ∀_:Unit,∀v,v<inn.length→gb goal v=true→gb inn v=true):FnB Tryz.prog tyT 102 (dSv x) [.c (.int .i64 who), .c (.lst 4 (dB inn)), .c (.lst 4 (dB goal))] (dSv x) [.c (.lst 4 (dB (yn x inn.length inn who goal)))]:=by
 have hn1:=hx.hn
 have hn2:=hx.ho
 have hn4:=hx.hx
 have hn5:=hx.hv
 have hL:=XY goal (by omega)
 have hatl:=wu x inn.length inn who goal
 generalize hR:yn x inn.length inn who goal=R at hatl⊢
 rw [hg9]at hL
 have hil0:=xp goal inn.length
 unfold dSv
 refine zGn (fn:=Tryz.f102) (rs:= [.tmp 8]) zO zN Tryz.func102 (by kernel_rfl) rfl rfl (by rw [Tryz.ntmps102];exact Nat.le_of_ble_eq_true rfl) rfl (by simp only [szA,List.mem_cons,List.not_mem_nil,or_false,forall_eq_or_imp,forall_eq,false_implies,implies_true,VT.cells,szL];try decide) (Nat.le_of_ble_eq_true rfl) (by simp only [szL];decide) (Nat.le_of_ble_eq_true rfl) rfl ?_
 rw [Tryz.ntmps102]
 push_cast [↓zK,↓zJ]
 refine θA ?_
 refine θA ?_
 refine θA ?_
 refine θL fun K hK=> ?_
 refine θD 2 ?_
 refine θE hK ?_
 refine zL fun K1 hK1=> ?_
 refine zV ?_
 refine zg [11,12,14,16,25,26,27,28,29,30,31,32,33,34,35,36,37,38,39,40,41,42,43,44,45,46,47,48,49,50,51,52,53,54,55,56,57,58,59,60,61,62,63,64,65,66,67,68,69,70,71,72,73,74,75,76,77,78,79,80,81,82,83,84,85,86,87,88,89,90,91,92,93,94,95,96,97,98,99,100,101,102,103,104,105,106,107,108,109,110,111,112,113,114,115] [144,160,176] (fun(p:Nat×List Int×List Bool×List Int×List Int×List Int×Nat)=> [(9, .sl 144 [] 0 goal.length 4),(10, .sl 160 [] 0 inn.length 3),(11, .sl 176 [] p.2.2.2.2.2.2 (p.2.1.length - p.1) 2)]) (fun p=> []) (fun p=> [(144,⟨.ex,4,dB p.2.2.1,none⟩),(160,⟨.ex,3,dI p.2.2.2.1,none⟩),(176,⟨.ex,2,dI p.2.2.2.2.2.1,none⟩)]) (fun p=>p.1≤p.2.1.length∧PuI x inn.length inn who goal p.2.2.1 p.2.2.2.1 p.2.2.2.2.1 p.2.1 (fun _ u=>yI (p.2.1.take p.1) u)∧QdI p.2.1 p.1 p.2.2.2.2.2.1 p.2.2.2.2.2.2) (fun p=>inn.length - p.1) (0,yT goal inn.length,goal,List.replicate inn.length 0,(List.range inn.length).map (fun v=>wK x inn v),yT goal inn.length,0) ?_ ⟨by dsimp only;omega,PuI.start hx hg9 (hsub ()),QdI.start _⟩ ?_
 ·
  exact θX
 ·rintro⟨i,Q,out,lc,Lf,qd,o⟩ ⟨hv,hA,hq⟩ KL0 hL0
  dsimp only at hv hA hq
  have hl0:=hA.at_.lo
  have hl1:=hA.len
  have hql:=hA.at_.qle
  have hqn:=hq.len
  have hqo:=hq.lo
  push_cast [↓zK,↓zJ]
  refine zL fun K2 hK2=> ?_
  refine θA ?_
  refine θU (fun hc=> ?_) fun hc=> ?_
  ·
   refine zU (hK2 _ ?_)
   refine zV ?_
   have hqi:=hA.at_.qin (i:=i) (by omega)
   have hhd:=hq.head (i:=i) (by omega)
   have hpop:=hq.pop (by omega)
   obtain⟨qi,hqi0⟩: ∃qi,Q.take i=qi:=⟨_,rfl⟩
   obtain⟨u0,hu0⟩: ∃u0,gi Q i=u0:=⟨_,rfl⟩
   rw [hu0]at hqi hhd
   have hAb:=hA.cong (zCB hA.at_)
   rw [hu0,hqi0]at hAb
   refine θA ?_
   (try rw [hhd])
   refine θA ?_
   refine θA ?_
   refine zV ?_
   refine zg [11,14,16,25,28,29,31,32,41,42,43,44,45,46,47,48,49,50,51,52,53,54,55,56,57,58,59,60,61,62,63,64,65,66,67,68,69,70,71,72,73,74,75,76,77,78,79,80,81,82,83,84,85,86,87,88,89,90,91,92,93,94,95,96,97,98,99,100,101,102,103,104,105,106,107,108,109,110,111,112,113,114,115] [144,160,176] (fun(p:Nat×List Int×List Bool×List Int×List Int×List Int×Nat)=> [(41, .int .i64 p.1),(9, .sl 144 [] 0 goal.length 4),(10, .sl 160 [] 0 inn.length 3),(11, .sl 176 [] p.2.2.2.2.2.2 (p.2.1.length - (i+1)) 2)]) (fun p=> []) (fun p=> [(144,⟨.ex,4,dB p.2.2.1,none⟩),(160,⟨.ex,3,dI p.2.2.2.1,none⟩),(176,⟨.ex,2,dI p.2.2.2.2.2.1,none⟩)]) (fun p=>p.1≤(gl x.prev u0.toNat).length∧PuI x inn.length inn who goal p.2.2.1 p.2.2.2.1 p.2.2.2.2.1 p.2.1 (PK x qi u0 p.1)∧QdI p.2.1 (i+1) p.2.2.2.2.2.1 p.2.2.2.2.2.2∧p.2.1.take i=qi∧gi p.2.1 i=u0∧i<p.2.1.length) (fun p=>(gl x.prev u0.toNat).length - p.1) (0,Q,out,lc,Lf,qd,o+1) ?_ ⟨by dsimp only;omega,hAb,hpop,hqi0,hu0,by dsimp only;omega⟩ ?_
   ·
    (try rw [show Q.length - i - 1=Q.length - (i+1) by omega])
    exact θX
   ·rintro⟨k,Q,out,lc,Lf,qd,o⟩ ⟨hk,hA2,hq3,hq2,hu2,hil⟩ KL1 hL1
    dsimp only at hk hA2 hq3 hq2 hu2 hil
    have hpl:=hx.dpv u0.toNat (by omega)
    push_cast [↓zK,↓zJ]
    refine θA ?_
    refine zL fun K3 hK3=> ?_
    refine θU (fun hc=> ?_) fun hc=> ?_
    ·
     refine zU (hK3 _ ?_)
     refine zL fun K4 hK4=> ?_
     refine zV ?_
     have hl0:=hA2.at_.lo
     have hl1:=hA2.len
     have hql2:=hA2.at_.qle
     have hqn:=hq3.len
     have hqo:=hq3.lo
     refine θA ?_
     refine zL fun K5 hK5=> ?_
     have hp1:=hx.pin u0.toNat (by omega) k (by omega)
     have hqi2:=hA2.at_.qin (i:=i) hil
     rw [hu2]at hqi2
     have hps0:=fun v u=>PK_s (x:=x) (qi:=qi) (u0:=u0) (k:=k) (by omega) (by omega) v u
     have hnew:=zGs hx hA2.at_ hil (k:=k) (by rw [hu2];omega)
     rw [hu2,hq2]at hnew
     obtain⟨w0,hw0⟩: ∃w:Int,gi (gl x.prev u0.toNat) k=w:=⟨_,rfl⟩
     rw [hw0]at hp1 hps0 hnew⊢
     obtain⟨v0,rfl⟩: ∃v0:Nat,w0=(v0:Int):=⟨w0.toNat,by omega⟩
     simp only [Int.toNat_natCast]at hp1 hps0 hnew
     have hv0:v0<inn.length:=by omega
     have hcg:=hA2.rg v0 hv0
     refine zL fun K hK=> ?_
     refine zf false zO zN ?_ rfl ?_
     ·kernel_rfl
     all_goals push_cast [↓zK,↓zJ]
     all_goals repeat'(first|(apply zP<;>(intro hg;(try simp only [push_cast]at hg)))|apply And.intro|(intro hg;(try simp only [push_cast]at hg)))
     all_goals first|exact gA|(exact zQ (by omega))|(rw [List.length_set];omega)|(simp only [List.length_set];omega)|skip
     all_goals(refine hK _ ?_;clear hK K)
     all_goals refine zT rfl (fun hc=> ?_) (fun hc=> ?_)
     all_goals(first|(cases hc;done)|skip)
     all_goals(try simp only [push_cast]at hc)
     all_goals first
      |(
        refine zU (hK5 _ ?_)
        refine zL fun K6 hK6=> ?_
        have hst:=PuI.step hx hA2 (v0:=v0) hv0 hqi2.1 hqi2.2.1 hqi2.2.2 (by with_reducible assumption) (by with_reducible assumption) (hed v0 u0 hv0) (by obtain⟨j9,a9,b9⟩:=hp1.2;exact⟨j9,a9,by rw [b9];omega⟩) hnew hps0
        refine θA ?_
        refine θU (fun hc=> ?_) fun hc=> ?_
        ·
         refine zG5 [16,49,67,68,69,70,71,72,73,74,75,76,77,78,79,80,81,82,83,84,85,86,87,88,89,90,91,92,93,94,95,96] [160] (fun(u9:Unit)=> [(10, .sl 160 [] 0 inn.length 3)]) (fun u9=> []) (fun u9=> [(160,⟨.ex,3,dI (lc.set v0 (vt x inn lc v0)),none⟩)]) (fun u9=>True) ?_ ?_
         ·
          intro K7 hK7
          have hst2:=hst.2 (by first|assumption|(simpa using hc))
          have hm1:=hst2.1
          have hdl:=Uz hx (inn:=inn) hv0
          refine θA ?_
          refine θU (fun hc=> ?_) fun hc=> ?_
          ·
           have hrl:=hx.deg v0 hv0
           refine θA ?_
           refine zV ?_
           refine zg [16,49,82,83,84,85,86,87,88,89,90,91,92,93,94,95,96] [160] (fun(j:Nat)=> [(82, .int .i64 j),(10, .sl 160 [] 0 inn.length 3)]) (fun j=> []) (fun j=> [(160,⟨.ex,3,dI (lc.set v0 (vu x inn v0 j)),none⟩)]) (fun j=>j≤(gl x.next v0).length) (fun j=>(gl x.next v0).length - j) 0 ?_ (by omega) ?_
           ·
            rw [show lc.set v0 (vu x inn v0 0)=lc from by rw [show vu x inn v0 0=gi lc v0 from by rw [show gi lc v0=0 by with_reducible assumption];rfl];exact zFg (by omega)]
            exact θX
           ·rintro j hj KL2 hL2
            push_cast [↓zK,↓zJ]
            refine θA ?_
            refine zL fun K8 hK8=> ?_
            refine θU (fun hc=> ?_) fun hc=> ?_
            ·
             refine zU (hK8 _ ?_)
             refine zL fun K9 hK9=> ?_
             refine zV ?_
             have hto:=hx.to v0 hv0 j (by omega)
             have hdk:=jH x inn v0 j
             have hsi:=zDt (c:=lc) (v:=v0) (y:=vu x inn v0 j) (by omega)
             refine θA ?_
             refine θA ?_
             refine θU (fun hc=> ?_) fun hc=> ?_
             ·
              refine θB ?_
              refine hK9 _ ?_
              refine θB ?_
              refine hL2 _ ⟨j+1,by omega,by omega,?_⟩
              (try rw [hsi])
              (try rw [List.set_set])
              rw [ki (by with_reducible assumption) (hed v0 _ hv0)]
              exact θX
             ·
              refine zU (hK9 _ ?_)
              refine θB ?_
              refine hL2 _ ⟨j+1,by omega,by omega,?_⟩
              rw [kh (by with_reducible assumption)]
              exact θX
            ·
             refine zh ?_
             have hjj:j=(gl x.next v0).length:=by omega
             subst hjj
             (try rw [show vu x inn v0 (gl x.next v0).length=wK x inn v0 from rfl])
             (try simp only [zR,zS,reduceIte,zF])
             refine hK7 _ ⟨(),trivial,?_⟩
             rw [←zLB (by with_reducible assumption)]
             exact θX
          ·
           refine zU ?_
           (try simp only [zR,zS,reduceIte,zF])
           refine hK7 _ ⟨(),trivial,?_⟩
           rw [zM9 (by omega) (by with_reducible assumption)]
           exact θX
         ·
          rintro u9 hj7
          have hst2:=hst.2 (by first|assumption|(simpa using hc))
          have hm1:=hst2.1
          have hdl:=Uz hx (inn:=inn) hv0
          push_cast [↓zK,↓zJ]
          have hsm:=zDt (c:=lc) (v:=v0) (y:=vt x inn lc v0) (by omega)
          refine θA ?_
          (try rw [hsm])
          (try rw [List.set_set])
          have hsm2:=zDt (c:=lc) (v:=v0) (y:=vt x inn lc v0 - 1) (by omega)
          refine θA ?_
          refine θU (fun hc=> ?_) fun hc=> ?_
          ·
           refine zh (hK4 _ ?_)
           refine θB ?_
           refine hL1 _ ⟨(k+1,Q,out,lc.set v0 (vt x inn lc v0 - 1),Lf.set v0 (gi Lf v0 - 1),qd,o),⟨by dsimp only;omega,hst2.2.1 (by omega),hq3,by dsimp only;first|exact hq2|(rw [List.take_append_of_le_length (by omega)];exact hq2),by dsimp only;first|exact hu2|(rw [Zk hil];exact hu2),by dsimp only;first|exact hil|(rw [List.length_append];omega)⟩,by dsimp only;omega,?_⟩
           skip
           exact θX
           all_goals first|rfl|(rw [jD];done)|(simp [dI];done)|skip
          ·
           refine zU (hK6 _ ?_)
           refine θA ?_
           refine Qf (zCO tyT) (uY zO) (some 114) zO zN [] rfl ?_
           push_cast [↓zK,↓zJ]
           repeat'(first|apply And.intro|(intro pre hpre))
           all_goals first|exact True.intro|exact rfl|omega|with_reducible assumption|(simp only [WT];omega)|(decide)|skip
           obtain⟨ps,hps,rfl⟩:=zH6 hpre
           clear hpre
           push_cast [↓zK,↓zJ]
           all_goals repeat'(first|apply And.intro)
           all_goals first|exact True.intro|exact rfl|omega|skip
           refine hK4 _ ?_
           refine θB ?_
           refine hL1 _ ⟨(k+1,Q++ [(v0:Int)],out.set v0 true,lc.set v0 (vt x inn lc v0 - 1),Lf.set v0 (gi Lf v0 - 1),ps++(qd.drop o++ [(v0:Int)]),ps.length),⟨by dsimp only;omega,hst2.2.2 (by omega),hq3.push _ hps,by dsimp only;first|exact hq2|(rw [List.take_append_of_le_length (by omega)];exact hq2),by dsimp only;first|exact hu2|(rw [Zk hil];exact hu2),by dsimp only;first|exact hil|(rw [List.length_append];omega)⟩,by dsimp only;omega,?_⟩
           rw [show(Q++ [(v0:Int)]).length - (i+1)=Q.length - (i+1)+1 from by rw [List.length_append,List.length_singleton];omega]
           exact θX
           all_goals first|rfl|(rw [jD];done)|(simp [dI];done)|skip
        ·
         refine zU (hK6 _ ?_)
         refine θA ?_
         refine Qf (zCO tyT) (uY zO) (some 114) zO zN [] rfl ?_
         push_cast [↓zK,↓zJ]
         repeat'(first|apply And.intro|(intro pre hpre))
         all_goals first|exact True.intro|exact rfl|omega|with_reducible assumption|(simp only [WT];omega)|(decide)|skip
         obtain⟨ps,hps,rfl⟩:=zH6 hpre
         clear hpre
         push_cast [↓zK,↓zJ]
         all_goals repeat'(first|apply And.intro)
         all_goals first|exact True.intro|exact rfl|omega|skip
         refine hK4 _ ?_
         refine θB ?_
         refine hL1 _ ⟨(k+1,Q++ [(v0:Int)],out.set v0 true,lc,Lf.set v0 (gi Lf v0 - 1),ps++(qd.drop o++ [(v0:Int)]),ps.length),⟨by dsimp only;omega,hst.1 (by first|assumption|omega|(simpa using hc)),hq3.push _ hps,by dsimp only;first|exact hq2|(rw [List.take_append_of_le_length (by omega)];exact hq2),by dsimp only;first|exact hu2|(rw [Zk hil];exact hu2),by dsimp only;first|exact hil|(rw [List.length_append];omega)⟩,by dsimp only;omega,?_⟩
         rw [show(Q++ [(v0:Int)]).length - (i+1)=Q.length - (i+1)+1 from by rw [List.length_append,List.length_singleton];omega]
         exact θX
         all_goals first|rfl|(rw [jD];done)|(simp [dI];done)|skip
        done)
      |(
        refine zh (hK4 _ ?_)
        refine θB ?_
        refine hL1 _ ⟨(k+1,Q,out,lc,Lf,qd,o),⟨by dsimp only;omega,hA2.skip (v0:=v0) hv0 hqi2.2.1 (by first|exact .inl (by with_reducible assumption)|exact .inr (.inl (by with_reducible assumption))) hps0,hq3,by dsimp only;first|exact hq2|(rw [List.take_append_of_le_length (by omega)];exact hq2),by dsimp only;first|exact hu2|(rw [Zk hil];exact hu2),by dsimp only;first|exact hil|(rw [List.length_append];omega)⟩,by dsimp only;omega,?_⟩
        skip
        exact θX
        all_goals first|rfl|(rw [jD];done)|(simp [dI];done)|skip
        done)
    ·
     refine zh ?_
     refine hL0 _ ⟨(i+1,Q,out,lc,Lf,qd,o),⟨by dsimp only;omega,hA2.cong (zGr hx hil hq2 hu2 (by omega) hA2.at_),hq3⟩,by dsimp only;omega,?_⟩
     exact θX
  ·
   refine zh ?_
   have hie:i=Q.length:=by omega
   subst hie
   have hfin:=AtI.end' hx hA.at_
   rw [hR]at hfin
   refine hK1 _ ?_
   refine θA ?_
   refine zZ ⟨Or.inl rfl,?_⟩
   push_cast [Wu,zd,wB,zo,yA,↓zK,↓zJ]
   (try rw [hfin])
   all_goals first|rfl|exact⟨rfl,hatl⟩|exact⟨rfl,hatl.symm⟩|(simp_all;done)|skip
theorem KT {l:List Bool}: ∀{k:Nat},(∀v,v<k→gb l v=false)→yT l k= []
 |0,_=>rfl
 |k+1,h=>by rw [QK (h k (by omega))];exact KT fun v hv=>h v (by omega)
theorem zHc {l:List Bool}{k:Nat}(h: ∃v,v<k∧gb l v=true):1≤(yT l k).length:=by
 obtain⟨v,hv,hb⟩:=h
 have :(v:Int)∈yT l k:=vv.2 ⟨v,hv,hb,rfl⟩
 exact List.length_pos_of_mem this
theorem zMQ {x:L7}{n:Nat}(hx:x.Ok n)(inn:List Bool):Yk ⟨⟨x.owner,x.next⟩,x.prio⟩ (yT inn n) (yT inn n).length=yc x inn n:=by
 have h1:=zD4 ⟨⟨x.owner,x.next⟩,x.prio⟩ (yT inn n) (yT inn n).length
 have h2:=zFj ⟨⟨x.owner,x.next⟩,x.prio⟩ (yT inn n) (yT inn n).length
 have h3:=fun v hv hb=>XB (x:=x) (inn:=inn) n v hv hb
 have h4:=Kw hx (inn:=inn) n (Nat.le_refl _)
 have hle:Yk ⟨⟨x.owner,x.next⟩,x.prio⟩ (yT inn n) (yT inn n).length≤yc x inn n:=by
  rcases h2 with e|⟨j,hj,e⟩
  ·rw [e]
   rcases h4 with e2|⟨v,hv,h5,h6⟩
   ·omega
   ·have :=hx.pr v hv;omega
  ·rw [←e]
   have h5:=Yu hj
   exact h3 _ (by omega) h5.2.2
 have hge:yc x inn n≤Yk ⟨⟨x.owner,x.next⟩,x.prio⟩ (yT inn n) (yT inn n).length:=by
  rcases h4 with e|⟨v,hv,h5,h6⟩
  ·rcases h2 with e2|⟨j,hj,e2⟩
   ·omega
   ·have h5:=Yu hj
    have :=hx.pr (gi (yT inn n) j).toNat (by omega)
    rw [←e2]
    show _≤gi x.prio _
    omega
  ·rw [←h6]
   have hm:(v:Int)∈yT inn n:=vv.2 ⟨v,hv,h5,rfl⟩
   obtain⟨j,hj⟩:=List.getElem?_of_mem hm
   have hl:=(List.getElem?_eq_some_iff.1 hj).1
   have :=h1 j hl
   have e9:gi (yT inn n) j=(v:Int):=by
    have :=qk hl
    rw [hj]at this
    exact(Option.some.inj this).symm
   rw [e9,Int.toNat_natCast]at this
   exact this
 omega
def anT (l:List Bool):Bool:=vr l l.length
theorem zKy {l:List Bool}{k:Nat}(hk:k<l.length)(h:gb l k=true):anT l=true:=vS.2 ⟨k,hk,h⟩
theorem zMh {l:List Bool}(h: ∀k,k<l.length→gb l k=false):anT l=false:=by
 refine Bool.eq_false_iff.2 fun e=> ?_
 obtain⟨v,hv,hb⟩:=vS.1 e
 rw [h v hv]at hb;cases hb
theorem Zu {l:List Bool}(h:anT l=false)(v:Nat)(hv:v<l.length):gb l v=false:=by
 cases hb:gb l v
 ·rfl
 ·rw [zKy hv hb]at h;cases h
def fxT (l:List Bool):Nat→Int
 |0=> -1
 |k+1=>if fxT l k<0∧gb l k=true then k else fxT l k
theorem kr {l:List Bool}: ∀{k:Nat},(∀j,j<k→gb l j=false)→fxT l k= -1
 |0,_=>rfl
 |k+1,h=>by
  have ih:=kr (l:=l) (k:=k) fun j hj=>h j (by omega)
  unfold fxT
  rw [if_neg (fun e=>by rw [h k (by omega)]at e;cases e.2),ih]
theorem zC3 {l:List Bool}{k:Nat}(h:0≤fxT l k): ∀d,fxT l (k+d)=fxT l k
 |0=>rfl
 |d+1=>by
  have ih:=zC3 h d
  rw [show k+(d+1)=k+d+1 from rfl]
  show(if fxT l (k+d)<0∧_ then _ else _)=_
  rw [if_neg (fun e=>by omega),ih]
theorem zHQ {l:List Bool}{k:Nat}(h: ∀j,j<k→gb l j=false)(hk:k<l.length)(hb:gb l k=true):fxT l l.length=k:=by
 have e:fxT l (k+1)=k:=by
  show(if _ then _ else _)=_
  rw [if_pos ⟨by rw [kr h];omega,hb⟩]
 have :=zC3 (l:=l) (k:=k+1) (by omega) (l.length - (k+1))
 rw [show k+1+(l.length - (k+1))=l.length by omega]at this
 omega
theorem zHR {l:List Bool}(h: ∀j,j<l.length→gb l j=false):fxT l l.length= -1:=kr h
theorem zLO (l:List Bool):decide (fxT l l.length≥0)=anT l:=by
 cases h:anT l
 ·rw [zHR (Zu h)];rfl
 ·obtain⟨v,hv,hb⟩:=vS.1 h
  obtain⟨k,⟨hk,hb2⟩,hmin⟩:=KX (P:=fun k=>k<l.length∧gb l k=true) v ⟨hv,hb⟩
  rw [zHQ (fun j hj=>by
   cases hq:gb l j
   ·rfl
   ·exact absurd ⟨by omega,hq⟩ (hmin j hj)) hk hb2]
  exact decide_eq_true (by omega)
set_option maxRecDepth 20000 in
set_option maxHeartbeats 4000000 in
theorem zGo (l:List Bool)(hl:l.length≤1048576):Fn Tryz.prog tyT 121 [.c (.lst 4 (dB l)), .c (.bool true)] [.c (.int .i64 (fxT l l.length))]:=by
 refine θH (ts:= [4]) Tryz.func121 Tryz.ntmps121 ?_
 push_cast
 refine θA ?_
 refine zL fun K1 hK1=> ?_
 refine θA ?_
 refine zV ?_
 refine zg [4,5,8,9,10,11,12,13,14,15,16,17,18] [] (fun(k:Nat)=> [(8, .int .i64 k)]) (fun k=> []) (fun k=> []) (fun k=>k≤l.length∧∀j,j<k→gb l j=false) (fun k=>l.length - k) 0 ?_ ⟨by omega,fun j hj=>by omega⟩ ?_
 ·
  exact θX
 ·rintro k ⟨hk,hall⟩ KL0 hL0
  push_cast
  refine θA ?_
  refine zL fun K2 hK2=> ?_
  refine θU (fun hc=> ?_) fun hc=> ?_
  ·
   refine zU (hK2 _ ?_)
   refine zL fun K3 hK3=> ?_
   refine zV ?_
   refine θA ?_
   refine θA ?_
   refine θU (fun hc=> ?_) fun hc=> ?_
   ·
    refine θA ?_
    refine zZ ⟨Or.inl rfl,?_⟩
    push_cast [zd]
    exact(zHQ hall (by omega) (by first|assumption|(simpa using hc)|exact hc.symm)).symm
   ·
    refine zU (hK3 _ ?_)
    refine θB ?_
    refine hL0 _ ⟨k+1,⟨by omega,fun j hj=>by
      by_cases hjk:j=k
      ·subst hjk;simpa using hc
      ·exact hall j (by omega)⟩,by omega,?_⟩
    exact θX
  ·
   refine zh ?_
   have hkk:k=l.length:=by omega
   subst hkk
   refine hK1 _ ?_
   refine θA ?_
   refine zZ ⟨Or.inl rfl,?_⟩
   push_cast [zd]
   exact(zHR hall).symm
set_option maxRecDepth 20000 in
set_option maxHeartbeats 4000000 in
theorem vz (l:List Bool)(hl:l.length≤1048576):Fn Tryz.prog tyT 103 [.c (.lst 4 (dB l)), .c (.bool true)] [.c (.bool (anT l))]:=by
 have hI:=zGo l hl
 have hf:=zLO l
 refine θH (ts:= [4]) Tryz.func103 Tryz.ntmps103 ?_
 push_cast
 refine θA ?_
 refine θL fun K hK=> ?_
 refine θD 3 ?_
 refine θE hK ?_
 refine zZ ⟨Or.inl rfl,?_⟩
 push_cast [zd]
 rw [←hf]
 all_goals first|rfl|(simp;done)|skip
set_option maxRecDepth 20000 in
set_option maxHeartbeats 4000000 in
theorem zMU (l:List Bool)(hl:l.length≤1048576)(hno: ∀v,v<l.length→gb l v=false):FnA Tryz.prog tyT 83 (.lst 4 (dB l)):=by
 have hL:=XY l hl
 rw [KT hno]at hL
 refine zMa (fn:=Tryz.f83) (rs:= [.tmp 4, .tmp 5]) zO zN Tryz.func83 (by kernel_rfl) rfl rfl (by rw [Tryz.ntmps83];exact Nat.le_of_ble_eq_true rfl) (by decide) ?_
 rw [Tryz.ntmps83]
 push_cast
 refine θA ?_
 refine θL fun K hK=> ?_
 refine θD 2 ?_
 refine θE hK ?_
 refine zL fun K1 hK1=> ?_
 refine θA ?_
 refine zT rfl (fun hc=> ?_) (fun hc=> ?_)
 rotate_left
 ·exfalso;first|(cases hc;done)|(simp only [push_cast]at hc;done)|(simp only [push_cast]at hc;omega)|omega
 refine θA ?_
 refine zZ ⟨Or.inl rfl,?_⟩
 push_cast [RetA,zo,yA]
 all_goals first|rfl|exact⟨trivial,rfl,rfl,rfl,by decide⟩|(simp;done)|skip
end Go.Proofs.YtcleaokoimhedaaGreat
