/- The program's attractor; the walk -/
import Derived.Test.YthepmdkpbjfdcaaGreatB18zff
import Derived.Test.YthepmdkpbjfdcaaGreatVazff
namespace Go.Proofs.YthepmdkpbjfdcaaGreat
open Nat renaming reduceMod → zA, reduceMul → zB, reduceDiv → zC, reduceAdd → zD, reduceSub → zE, reduceEqDiff → zF, reduceBEq → zG, reduceLT → zH, reduceLeDiff → zI
open Go.RowKit
set_option linter.unusedVariables false
set_option linter.unusedSimpArgs false
def dSv (x:L7):List D:= [DI x.owner,DII x.next,DI x.prio,DII x.prev]
theorem zF5 {c:List Int}{v:Nat}(h:v<c.length):c.set v (gi c v)=c:=by
 refine List.ext_getElem (by simp) fun j h1 h2=> ?_
 rw [List.getElem_set]
 split
 ·rename_i e
  subst e
  unfold gi
  rw [List.getD_eq_getElem?_getD,List.getElem?_eq_getElem h]
  rfl
 ·rfl
theorem zLT {x:L7}{inn:List Bool}{lc:List Int}{v:Nat}(h:gi lc v=0):lc.set v (wR x inn v)=lc.set v (vv x inn lc v):=by unfold vv;rw [if_pos h]
theorem zNN {x:L7}{inn:List Bool}{lc:List Int}{v:Nat}(hv:v<lc.length)(h: ¬gi lc v=0):lc.set v (vv x inn lc v)=lc:=by unfold vv;rw [if_neg h];exact zF5 hv
theorem zEE {c:List Int}{v:Nat}{y:Int}(h:v<c.length):gi (c.set v y) v=y:=by rw [qp h,if_pos rfl]
theorem jF (a b:List Int)(v:Int):dI a++(dI b++ [D.int .i64 v])=dI (a++(b++ [v])):=by simp [dI]
theorem zIh {qd:List Int}{o:Nat}{pre:List D}(h:pre= []∨pre=dI (qd.take o)): ∃ps:List Int,(ps= []∨ps=qd.take o)∧pre=dI ps:=by
 rcases h with h|h
 ·exact⟨[], .inl rfl,h⟩
 ·exact⟨_, .inr rfl,h⟩
set_option maxRecDepth 20000 in
set_option maxHeartbeats 8000000 in
theorem zMD (x:L7)(inn:List Bool)(hx:x.Ok inn.length)(hed: ∀(v:Nat) (u:Int),v<inn.length→edB x v u=true)(who:Int)(goal:List Bool)(hg9:goal.length=inn.length)(hsub: ∀_:Unit,∀v,v<inn.length→gb goal v=true→gb inn v=true):FnB Tryz.prog tyT 182 (dSv x) [.c (.int .i64 who), .c (.lst 4 (dB inn)), .c (.lst 4 (dB goal))] (dSv x) [.c (.lst 4 (dB (yk x inn.length inn who goal)))]:=by
 have hn1:=hx.hn
 have hn2:=hx.ho
 have hn4:=hx.hx
 have hn5:=hx.hv
 have hL:=Xa goal (by omega)
 have hatl:=wo x inn.length inn who goal
 generalize hR:yk x inn.length inn who goal=R at hatl⊢
 rw [hg9]at hL
 have hil0:=wv goal inn.length
 unfold dSv
 refine Vz (fn:=Tryz.f182) (rs:= [.tmp 8]) zQ zN Tryz.func182 (by kernel_rfl) rfl rfl (by rw [Tryz.ntmps182];exact Nat.le_of_ble_eq_true rfl) rfl (by simp only [szA,List.mem_cons,List.not_mem_nil,or_false,forall_eq_or_imp,forall_eq,false_implies,implies_true,VT.cells,szL];try decide) (Nat.le_of_ble_eq_true rfl) (by simp only [szL];decide) (Nat.le_of_ble_eq_true rfl) rfl ?_
 rw [Tryz.ntmps182]
 push_cast [↓zK,↓zJ]
 refine θA ?_
 refine θA ?_
 refine θA ?_
 refine θL fun K hK=> ?_
 refine θD 2 ?_
 refine θE hK ?_
 refine zL fun K1 hK1=> ?_
 refine zV ?_
 refine zh [11,12,14,16,25,26,27,28,29,30,31,32,33,34,35,36,37,38,39,40,41,42,43,44,45,46,47,48,49,50,51,52,53,54,55,56,57,58,59,60,61,62,63,64,65,66,67,68,69,70,71,72,73,74,75,76,77,78,79,80,81,82,83,84,85,86,87,88,89,90,91,92,93,94,95,96,97,98,99,100,101,102,103,104,105,106,107,108,109,110,111,112,113,114,115] [144,160,176] (fun(p:Nat×List Int×List Bool×List Int×List Int×List Int×Nat)=> [(9, .sl 144 [] 0 goal.length 4),(10, .sl 160 [] 0 inn.length 3),(11, .sl 176 [] p.2.2.2.2.2.2 (p.2.1.length - p.1) 2)]) (fun p=> []) (fun p=> [(144,⟨.ex,4,dB p.2.2.1,none⟩),(160,⟨.ex,3,dI p.2.2.2.1,none⟩),(176,⟨.ex,2,dI p.2.2.2.2.2.1,none⟩)]) (fun p=>p.1≤p.2.1.length∧PuI x inn.length inn who goal p.2.2.1 p.2.2.2.1 p.2.2.2.2.1 p.2.1 (fun _ u=>zr (p.2.1.take p.1) u)∧QdI p.2.1 p.1 p.2.2.2.2.2.1 p.2.2.2.2.2.2) (fun p=>inn.length - p.1) (0,yq goal inn.length,goal,List.replicate inn.length 0,(List.range inn.length).map (fun v=>wR x inn v),yq goal inn.length,0) ?_ ⟨by dsimp only;omega,PuI.start hx hg9 (hsub ()),QdI.start _⟩ ?_
 ·
  exact θX
 ·rintro⟨i,Q,out,lc,Lf,qd,o⟩ ⟨hv,hA,hq⟩ KL0 hL0
  dsimp only at hv hA hq
  have hl0:=hA.at_.lo
  have hl1:=hA.len
  have hql:=hA.at_.qle
  have hqn:=hq.len
  have hqo:=hq.lo
  push_cast [↓zK,↓zJ]
  refine zL fun K2 hK2=> ?_
  refine θA ?_
  refine θU (fun hc=> ?_) fun hc=> ?_
  ·
   refine zW (hK2 _ ?_)
   refine zV ?_
   have hqi:=hA.at_.qin (i:=i) (by omega)
   have hhd:=hq.head (i:=i) (by omega)
   have hpop:=hq.pop (by omega)
   obtain⟨qi,hqi0⟩: ∃qi,Q.take i=qi:=⟨_,rfl⟩
   obtain⟨u0,hu0⟩: ∃u0,gi Q i=u0:=⟨_,rfl⟩
   rw [hu0]at hqi hhd
   have hAb:=hA.cong (zCU hA.at_)
   rw [hu0,hqi0]at hAb
   refine θA ?_
   (try rw [hhd])
   refine θA ?_
   refine θA ?_
   refine zV ?_
   refine zh [11,14,16,25,28,29,31,32,41,42,43,44,45,46,47,48,49,50,51,52,53,54,55,56,57,58,59,60,61,62,63,64,65,66,67,68,69,70,71,72,73,74,75,76,77,78,79,80,81,82,83,84,85,86,87,88,89,90,91,92,93,94,95,96,97,98,99,100,101,102,103,104,105,106,107,108,109,110,111,112,113,114,115] [144,160,176] (fun(p:Nat×List Int×List Bool×List Int×List Int×List Int×Nat)=> [(41, .int .i64 p.1),(9, .sl 144 [] 0 goal.length 4),(10, .sl 160 [] 0 inn.length 3),(11, .sl 176 [] p.2.2.2.2.2.2 (p.2.1.length - (i+1)) 2)]) (fun p=> []) (fun p=> [(144,⟨.ex,4,dB p.2.2.1,none⟩),(160,⟨.ex,3,dI p.2.2.2.1,none⟩),(176,⟨.ex,2,dI p.2.2.2.2.2.1,none⟩)]) (fun p=>p.1≤(gl x.prev u0.toNat).length∧PuI x inn.length inn who goal p.2.2.1 p.2.2.2.1 p.2.2.2.2.1 p.2.1 (PK x qi u0 p.1)∧QdI p.2.1 (i+1) p.2.2.2.2.2.1 p.2.2.2.2.2.2∧p.2.1.take i=qi∧gi p.2.1 i=u0∧i<p.2.1.length) (fun p=>(gl x.prev u0.toNat).length - p.1) (0,Q,out,lc,Lf,qd,o+1) ?_ ⟨by dsimp only;omega,hAb,hpop,hqi0,hu0,by dsimp only;omega⟩ ?_
   ·
    (try rw [show Q.length - i - 1=Q.length - (i+1) by omega])
    exact θX
   ·rintro⟨k,Q,out,lc,Lf,qd,o⟩ ⟨hk,hA2,hq3,hq2,hu2,hil⟩ KL1 hL1
    dsimp only at hk hA2 hq3 hq2 hu2 hil
    have hpl:=hx.dpv u0.toNat (by omega)
    push_cast [↓zK,↓zJ]
    refine θA ?_
    refine zL fun K3 hK3=> ?_
    refine θU (fun hc=> ?_) fun hc=> ?_
    ·
     refine zW (hK3 _ ?_)
     refine zL fun K4 hK4=> ?_
     refine zV ?_
     have hl0:=hA2.at_.lo
     have hl1:=hA2.len
     have hql2:=hA2.at_.qle
     have hqn:=hq3.len
     have hqo:=hq3.lo
     refine θA ?_
     refine zL fun K5 hK5=> ?_
     have hp1:=hx.pin u0.toNat (by omega) k (by omega)
     have hqi2:=hA2.at_.qin (i:=i) hil
     rw [hu2]at hqi2
     have hps0:=fun v u=>PK_s (x:=x) (qi:=qi) (u0:=u0) (k:=k) (by omega) (by omega) v u
     have hnew:=zHT hx hA2.at_ hil (k:=k) (by rw [hu2];omega)
     rw [hu2,hq2]at hnew
     obtain⟨w0,hw0⟩: ∃w:Int,gi (gl x.prev u0.toNat) k=w:=⟨_,rfl⟩
     rw [hw0]at hp1 hps0 hnew⊢
     obtain⟨v0,rfl⟩: ∃v0:Nat,w0=(v0:Int):=⟨w0.toNat,by omega⟩
     simp only [Int.toNat_natCast]at hp1 hps0 hnew
     have hv0:v0<inn.length:=by omega
     have hcg:=hA2.rg v0 hv0
     refine zL fun K hK=> ?_
     refine zc false zQ zN ?_ rfl ?_
     ·kernel_rfl
     all_goals push_cast [↓zK,↓zJ]
     all_goals repeat'(first|(apply zO<;>(intro hg;(try simp only [push_cast]at hg)))|apply And.intro|(intro hg;(try simp only [push_cast]at hg)))
     all_goals first|exact gA|(exact zP (by omega))|(rw [List.length_set];omega)|(simp only [List.length_set];omega)|skip
     all_goals(refine hK _ ?_;clear hK K)
     all_goals refine zU rfl (fun hc=> ?_) (fun hc=> ?_)
     all_goals(first|(cases hc;done)|skip)
     all_goals(try simp only [push_cast]at hc)
     all_goals first
      |(
        refine zW (hK5 _ ?_)
        refine zL fun K6 hK6=> ?_
        have hst:=PuI.step hx hA2 (v0:=v0) hv0 hqi2.1 hqi2.2.1 hqi2.2.2 (by with_reducible assumption) (by with_reducible assumption) (hed v0 u0 hv0) (by obtain⟨j9,a9,b9⟩:=hp1.2;exact⟨j9,a9,by rw [b9];omega⟩) hnew hps0
        refine θA ?_
        refine θU (fun hc=> ?_) fun hc=> ?_
        ·
         refine zHj [16,49,67,68,69,70,71,72,73,74,75,76,77,78,79,80,81,82,83,84,85,86,87,88,89,90,91,92,93,94,95,96] [160] (fun(u9:Unit)=> [(10, .sl 160 [] 0 inn.length 3)]) (fun u9=> []) (fun u9=> [(160,⟨.ex,3,dI (lc.set v0 (vv x inn lc v0)),none⟩)]) (fun u9=>True) ?_ ?_
         ·
          intro K7 hK7
          have hst2:=hst.2 (by first|assumption|(simpa using hc))
          have hm1:=hst2.1
          have hdl:=zAC hx (inn:=inn) hv0
          refine θA ?_
          refine θU (fun hc=> ?_) fun hc=> ?_
          ·
           have hrl:=hx.deg v0 hv0
           refine θA ?_
           refine zV ?_
           refine zh [16,49,82,83,84,85,86,87,88,89,90,91,92,93,94,95,96] [160] (fun(j:Nat)=> [(82, .int .i64 j),(10, .sl 160 [] 0 inn.length 3)]) (fun j=> []) (fun j=> [(160,⟨.ex,3,dI (lc.set v0 (vw x inn v0 j)),none⟩)]) (fun j=>j≤(gl x.next v0).length) (fun j=>(gl x.next v0).length - j) 0 ?_ (by omega) ?_
           ·
            rw [show lc.set v0 (vw x inn v0 0)=lc from by rw [show vw x inn v0 0=gi lc v0 from by rw [show gi lc v0=0 by with_reducible assumption];rfl];exact zF5 (by omega)]
            exact θX
           ·rintro j hj KL2 hL2
            push_cast [↓zK,↓zJ]
            refine θA ?_
            refine zL fun K8 hK8=> ?_
            refine θU (fun hc=> ?_) fun hc=> ?_
            ·
             refine zW (hK8 _ ?_)
             refine zL fun K9 hK9=> ?_
             refine zV ?_
             have hto:=hx.to v0 hv0 j (by omega)
             have hdk:=jI x inn v0 j
             have hsi:=zEE (c:=lc) (v:=v0) (y:=vw x inn v0 j) (by omega)
             refine θA ?_
             refine θA ?_
             refine θU (fun hc=> ?_) fun hc=> ?_
             ·
              refine θB ?_
              refine hK9 _ ?_
              refine θB ?_
              refine hL2 _ ⟨j+1,by omega,by omega,?_⟩
              (try rw [hsi])
              (try rw [List.set_set])
              rw [ke (by with_reducible assumption) (hed v0 _ hv0)]
              exact θX
             ·
              refine zW (hK9 _ ?_)
              refine θB ?_
              refine hL2 _ ⟨j+1,by omega,by omega,?_⟩
              rw [kd (by with_reducible assumption)]
              exact θX
            ·
             refine zi ?_
             have hjj:j=(gl x.next v0).length:=by omega
             subst hjj
             (try rw [show vw x inn v0 (gl x.next v0).length=wR x inn v0 from rfl])
             (try simp only [zR,zS,reduceIte,zF])
             refine hK7 _ ⟨(),trivial,?_⟩
             rw [←zLT (by with_reducible assumption)]
             exact θX
          ·
           refine zW ?_
           (try simp only [zR,zS,reduceIte,zF])
           refine hK7 _ ⟨(),trivial,?_⟩
           rw [zNN (by omega) (by with_reducible assumption)]
           exact θX
         ·
          rintro u9 hj7
          have hst2:=hst.2 (by first|assumption|(simpa using hc))
          have hm1:=hst2.1
          have hdl:=zAC hx (inn:=inn) hv0
          push_cast [↓zK,↓zJ]
          have hsm:=zEE (c:=lc) (v:=v0) (y:=vv x inn lc v0) (by omega)
          refine θA ?_
          (try rw [hsm])
          (try rw [List.set_set])
          have hsm2:=zEE (c:=lc) (v:=v0) (y:=vv x inn lc v0 - 1) (by omega)
          refine θA ?_
          refine θU (fun hc=> ?_) fun hc=> ?_
          ·
           refine zi (hK4 _ ?_)
           refine θB ?_
           refine hL1 _ ⟨(k+1,Q,out,lc.set v0 (vv x inn lc v0 - 1),Lf.set v0 (gi Lf v0 - 1),qd,o),⟨by dsimp only;omega,hst2.2.1 (by omega),hq3,by dsimp only;first|exact hq2|(rw [List.take_append_of_le_length (by omega)];exact hq2),by dsimp only;first|exact hu2|(rw [WH hil];exact hu2),by dsimp only;first|exact hil|(rw [List.length_append];omega)⟩,by dsimp only;omega,?_⟩
           skip
           exact θX
           all_goals first|rfl|(rw [jF];done)|(simp [dI];done)|skip
          ·
           refine zW (hK6 _ ?_)
           refine θA ?_
           refine Qh (zCg tyT) (uf zQ) (some 114) zQ zN [] rfl ?_
           push_cast [↓zK,↓zJ]
           repeat'(first|apply And.intro|(intro pre hpre))
           all_goals first|exact True.intro|exact rfl|omega|with_reducible assumption|(simp only [WL];omega)|(decide)|skip
           obtain⟨ps,hps,rfl⟩:=zIh hpre
           clear hpre
           push_cast [↓zK,↓zJ]
           all_goals repeat'(first|apply And.intro)
           all_goals first|exact True.intro|exact rfl|omega|skip
           refine hK4 _ ?_
           refine θB ?_
           refine hL1 _ ⟨(k+1,Q++ [(v0:Int)],out.set v0 true,lc.set v0 (vv x inn lc v0 - 1),Lf.set v0 (gi Lf v0 - 1),ps++(qd.drop o++ [(v0:Int)]),ps.length),⟨by dsimp only;omega,hst2.2.2 (by omega),hq3.push _ hps,by dsimp only;first|exact hq2|(rw [List.take_append_of_le_length (by omega)];exact hq2),by dsimp only;first|exact hu2|(rw [WH hil];exact hu2),by dsimp only;first|exact hil|(rw [List.length_append];omega)⟩,by dsimp only;omega,?_⟩
           rw [show(Q++ [(v0:Int)]).length - (i+1)=Q.length - (i+1)+1 from by rw [List.length_append,List.length_singleton];omega]
           exact θX
           all_goals first|rfl|(rw [jF];done)|(simp [dI];done)|skip
        ·
         refine zW (hK6 _ ?_)
         refine θA ?_
         refine Qh (zCg tyT) (uf zQ) (some 114) zQ zN [] rfl ?_
         push_cast [↓zK,↓zJ]
         repeat'(first|apply And.intro|(intro pre hpre))
         all_goals first|exact True.intro|exact rfl|omega|with_reducible assumption|(simp only [WL];omega)|(decide)|skip
         obtain⟨ps,hps,rfl⟩:=zIh hpre
         clear hpre
         push_cast [↓zK,↓zJ]
         all_goals repeat'(first|apply And.intro)
         all_goals first|exact True.intro|exact rfl|omega|skip
         refine hK4 _ ?_
         refine θB ?_
         refine hL1 _ ⟨(k+1,Q++ [(v0:Int)],out.set v0 true,lc,Lf.set v0 (gi Lf v0 - 1),ps++(qd.drop o++ [(v0:Int)]),ps.length),⟨by dsimp only;omega,hst.1 (by first|assumption|omega|(simpa using hc)),hq3.push _ hps,by dsimp only;first|exact hq2|(rw [List.take_append_of_le_length (by omega)];exact hq2),by dsimp only;first|exact hu2|(rw [WH hil];exact hu2),by dsimp only;first|exact hil|(rw [List.length_append];omega)⟩,by dsimp only;omega,?_⟩
         rw [show(Q++ [(v0:Int)]).length - (i+1)=Q.length - (i+1)+1 from by rw [List.length_append,List.length_singleton];omega]
         exact θX
         all_goals first|rfl|(rw [jF];done)|(simp [dI];done)|skip
        done)
      |(
        refine zi (hK4 _ ?_)
        refine θB ?_
        refine hL1 _ ⟨(k+1,Q,out,lc,Lf,qd,o),⟨by dsimp only;omega,hA2.skip (v0:=v0) hv0 hqi2.2.1 (by first|exact .inl (by with_reducible assumption)|exact .inr (.inl (by with_reducible assumption))) hps0,hq3,by dsimp only;first|exact hq2|(rw [List.take_append_of_le_length (by omega)];exact hq2),by dsimp only;first|exact hu2|(rw [WH hil];exact hu2),by dsimp only;first|exact hil|(rw [List.length_append];omega)⟩,by dsimp only;omega,?_⟩
        skip
        exact θX
        all_goals first|rfl|(rw [jF];done)|(simp [dI];done)|skip
        done)
    ·
     refine zi ?_
     refine hL0 _ ⟨(i+1,Q,out,lc,Lf,qd,o),⟨by dsimp only;omega,hA2.cong (zHS hx hil hq2 hu2 (by omega) hA2.at_),hq3⟩,by dsimp only;omega,?_⟩
     exact θX
  ·
   refine zi ?_
   have hie:i=Q.length:=by omega
   subst hie
   have hfin:=AtI.end' hx hA.at_
   rw [hR]at hfin
   refine hK1 _ ?_
   refine θA ?_
   refine zY ⟨Or.inl rfl,?_⟩
   push_cast [YM,zd,qY,zt,yH,↓zK,↓zJ]
   (try rw [hfin])
   all_goals first|rfl|exact⟨rfl,hatl⟩|exact⟨rfl,hatl.symm⟩|(simp_all;done)|skip
section
variable {P:Program} {τ:Ty} {lo:Nat} {w0:Fz} {ow:Nat→Option Pl} {hd:Nat→Value} {bk:Nat→Nat} {st:St} {a:Act} {w:World}
def FnA (P:Program)(τ:Ty)(f:FuncId)(d:D):Prop:=
 vU P f∧∀(w:World) (g v:Value),Rp (sz τ) 0 w (fun _=>none) .sh d v→Calls P f #[g,v] w fun e w'=>e= .returned (.tuple #[v, .int .i64 0])∧Below w.heap.size w w'
def ug (P:Program)(τ:Ty)(o:Oper)(K:St→Prop)(st:St):Prop:=
 match yG o with
 |some (f,args,ts)=>
  match args.toList with
  | [X,Y]=>
   match cellsOf τ st (ev st Y)with
   |some (d,ob)=>ob∧FnA P τ f d∧K (st.put o.dst (.tup [ev st Y, .int .i64 0]))
   |none=>False
  |_=>False
 |none=>False
theorem zCh :ue P τ (ug P τ):=by
 intro lo w0 st a w o K Q K' hd9 h ha hK
 obtain⟨ow,hd,bk,hr⟩:=h
 unfold ug at ha
 split at ha
 rotate_left
 ·exact ha.elim
 rename_i f args ts hc
 split at ha
 rotate_left
 ·exact ha.elim
 rename_i X Y hXY
 split at ha
 rotate_left
 ·exact ha.elim
 rename_i d ob hcell
 obtain⟨hob,⟨hcl,hcall⟩,hK1⟩:=ha
 have hv:=zl hr Y
 have hrp:=ZJ hr (ow':=fun _=>none) (fun _ _ _ _ _ _ _=>rfl) hv hcell hob 0
 have hC:=hcall w (a.eval X) _ hrp
 unfold Oper.wp
 rw [YV hr hc hcl,hXY]
 simp only [Oper.upon]
 refine hC.mono fun e' w' hpost=> ?_
 obtain⟨he,hbl⟩:=hpost
 subst he
 have hgrow:=XR hr (w':=w') (ow':=ow) hbl.size (fun b hb=>⟨hbl.block b hb,rfl⟩) (hr.below.below hbl) (fun b p hle hp hne=>by rw [hr.new b hle]at hp;cases hp) (fun b hle=>hr.new b (by have :=hbl.size;omega))
 refine hK _ _ w' hK1 (xW hgrow hd9 ?_)
 simp only [AvR]
 refine⟨[a.eval Y, .int .i64 0],rfl,?_⟩
 simp only [za]
 exact⟨_,_,rfl,zl hgrow Y,_,_,rfl,by simp only [AvR],rfl⟩
def XU (τ:Ty)(n:Nat)(e:TypeId)(xs:List D):St:={n:=n,s:= [(1, .sl 16 [] 0 (xs.length / sz τ e) e),(0, .dead)],b:= [],r:= [(16,⟨.sh,e,xs,some 16⟩)]}
def RetA (e:TypeId)(xs:List D)(τ:Ty)(rs:List ResultVar)(ex:Exit)(st:St):Prop:=(ex= .ret∨ex= .normal)∧
 match zt τ st rs with
 |some ([.sl d [] 0 m e', .int .i64 0],ob)=>ob∧(match lk st.r d with|some R=>R.pin=some 16∧R.e=e'∧R.xs.length=m*sz τ e'∧sz τ e'≠0|none=>False)
 |_=>False
theorem zCo {n:Nat}{e:TypeId}{xs:List D}{g v:Value}(hn:2≤n)(hz:sz τ e≠0)(hv:Rp (sz τ) 0 w (fun _=>none) .sh (.lst e xs) v):
  zk τ w.heap.size ⟨w,fun _=>True,fun id=>if id=16 then some v else none⟩ (fun _=>none) (fun _=>v) (fun _=>0) (XU τ n e xs) {tmps:= #[g,v]++Array.replicate (n - #[g,v].size) undef,defers:= []} w:=by
 obtain⟨vs,⟨k1,N,k2,A,c,k3,k4,k5,k6⟩,k7⟩:=(yC _ _).1 hv
 have hN:xs.length / sz τ e=N:=by rw [k2];exact Nat.mul_div_cancel _ (Nat.pos_of_ne_zero hz)
 refine⟨fun ad h=> ?_,rfl,?_,Nat.le_refl _,⟨rfl,rfl,rfl,Nat.le_refl _,fun b hb _=>rfl⟩,fun b p hb h=>(by cases h),fun b hb=>rfl,fun k u hk=> ?_,fun d R hd=> ?_,fun t us ht=> ?_,fun d R i hd hp=> ?_⟩
 ·simp at h
 ·simp [XU];omega
 ·simp only [XU,zg,xI]at hk
  split at hk
  ·rename_i e1
   cases hk
   subst e1
   have h1:(#[g,v]++Array.replicate (n - #[g,v].size) undef).getD 1 undef=v:=by
    rw [Array.getD_eq_getD_getElem?,Array.getElem?_append_left (by simp)]
    rfl
   show AvR _ _ _ _ _ _ _ ((#[g,v]++Array.replicate (n - #[g,v].size) undef).getD 1 undef)
   rw [h1]
   simp only [AvR]
   refine⟨⟨A,N,c,k3⟩,fun R hR hp=>⟨v,by simp only [yI],A,N,c,A,c,nw0,k3,by rw [hN];exact k3,by omega,by omega,k5,fun _=>⟨rfl,rfl⟩,fun hne=> ?_⟩⟩
   obtain⟨b,o,e1,-⟩:=k6 (by omega)
   exact⟨b,o,e1,by rw [Nat.zero_mul];exact e1⟩
  ·split at hk
   ·cases hk;simp only [AvR]
   ·cases hk
 ·simp only [XU,zg,xI]at hd
  split at hd
  ·rename_i e1
   cases hd
   exact zB5 hv
  ·cases hd
 ·simp only [XU,xI]at ht;cases ht
 ·simp only [XU,zg,xI]at hd
  split at hd
  ·cases hd;cases hp;simp
  ·cases hd
theorem zMf (hτ:yA P τ)(hpos:yR τ){f:FuncId}{fn:Func}{c:Code}{rs:List ResultVar}{e:TypeId}{xs:List D}(hfn:P.funcs[f]? =some fn)(hname:(fn.name== "runtime.NumGoroutine")=false)(hb:fn.body=some c)(hres:fn.results=rs.toArray)(hn:2≤fn.ntmps)(hz:sz τ e≠0)
  (h:awp P τ c (RetA e xs τ rs) (XU τ fn.ntmps e xs)):FnA P τ f (.lst e xs):=by
 refine⟨⟨fn,hfn,hname,by rw [hb];rfl⟩,fun w g v hv=> ?_⟩
 have hst0:=zCo (g:=g) hn hz hv
 refine calls_of_wp hfn hb (Go.wp_mono (h _ _ _ w ⟨_,_,_,hst0⟩) fun ex a' w' ⟨st',⟨ow,hd,bk,hr⟩,he,hret0⟩=> ?_)
 have hpost:a'.defers= []∧∃z,(results fn a'.tmps).run P w'= .ok z w'∧((Ending.returned z)= .returned (.tuple #[v, .int .i64 0])∧Below w.heap.size w w'):=by
  split at hret0
  rotate_left
  ·exact hret0.elim
  rename_i d m e' ob hrv
  obtain⟨hob,hR0⟩:=hret0
  cases hR:lk st'.r d with
  |none=>rw [hR]at hR0;exact hR0.elim
  |some R=>
   rw [hR]at hR0
   obtain⟨hp,hRe,hlen,hz'⟩:=hR0
   obtain⟨zs,hrun,hvs⟩:=qn hτ hpos hr hres hrv hob
   simp only [za,AvR]at hvs
   obtain⟨x0,l0,rfl,⟨-,hx0⟩,x1,l1,rfl,rfl,rfl⟩:=hvs
   obtain⟨hv9,hin,hsub⟩:=hx0 R hR (by simp only [zo])
   simp only [yI,Option.some.injEq]at hin
   subst hin
   have hpin:=hr.pin d R 16 hR hp
   simp only [if_true,Option.some.injEq]at hpin
   obtain⟨A,n,c1,A',c',hnw,hhd,hval,hle2,hlc,hmx,hf0,hA⟩:=hsub
   obtain⟨rfl,rfl⟩:=hf0 rfl
   obtain⟨A3,n3,c3,e3,l3,-⟩:=xK (hr.root _ R hR)
   rw [hhd]at e3
   cases e3
   rw [hRe]at l3
   have hnm:n=m:=Nat.eq_of_mul_eq_mul_right (Nat.pos_of_ne_zero hz') (by rw [←l3,hlen])
   subst hnm
   refine⟨hr.defers,_,hrun,?_,⟨hr.below.os,hr.below.tape,hr.below.output,hr.below.size,fun b hb=>hr.below.block b hb trivial⟩⟩
   rw [hval,←hhd,←hpin]
   rfl
 rcases he with rfl|rfl<;>exact hpost
end
attribute [push_cast] ug XU RetA
theorem zBS {l:List Bool}: ∀{k:Nat},(∀v,v<k→gb l v=false)→yq l k= []
 |0,_=>rfl
 |k+1,h=>by rw [WK (h k (by omega))];exact zBS fun v hv=>h v (by omega)
theorem zIJ {l:List Bool}{k:Nat}(h: ∃v,v<k∧gb l v=true):1≤(yq l k).length:=by
 obtain⟨v,hv,hb⟩:=h
 have :(v:Int)∈yq l k:=wx.2 ⟨v,hv,hb,rfl⟩
 exact List.length_pos_of_mem this
theorem zMT {x:L7}{n:Nat}(hx:x.Ok n)(inn:List Bool):Yh ⟨⟨x.owner,x.next⟩,x.prio⟩ (yq inn n) (yq inn n).length=yV x inn n:=by
 have h1:=zEN ⟨⟨x.owner,x.next⟩,x.prio⟩ (yq inn n) (yq inn n).length
 have h2:=zF8 ⟨⟨x.owner,x.next⟩,x.prio⟩ (yq inn n) (yq inn n).length
 have h3:=fun v hv hb=>XE (x:=x) (inn:=inn) n v hv hb
 have h4:=Kw hx (inn:=inn) n (Nat.le_refl _)
 have hle:Yh ⟨⟨x.owner,x.next⟩,x.prio⟩ (yq inn n) (yq inn n).length≤yV x inn n:=by
  rcases h2 with e|⟨j,hj,e⟩
  ·rw [e]
   rcases h4 with e2|⟨v,hv,h5,h6⟩
   ·omega
   ·have :=hx.pr v hv;omega
  ·rw [←e]
   have h5:=QQ hj
   exact h3 _ (by omega) h5.2.2
 have hge:yV x inn n≤Yh ⟨⟨x.owner,x.next⟩,x.prio⟩ (yq inn n) (yq inn n).length:=by
  rcases h4 with e|⟨v,hv,h5,h6⟩
  ·rcases h2 with e2|⟨j,hj,e2⟩
   ·omega
   ·have h5:=QQ hj
    have :=hx.pr (gi (yq inn n) j).toNat (by omega)
    rw [←e2]
    show _≤gi x.prio _
    omega
  ·rw [←h6]
   have hm:(v:Int)∈yq inn n:=wx.2 ⟨v,hv,h5,rfl⟩
   obtain⟨j,hj⟩:=List.getElem?_of_mem hm
   have hl:=(List.getElem?_eq_some_iff.1 hj).1
   have :=h1 j hl
   have e9:gi (yq inn n) j=(v:Int):=by
    have :=wC hl
    rw [hj]at this
    exact(Option.some.inj this).symm
   rw [e9,Int.toNat_natCast]at this
   exact this
 omega
def anT (l:List Bool):Bool:=wG l l.length
theorem zLC {l:List Bool}{k:Nat}(hk:k<l.length)(h:gb l k=true):anT l=true:=wO.2 ⟨k,hk,h⟩
theorem zMn {l:List Bool}(h: ∀k,k<l.length→gb l k=false):anT l=false:=by
 refine Bool.eq_false_iff.2 fun e=> ?_
 obtain⟨v,hv,hb⟩:=wO.1 e
 rw [h v hv]at hb;cases hb
theorem Zq {l:List Bool}(h:anT l=false)(v:Nat)(hv:v<l.length):gb l v=false:=by
 cases hb:gb l v
 ·rfl
 ·rw [zLC hv hb]at h;cases h
def fxT (l:List Bool):Nat→Int
 |0=> -1
 |k+1=>if fxT l k<0∧gb l k=true then k else fxT l k
theorem kn {l:List Bool}: ∀{k:Nat},(∀j,j<k→gb l j=false)→fxT l k= -1
 |0,_=>rfl
 |k+1,h=>by
  have ih:=kn (l:=l) (k:=k) fun j hj=>h j (by omega)
  unfold fxT
  rw [if_neg (fun e=>by rw [h k (by omega)]at e;cases e.2),ih]
theorem zDP {l:List Bool}{k:Nat}(h:0≤fxT l k): ∀d,fxT l (k+d)=fxT l k
 |0=>rfl
 |d+1=>by
  have ih:=zDP h d
  rw [show k+(d+1)=k+d+1 from rfl]
  show(if fxT l (k+d)<0∧_ then _ else _)=_
  rw [if_neg (fun e=>by omega),ih]
theorem zH2 {l:List Bool}{k:Nat}(h: ∀j,j<k→gb l j=false)(hk:k<l.length)(hb:gb l k=true):fxT l l.length=k:=by
 have e:fxT l (k+1)=k:=by
  show(if _ then _ else _)=_
  rw [if_pos ⟨by rw [kn h];omega,hb⟩]
 have :=zDP (l:=l) (k:=k+1) (by omega) (l.length - (k+1))
 rw [show k+1+(l.length - (k+1))=l.length by omega]at this
 omega
theorem zH3 {l:List Bool}(h: ∀j,j<l.length→gb l j=false):fxT l l.length= -1:=kn h
theorem zLe (l:List Bool):decide (fxT l l.length≥0)=anT l:=by
 cases h:anT l
 ·rw [zH3 (Zq h)];rfl
 ·obtain⟨v,hv,hb⟩:=wO.1 h
  obtain⟨k,⟨hk,hb2⟩,hmin⟩:=zBc (P:=fun k=>k<l.length∧gb l k=true) v ⟨hv,hb⟩
  rw [zH2 (fun j hj=>by
   cases hq:gb l j
   ·rfl
   ·exact absurd ⟨by omega,hq⟩ (hmin j hj)) hk hb2]
  exact decide_eq_true (by omega)
set_option maxRecDepth 20000 in
set_option maxHeartbeats 4000000 in
theorem zHQ (l:List Bool)(hl:l.length≤1048576):Fn Tryz.prog tyT 209 [.c (.lst 4 (dB l)), .c (.bool true)] [.c (.int .i64 (fxT l l.length))]:=by
 refine θH (ts:= [4]) Tryz.func209 Tryz.ntmps209 ?_
 push_cast
 refine θA ?_
 refine zL fun K1 hK1=> ?_
 refine θA ?_
 refine zV ?_
 refine zh [4,5,8,9,10,11,12,13,14,15,16,17,18] [] (fun(k:Nat)=> [(8, .int .i64 k)]) (fun k=> []) (fun k=> []) (fun k=>k≤l.length∧∀j,j<k→gb l j=false) (fun k=>l.length - k) 0 ?_ ⟨by omega,fun j hj=>by omega⟩ ?_
 ·
  exact θX
 ·rintro k ⟨hk,hall⟩ KL0 hL0
  push_cast
  refine θA ?_
  refine zL fun K2 hK2=> ?_
  refine θU (fun hc=> ?_) fun hc=> ?_
  ·
   refine zW (hK2 _ ?_)
   refine zL fun K3 hK3=> ?_
   refine zV ?_
   refine θA ?_
   refine θA ?_
   refine θU (fun hc=> ?_) fun hc=> ?_
   ·
    refine θA ?_
    refine zY ⟨Or.inl rfl,?_⟩
    push_cast [zd]
    exact(zH2 hall (by omega) (by first|assumption|(simpa using hc)|exact hc.symm)).symm
   ·
    refine zW (hK3 _ ?_)
    refine θB ?_
    refine hL0 _ ⟨k+1,⟨by omega,fun j hj=>by
      by_cases hjk:j=k
      ·subst hjk;simpa using hc
      ·exact hall j (by omega)⟩,by omega,?_⟩
    exact θX
  ·
   refine zi ?_
   have hkk:k=l.length:=by omega
   subst hkk
   refine hK1 _ ?_
   refine θA ?_
   refine zY ⟨Or.inl rfl,?_⟩
   push_cast [zd]
   exact(zH3 hall).symm
set_option maxRecDepth 20000 in
set_option maxHeartbeats 4000000 in
theorem wD (l:List Bool)(hl:l.length≤1048576):Fn Tryz.prog tyT 183 [.c (.lst 4 (dB l)), .c (.bool true)] [.c (.bool (anT l))]:=by
 have hI:=zHQ l hl
 have hf:=zLe l
 refine θH (ts:= [4]) Tryz.func183 Tryz.ntmps183 ?_
 push_cast
 refine θA ?_
 refine θL fun K hK=> ?_
 refine θD 3 ?_
 refine θE hK ?_
 refine zY ⟨Or.inl rfl,?_⟩
 push_cast [zd]
 rw [←hf]
 all_goals first|rfl|(simp;done)|skip
set_option maxRecDepth 20000 in
set_option maxHeartbeats 4000000 in
theorem zMb (l:List Bool)(hl:l.length≤1048576)(hno: ∀v,v<l.length→gb l v=false):FnA Tryz.prog tyT 161 (.lst 4 (dB l)):=by
 have hL:=Xa l hl
 rw [zBS hno]at hL
 refine zMf (fn:=Tryz.f161) (rs:= [.tmp 4, .tmp 5]) zQ zN Tryz.func161 (by kernel_rfl) rfl rfl (by rw [Tryz.ntmps161];exact Nat.le_of_ble_eq_true rfl) (by decide) ?_
 rw [Tryz.ntmps161]
 push_cast
 refine θA ?_
 refine θL fun K hK=> ?_
 refine θD 2 ?_
 refine θE hK ?_
 refine zL fun K1 hK1=> ?_
 refine θA ?_
 refine zU rfl (fun hc=> ?_) (fun hc=> ?_)
 rotate_left
 ·exfalso;first|(cases hc;done)|(simp only [push_cast]at hc;done)|(simp only [push_cast]at hc;omega)|omega
 refine θA ?_
 refine zY ⟨Or.inl rfl,?_⟩
 push_cast [RetA,zt,yH]
 all_goals first|rfl|exact⟨trivial,rfl,rfl,rfl,by decide⟩|(simp;done)|skip
end Go.Proofs.YthepmdkpbjfdcaaGreat
