/- lists of pairs of lists: the data, the laws' helpers -/
import Derived.Test.YtcleaokoimhedaaGreatB6zmo
import Derived.Test.YtcleaokoimhedaaGreatGDzmo
namespace Go.Proofs.YtcleaokoimhedaaGreat
open Nat renaming reduceMod → zA, reduceMul → zB, reduceDiv → zC, reduceAdd → zD, reduceSub → zE, reduceEqDiff → zF, reduceBEq → zG, reduceLT → zH, reduceLeDiff → zI
open Go.RowKit
set_option linter.unusedVariables false
set_option linter.unusedSimpArgs false
def ilv (ps:List Pr):List (List Int):=ps.flatMap fun p=> [p.ask,p.give]
def gp (ps:List Pr)(k:Nat):Pr:=ps.getD k ⟨[],[]⟩
theorem wN (p:Pr)(ps:List Pr):ilv (p::ps)=p.ask::p.give::ilv ps:=rfl
theorem m2d (n:Nat):n*2 / 2=n:=by omega
theorem yq (ps:List Pr):(ilv ps).length=ps.length*2:=by
 induction ps with
 |nil=>rfl
 |cons p ps ih=>rw [wN,List.length_cons,List.length_cons,ih,List.length_cons];omega
theorem jP (ps:List Pr)(k:Nat):gl (ilv ps) (k*2)=(gp ps k).ask:=by
 induction ps generalizing k with
 |nil=>rfl
 |cons p ps ih=>
  cases k with
  |zero=>rfl
  |succ k=>rw [show(k+1)*2=k*2+1+1 from by omega,wN];exact ih k
theorem jQ (ps:List Pr)(k:Nat):gl (ilv ps) (k*2+1)=(gp ps k).give:=by
 induction ps generalizing k with
 |nil=>rfl
 |cons p ps ih=>
  cases k with
  |zero=>rfl
  |succ k=>rw [show(k+1)*2+1=k*2+1+1+1 from by omega,wN];exact ih k
theorem zKS {ps:List Pr}{k:Nat}(h:k<ps.length):ps[k]? =some (gp ps k):=by
 unfold gp
 rw [List.getD_eq_getElem?_getD,List.getElem?_eq_getElem h]
 rfl
theorem zNL {ps:List Pr}{k:Nat}(h:k<ps.length):gp ps k∈ps:=List.mem_of_getElem? (zKS h)
theorem zD0 {ps:List Pr}{k:Nat}(h:k<ps.length):ps.take (k+1)=ps.take k++ [gp ps k]:=by rw [List.take_add_one,zKS h];rfl
attribute [push_cast] m2d yq jP jQ
def cP (ps:List Pr):Nat:=yF (ilv ps)
theorem zAI (ps qs:List Pr):ilv (ps++qs)=ilv ps++ilv qs:=List.flatMap_append ..
theorem zK3 {ps:List Pr}{k:Nat}(h:k<ps.length):cP (ps.take (k+1))=cP (ps.take k)+(gp ps k).tot:=by
 unfold cP Pr.tot
 rw [zD0 h,zAI,XQ]
 simp [ilv,yF]
theorem zF8 (ps:List Pr)(k:Nat):cP (ps.take k)≤cP ps:=by
 have h:=List.take_append_drop k ps
 have h2:cP (ps.take k++ps.drop k)=cP (ps.take k)+cP (ps.drop k):=by unfold cP;rw [zAI,XQ]
 rw [h]at h2
 omega
theorem zKF (ps:List Pr)(k:Nat):(ilv ps).take (k*2)=ilv (ps.take k):=by
 induction ps generalizing k with
 |nil=>simp [ilv]
 |cons p ps ih=>
  cases k with
  |zero=>simp [ilv]
  |succ k=>rw [show(k+1)*2=k*2+1+1 from by omega,wN,List.take_succ_cons,List.take_succ_cons,ih,List.take_succ_cons,wN]
theorem zI5 (ps:List Pr)(k:Nat):(ilv ps).drop (k*2)=ilv (ps.drop k):=by
 induction ps generalizing k with
 |nil=>simp [ilv]
 |cons p ps ih=>
  cases k with
  |zero=>simp [ilv]
  |succ k=>rw [show(k+1)*2=k*2+1+1 from by omega,wN,List.drop_succ_cons,List.drop_succ_cons,ih,List.drop_succ_cons]
theorem zIP (ps:List Pr):(ilv ps).take (ps.length*2)=ilv ps:=List.take_of_length_le (by rw [yq];exact Nat.le_refl _)
attribute [push_cast] zIP
def PLn (B:Nat)(ps:List Pr):Prop:=ps.length≤B∧∀p∈ps,p.Ln B
def Jk (ps:List Pr):Nat:=ps.length+cP ps
theorem Xt {B:Nat}{ps:List Pr}(h:PLn B ps)(k:Nat):(gp ps k).Ln B:=by
 rcases Nat.lt_or_ge k ps.length with hk|hk
 ·exact h.2 _ (zNL hk)
 ·unfold gp
  rw [List.getD_eq_getElem?_getD,List.getElem?_eq_none hk]
  exact⟨Nat.zero_le _,Nat.zero_le _⟩
theorem zMr {ps:List Pr}{p:Pr}(h:p∈ps):p.tot≤cP ps:=by
 induction ps with
 |nil=>simp at h
 |cons q ps ih=>
  have e:cP (q::ps)=q.tot+cP ps:=by unfold cP Pr.tot;rw [wN];simp [yF];omega
  rcases List.mem_cons.1 h with rfl|h
  ·omega
  ·have :=ih h;omega
theorem zMe {B:Nat}{ps:List Pr}(h:Jk ps≤B):PLn B ps:=by
 unfold Jk at h
 exact⟨by omega,fun p hp=>Pr.ln_of (by have :=zMr hp;omega)⟩
theorem PLn.mono {B C:Nat}(hB:B≤C){ps:List Pr}(h:PLn B ps):PLn C ps:=⟨Nat.le_trans h.1 hB,fun p hp=>Pr.ln_mono hB (h.2 p hp)⟩
def Vv (ps:List Pr)(k:Nat):List Pr:=ps.take k++List.replicate (ps.length - k) ⟨[],[]⟩
theorem zJo {ps:List Pr}{k:Nat}(h:k≤ps.length):(Vv ps k).length=ps.length:=by simp [Vv];omega
theorem zJn (ps:List Pr):Vv ps ps.length=ps:=by simp [Vv]
theorem zJp {ps:List Pr}{k:Nat}(h:k<ps.length):(Vv ps k).set k (gp ps k)=Vv ps (k+1):=by
 have hk:(ps.take k).length=k:=by rw [List.length_take];omega
 unfold Vv
 rw [List.set_append_right _ _ (by omega),hk,Nat.sub_self,show ps.length - k=(ps.length - (k+1))+1 from by omega,List.replicate_succ,List.set_cons_zero,zD0 h,List.append_assoc]
 rfl
theorem zNl (ps:List Pr):(List.replicate ps.length [D.lst 2 [],D.lst 2 []]).flatten=dII (ilv (Vv ps 0)):=by
 unfold Vv
 rw [Nat.sub_zero,List.take_zero,List.nil_append]
 generalize ps.length=n
 induction n with
 |zero=>rfl
 |succ n ih=>rw [List.replicate_succ,List.flatten_cons,ih,List.replicate_succ,wN];rfl
theorem zJP {ps:List Pr}{k:Nat}{x y:List Int}(h:k<ps.length):dII (List.take (k*2) (ilv ps))++ [D.lst 2 (dI x),D.lst 2 (dI y)]++dII (List.drop (k*2+2) (ilv ps))=dII (ilv (ps.set k ⟨x,y⟩)):=by
 rw [show k*2+2=(k+1)*2 from by omega,zKF,zI5,List.set_eq_take_append_cons_drop,if_pos h,zAI,wN]
 simp [dII]
theorem sumT {ps:List Pr}{j:Nat}(h:j<ps.length):yF ((ilv ps).take (j*2+1))=yF ((ilv ps).take (j*2))+(gp ps j).ask.length∧yF ((ilv ps).take ((j+1)*2))=yF ((ilv ps).take (j*2))+(gp ps j).ask.length+(gp ps j).give.length:=by
 have h1:=VY (rs:=ilv ps) (j:=j*2) (by rw [yq];omega)
 have h2:=VY (rs:=ilv ps) (j:=j*2+1) (by rw [yq];omega)
 rw [jP]at h1
 rw [jQ]at h2
 rw [show(j+1)*2=j*2+1+1 from by omega]
 omega
theorem mkPg0 {ps:List Pr}{k:Int}{j:Nat}(h:j<ps.length):gl (mk2 k (ilv ps) (j*2)) (j*2)=(gp ps j).ask:=by rw [zDR (by rw [yq];omega),jP]
theorem mkPg1 {ps:List Pr}{k:Int}{j:Nat}(h:j<ps.length):gl (mk2 k (ilv ps) (j*2+1)) (j*2+1)=(gp ps j).give:=by rw [zDR (by rw [yq];omega),jQ]
theorem mkP0 {ps:List Pr}{k:Int}{j:Nat}(h:j<ps.length):(mk2 k (ilv ps) (j*2)).set (j*2) (iot (k+yF ((ilv ps).take (j*2))) (gp ps j).ask.length)=mk2 k (ilv ps) (j*2+1):=by
 have :=zAU (k:=k) (rs:=ilv ps) (j:=j*2) (by rw [yq];omega)
 rw [jP]at this
 exact this
theorem mkP1 {ps:List Pr}{k:Int}{j:Nat}(h:j<ps.length):(mk2 k (ilv ps) (j*2+1)).set (j*2+1) (iot (k+yF ((ilv ps).take (j*2))+(gp ps j).ask.length) (gp ps j).give.length)=mk2 k (ilv ps) ((j+1)*2):=by
 have :=zAU (k:=k) (rs:=ilv ps) (j:=j*2+1) (by rw [yq];omega)
 rw [jQ,(sumT h).1]at this
 rw [show(j+1)*2=j*2+1+1 from by omega,←this]
 congr 2
 omega
def lz (l:Int)(ps:List Pr)(k:Nat):Int:=l - ps.length - cP (ps.take k)
theorem lz_0 (l:Int)(ps:List Pr):lz l ps 0=l - ps.length:=by unfold lz;rw [List.take_zero,show cP []=0 from rfl];omega
theorem lz_s {l:Int}{ps:List Pr}{k:Nat}(h:k<ps.length):lz l ps (k+1)=lz l ps k - (gp ps k).tot:=by unfold lz;rw [zK3 h];omega
theorem zHp (l:Int)(ps:List Pr):lz l ps ps.length=l - Jk ps:=by unfold lz Jk;rw [List.take_length];omega
theorem zKV (l:Int)(ps:List Pr)(k:Nat):l - Jk ps≤lz l ps k∧lz l ps k≤l:=by have :=zF8 ps k;unfold lz Jk;omega
theorem zN2 {l:Int}{t:Nat}(hl:0≤l)(h:szl l t<0):l<t:=by
 by_cases h9:l<t
 ·exact h9
 ·rw [ve h9]at h;omega
theorem zIO {l:Int}{t:Nat}(h: ¬szl l t<0): ¬l<t:=fun h9=>h (by rw [qg h9];omega)
set_option maxRecDepth 20000 in
set_option maxHeartbeats 4000000 in
theorem zMH (ps:List Pr)(l:Int)(h0:0≤l)(h1:l≤1048576)(ha:PLn 9223372036854775807 ps):Fn Tryz.prog tyT 5 [.c (.lst 48 (dII (ilv ps))), .c (.int .i64 l)] [.c (.int .i64 (szl l (Jk ps)))]:=by
 have hl:=ha.1
 have hQ:=fun k (m:Int) (g1:0≤m) (g2:m≤1048576)=>zMI (gp ps k) m g1 g2 (Xt ha k)
 unfold dPr at hQ
 refine θH (ts:= [4]) Tryz.func5 Tryz.ntmps5 ?_
 push_cast
 refine θA ?_
 refine θA ?_
 refine zL fun K1 hK1=> ?_
 refine θA ?_
 refine θU (fun hc=> ?_) fun hc=> ?_
 ·
  refine θA ?_
  refine zZ ⟨Or.inl rfl,?_⟩
  push_cast [zd]
  rw [qg (by unfold Jk;omega)]
 ·
  refine zU (hK1 _ ?_)
  refine zL fun K2 hK2=> ?_
  refine θA ?_
  refine zV ?_
  refine zg [1,4,5,12,13,14,15,16,17,18,19,20,21,22,23,24,25] [] (fun(k:Nat)=> [(5, .int .i64 k),(1, .int .i64 (lz l ps k))]) (fun k=> []) (fun k=> []) (fun k=>k≤ps.length∧0≤lz l ps k) (fun k=>ps.length - k) 0 ?_ ⟨by omega,by rw [lz_0];omega⟩ ?_
  ·
   rw [lz_0]
   exact θX
  ·rintro k ⟨hk,hm⟩ KL0 hL0
   have hlz:=zKV l ps k
   push_cast
   refine zL fun K3 hK3=> ?_
   refine θA ?_
   refine θU (fun hc=> ?_) fun hc=> ?_
   ·
    refine zU (hK3 _ ?_)
    refine zL fun K4 hK4=> ?_
    refine zV ?_
    refine θL fun K hK=> ?_
    all_goals refine zm 6 fun K9 hK9=> ?_
    all_goals push_cast
    all_goals repeat'(first|(apply zP<;>(intro hg;push_cast at hg))|(refine⟨_,hQ k (lz l ps k) (by omega) (by omega),?_⟩;push_cast)|apply And.intro|(intro hg;push_cast at hg))
    all_goals first|exact gA|(exact zQ (by simp only [push_cast];omega))|skip
    refine hK9 _ ?_;clear hK9 K9
    all_goals push_cast
    all_goals repeat'(first|(apply zP<;>(intro hg;push_cast at hg))|(refine⟨_,hQ k (lz l ps k) (by omega) (by omega),?_⟩;push_cast)|apply And.intro|(intro hg;push_cast at hg))
    all_goals first|exact gA|(exact zQ (by simp only [push_cast];omega))|skip
    refine hK _ ?_;clear hK K
    refine θA ?_
    refine θU (fun hc=> ?_) fun hc=> ?_
    ·
     refine θA ?_
     refine zZ ⟨Or.inl rfl,?_⟩
     push_cast [zd]
     have h8:=zN2 hm hc
     have h7:=zKV l ps (k+1)
     rw [lz_s (by omega)]at h7
     rw [qg (by omega)]
    ·
     refine zU (hK4 _ ?_)
     refine θB ?_
     refine hL0 _ ⟨k+1,⟨by omega,by rw [lz_s (by omega)];have :=zIO hc;omega⟩,by omega,?_⟩
     rw [ve (zIO hc),←lz_s (by omega)]
     exact θX
   ·
    refine zh ?_
    have hkk:k=ps.length:=by omega
    subst hkk
    rw [zHp]
    rw [zHp]at hm
    refine hK2 _ ?_
    refine θA ?_
    refine zZ ⟨Or.inl rfl,?_⟩
    push_cast [zd]
    rw [ve (by omega)]
set_option maxRecDepth 20000 in
set_option maxHeartbeats 4000000 in
theorem jn (ps:List Pr)(ha:PLn 1048576 ps):Fn Tryz.prog tyT 8 [.c (.lst 48 (dII (ilv ps)))] [.c (.lst 64 (dII (ilv ps)))]:=by
 have hl:=ha.1
 have hQ:=fun k=>zMP (gp ps k) (Xt ha k)
 unfold dPr at hQ
 refine θH (ts:= [2]) Tryz.func8 Tryz.ntmps8 ?_
 push_cast
 refine θA ?_
 refine θA ?_
 refine zL fun K1 hK1=> ?_
 refine θA ?_
 refine zV ?_
 refine zg [3,4,8,9,10,11,12,13,14,15,16,17,18,19,20,21] [48] (fun(k:Nat)=> [(4, .int .i64 k),(3, .sl 48 [] 0 ps.length 64)]) (fun k=> []) (fun k=> [(48,⟨.ex,64,dII (ilv (Vv ps k)),none⟩)]) (fun k=>k≤ps.length) (fun k=>ps.length - k) 0 ?_ (by omega) ?_
 ·
  rw [zNl]
  exact θX
 ·rintro k hk KL0 hL0
  have hpl:=zJo hk
  push_cast
  refine zL fun K2 hK2=> ?_
  refine θA ?_
  refine θU (fun hc=> ?_) fun hc=> ?_
  ·
   refine zU (hK2 _ ?_)
   refine zL fun K3 hK3=> ?_
   refine zV ?_
   refine zf true zO zN ?_ rfl ?_
   ·kernel_rfl
   push_cast
   all_goals repeat'(first|(apply zP<;>(intro hg;push_cast at hg))|(refine⟨_,hQ k,?_⟩;push_cast)|apply And.intro|(intro hg;push_cast at hg))
   all_goals first|exact gA|(exact zQ (by simp only [push_cast];omega))|skip
   refine hK3 _ ?_
   refine θB ?_
   refine hL0 _ ⟨k+1,by omega,by omega,?_⟩
   rw [zJP (by omega),zJp (by omega)]
   exact θX
  ·
   refine zh ?_
   have hkk:k=ps.length:=by omega
   subst hkk
   rw [zJn]
   refine hK1 _ ?_
   refine θA ?_
   refine zZ ⟨Or.inl rfl,?_⟩
   push_cast [zd]
set_option maxRecDepth 20000 in
set_option maxHeartbeats 4000000 in
theorem zLJ (ps:List Pr)(ha:PLn 1048576 ps):Fn Tryz.prog tyT 12 [.c (.lst 64 (dII (ilv ps))), .c (.lst 64 (dII (ilv ps)))] [.c (.bool true)]:=by
 have hl:=ha.1
 have hQ:=fun k=>zLK (gp ps k) (Xt ha k)
 unfold dPr at hQ
 refine θH (ts:= [4]) Tryz.func12 Tryz.ntmps12 ?_
 push_cast
 refine θA ?_
 refine zL fun K1 hK1=> ?_
 refine θA ?_
 refine zT rfl (fun hc=> ?_) (fun hc=> ?_)
 skip
 ·exfalso;first|(cases hc;done)|(simp only [push_cast]at hc;done)|(simp only [push_cast]at hc;omega)|omega
 refine zU (hK1 _ ?_)
 refine zL fun K2 hK2=> ?_
 refine θA ?_
 refine zV ?_
 refine zg [4,5,11,12,13,14,15,16,17,18,19,20,21,22,23,24,25,26] [] (fun(k:Nat)=> [(5, .int .i64 k)]) (fun k=> []) (fun k=> []) (fun k=>k≤ps.length) (fun k=>ps.length - k) 0 ?_ (by omega) ?_
 ·
  exact θX
 ·rintro k hk KL0 hL0
  push_cast
  refine zL fun K3 hK3=> ?_
  refine θA ?_
  refine θU (fun hc=> ?_) fun hc=> ?_
  ·
   refine zU (hK3 _ ?_)
   refine zL fun K4 hK4=> ?_
   refine zV ?_
   refine zL fun K hK=> ?_
   refine zx false zO zN ya ?_ rfl ?_
   ·kernel_rfl
   intro E hE
   all_goals refine yb 9 (by decide) fun K9 hK9=> ?_
   all_goals push_cast
   all_goals repeat'(first|(apply zP<;>(intro hg;push_cast at hg))|(refine⟨_,hQ k,?_⟩;push_cast)|apply And.intro|(intro hg;push_cast at hg))
   all_goals first|exact gA|(exact zQ (by simp only [push_cast];omega))|skip
   refine hK9 _ _ ?_;clear hK9 K9
   all_goals push_cast
   all_goals repeat'(first|(apply zP<;>(intro hg;push_cast at hg))|(refine⟨_,hQ k,?_⟩;push_cast)|apply And.intro|(intro hg;push_cast at hg))
   all_goals first|exact gA|(refine hE _ _ ?_ ?_;kernel_rfl)|(exact zQ (by simp only [push_cast];omega))|skip
   all_goals clear hE E
   refine hK _ ?_;clear hK K
   refine zT rfl (fun hc=> ?_) (fun hc=> ?_)
   skip
   ·exfalso;first|(cases hc;done)|(simp only [push_cast]at hc;done)|(simp only [push_cast]at hc;omega)|omega
   refine zU (hK4 _ ?_)
   refine θB ?_
   refine hL0 _ ⟨k+1,by omega,by omega,?_⟩
   exact θX
  ·
   refine zh (hK2 _ ?_)
   refine θA ?_
   refine zZ ⟨Or.inl rfl,?_⟩
   push_cast [zd]
set_option maxRecDepth 20000 in
set_option maxHeartbeats 4000000 in
theorem zHu (ps:List Pr)(k:Int)(h0:0≤k)(h1:k+yF (ilv ps)≤4611686018427387904)(h2:ps.length≤1048576):FnG Tryz.prog tyT 14 [.c (.lst 64 (dII (ilv ps))), .c (.int .i64 k)] [0] [(0,64,dII (mkR k (ilv ps)))] [.c (.int .i64 (k+yF (ilv ps)))]:=by
 have hM:=fun r (m:Int) g0 g1=>Xi r m g0 g1
 refine QV (fn:=Tryz.f14) (rs:= [.tmp 4]) (own:= [0]) (outs:= [(0,64,dII (mkR k (ilv ps)))]) zO zN Tryz.func14 (by kernel_rfl) rfl rfl (by rw [Tryz.ntmps14];exact Nat.le_of_ble_eq_true rfl) rfl (by simp only [szA,List.mem_cons,List.not_mem_nil,or_false,forall_eq_or_imp,forall_eq,VT.cells,szL];try decide) ?_
 rw [Tryz.ntmps14]
 push_cast
 refine θA ?_
 refine zL fun K1 hK1=> ?_
 refine θA ?_
 refine zV ?_
 refine zg [1,5,6,7,8,9,10,11,12,13,14,15,16,17,18,19,20,21,22,23,24,25] [0] (fun(j:Nat)=> [(5, .int .i64 j),(1, .int .i64 (k+yF ((ilv ps).take (j*2))))]) (fun j=> []) (fun j=> [(0,⟨.ex,64,dII (mk2 k (ilv ps) (j*2)),some 0⟩)]) (fun j=>j≤ps.length) (fun j=>ps.length - j) 0 ?_ (by omega) ?_
 ·
  rw [Nat.zero_mul,zKY]
  simp only [List.take_zero,Jj]
  exact θX
 ·rintro j hj KL0 hL0
  have hl:=zAT (k:=k) (rs:=ilv ps) (j:=j*2) (by rw [yq];omega)
  have hs:=wF (ilv ps) (j*2)
  have hs1:=wF (ilv ps) ((j+1)*2)
  have hli:=yq ps
  push_cast
  refine zL fun K2 hK2=> ?_
  refine θA ?_
  refine θU (fun hc=> ?_) fun hc=> ?_
  ·
   refine zU (hK2 _ ?_)
   refine zL fun K3 hK3=> ?_
   refine zV ?_
   have hst:=sumT (ps:=ps) (j:=j) (by omega)
   have hM0:=hM (gp ps j).ask (k+yF ((ilv ps).take (j*2))) (by omega) (by omega)
   have hM1:=hM (gp ps j).give (k+yF ((ilv ps).take (j*2))+(gp ps j).ask.length) (by omega) (by omega)
   rw [show DI (gp ps j).ask=DI (gl (mk2 k (ilv ps) (j*2)) (j*2))from by rw [mkPg0 (by omega)]]at hM0
   rw [show DI (gp ps j).give=DI (gl (mk2 k (ilv ps) (j*2+1)) (j*2+1))from by rw [mkPg1 (by omega)]]at hM1
   refine zL fun K hK=> ?_
   refine qD 18 [0] [(0,2,dI (iot (k+yF ((ilv ps).take (j*2))) (gp ps j).ask.length))] zO zN [] rfl ?_
   push_cast
   all_goals repeat'(first|(apply zP<;>(intro hg;push_cast at hg))|(refine⟨_,hM0,?_⟩;push_cast)|apply And.intro|(intro hg;push_cast at hg))
   all_goals first|exact gA|(exact zQ (by omega))|skip
   refine hK _ ?_;clear hK K
   rw [uM,mkP0 (by omega)]
   have hl1:=zAT (k:=k) (rs:=ilv ps) (j:=j*2+1) (by rw [yq];omega)
   refine qD 25 [0] [(0,2,dI (iot (k+yF ((ilv ps).take (j*2))+(gp ps j).ask.length) (gp ps j).give.length))] zO zN [] rfl ?_
   push_cast
   all_goals repeat'(first|(apply zP<;>(intro hg;push_cast at hg))|(refine⟨_,hM1,?_⟩;push_cast)|apply And.intro|(intro hg;push_cast at hg))
   all_goals first|exact gA|(exact zQ (by omega))|skip
   refine hK3 _ ?_
   refine θB ?_
   refine hL0 _ ⟨j+1,by omega,by omega,?_⟩
   rw [uM,mkP1 (by omega)]
   refine zY rfl ?_ ?_ ?_<;>push_cast [zb,za]
   all_goals(try(refine congrArg (AV.int .i64) ?_;omega))
  ·
   refine zh ?_
   have hjj:j=ps.length:=by omega
   subst hjj
   rw [←yq ps,zFN,List.take_length]
   refine hK1 _ ?_
   refine θA ?_
   refine zZ ⟨Or.inl rfl,?_⟩
   push_cast [Zg,wY,zo,yA]
open Go.ChangeShapes Go.WideShapes Go.ChangeAt Go.RowKit Go.Deep Go.Joins
theorem zFC : ∀(dss:List (List D)),(∀ds∈dss,∃p:Pr,ds=dPr p∧p.Ln 9223372036854775807)→∃ps:List Pr,dss.flatten=dII (ilv ps)∧ps.length=dss.length∧∀p∈ps,p.Ln 9223372036854775807
 | [],_=>⟨[],rfl,rfl,fun p hp=>by simp at hp⟩
 |ds::dss,h=>by
  obtain⟨p,rfl,hp⟩:=h ds (by simp)
  obtain⟨ps,e,hl,hb⟩:=zFC dss (fun d hd=>h d (by simp [hd]))
  refine⟨p::ps,by rw [List.flatten_cons,e];rfl,by simp [hl],fun x hx=> ?_⟩
  rcases List.mem_cons.1 hx with rfl|hx
  ·exact hp
  ·exact hb x hx
theorem zM8 {ps:List Pr}(h:PLn 1048576 ps):yF (ilv ps)≤2199023255552∧ps.length≤1048576:=by
 have h1:yF (ilv ps)≤(ilv ps).length*1048576:=zFi fun r hr=>by
  unfold ilv at hr
  rw [List.mem_flatMap]at hr
  obtain⟨p,hp,hr⟩:=hr
  have :=h.2 p hp
  simp only [List.mem_cons,List.not_mem_nil,or_false]at hr
  rcases hr with rfl|rfl
  ·exact this.ask
  ·exact this.give
 rw [yq]at h1
 have :=h.1
 omega
section
variable {H:Type} {enc:TypeId×Value→H} {W:World} {lo:Nat}
set_option maxRecDepth 100000 in
theorem zLx {fuel:Nat}{cs:List Value}{x:DataW H×List MemPlace}(h:Tro enc W fuel 26 cs x): ∃v ps,cs= [v]∧RpN lo W (.lst 48 (dII (ilv ps))) v∧PLn 9223372036854775807 ps:=by
 obtain⟨v,dss,rfl,h1,h2,h3⟩:=zDY (lo:=lo) (k:=2) Tryz.underlying26 (by omega) zKi (by kernel_rfl) (Q:=fun ds=> ∃p:Pr,ds=dPr p∧p.Ln 9223372036854775807) (fun n cs y hy=>by
  obtain⟨p,h1,-,h2⟩:=zLy (lo:=lo) hy
  exact⟨dPr p,h1,p,rfl,h2⟩) h
 obtain⟨ps,e,hl,hb⟩:=zFC dss (fun ds hds=>(h3 ds hds).1)
 rw [e]at h1
 exact⟨v,ps,rfl,h1,by omega,hb⟩
set_option maxRecDepth 100000 in
theorem zMq {base:Nat}{v:Value}{d:DataW H}{p:List MemPlace}(hv:Value.okWide Tryz.prog W .any base 26 v)(h:DataW.Trod enc Tryz.prog W 0 (fun _=>true) true 26 v d p): ∃ps,Ym (sz tyT) lo W (fun _=>none) (.c (.lst 48 (dII (ilv ps)))) v∧True∧PLn 9223372036854775807 ps:=by
 obtain⟨A,n,c,rfl⟩:=okWide_slice Tryz.underlying26 hv
 obtain⟨fuel,hf⟩:=h
 obtain⟨v',n',e,h1,h2⟩:=zLx (lo:=lo) hf
 simp only [Value.cells,List.cons.injEq,and_true]at e
 subst e
 exact⟨n',h1,trivial,h2⟩
end
structure Me where
 next:List (List Int)
 choice:List (List Int)
 deriving DecidableEq
def dMe (x:Me):List D:= [DII x.next,DII x.choice]
def Me.tot (x:Me):Nat:=wT x.next+wT x.choice
structure Me.Ln (B:Nat)(x:Me):Prop where
 next:qV B x.next
 choice:qV B x.choice
theorem Me.ln_of {B:Nat}{x:Me}(h:x.tot≤B):x.Ln B:=by
 unfold Me.tot at h
 exact⟨WB (by omega),WB (by omega)⟩
set_option maxHeartbeats 1000000 in
theorem zAD (x:Me)(ha:x.Ln 1048576):Fn Tryz.prog tyT 10 [.agg (dMe x), .agg (dMe x)] [.c (.bool true)]:=by
 unfold dMe
 refine θH (ts:= [4]) Tryz.func10 Tryz.ntmps10 ?_
 push_cast
 refine θA ?_
 refine zL fun K0 hK0=> ?_
 have hA:=km x.next ha.next
 refine zL fun K hK=> ?_
 refine zM zO zN [] rfl ?_
 push_cast
 refine⟨_,hA,?_⟩
 push_cast
 repeat' apply And.intro
 all_goals try exact gB
 refine hK _ ?_
 clear hK K hA
 refine zT rfl (fun hc=>by cases hc) (fun _=> ?_)
 refine zU (hK0 _ ?_)
 refine zL fun K1 hK1=> ?_
 have hA:=km x.choice ha.choice
 refine zL fun K hK=> ?_
 refine zM zO zN [] rfl ?_
 push_cast
 refine⟨_,hA,?_⟩
 push_cast
 repeat' apply And.intro
 all_goals try exact gB
 refine hK _ ?_
 clear hK K hA
 refine zT rfl (fun hc=>by cases hc) (fun _=> ?_)
 refine zU (hK1 _ ?_)
 refine θA ?_
 refine zZ ⟨Or.inl rfl,?_⟩
 push_cast [zd]
def Me.cnt (x:Me):Nat:=yF x.next+yF x.choice
theorem Me.ln_mono {B C:Nat}(hB:B≤C){x:Me}(h:x.Ln B):x.Ln C:=⟨qV.mono hB h.next,qV.mono hB h.choice⟩
theorem Me.cnt_le {x:Me}(h:x.Ln 1048576):x.cnt≤2199023255552:=by
 have h0:=WK h.next
 have h1:=WK h.choice
 unfold Me.cnt
 omega
def zDS (k:Int)(x:Me):Me:=
 ⟨mkR (k) x.next,mkR (k+(yF x.next:Nat)) x.choice⟩
set_option maxHeartbeats 1000000 in
theorem zHs (x:Me)(k:Int)(h0:0≤k)(h1:k+x.cnt≤4611686018427387904)(ha:x.Ln 4611686018427387904):FnG Tryz.prog tyT 15 [.agg (dMe x), .c (.int .i64 k)] [0,1] [(0,22,dII (mkR (k) x.next)),(1,22,dII (mkR (k+(yF x.next:Nat)) x.choice))] [.c (.int .i64 (k+x.cnt))]:=by
 have ht:x.cnt=yF x.next+yF x.choice:=by unfold Me.cnt; omega
 unfold dMe
 refine QV (fn:=Tryz.f15) (rs:= [.tmp 4]) (own:= [0,1]) (outs:= [(0,22,dII (mkR (k) x.next)),(1,22,dII (mkR (k+(yF x.next:Nat)) x.choice))]) zO zN Tryz.func15 (by kernel_rfl) rfl rfl (by rw [Tryz.ntmps15];exact Nat.le_of_ble_eq_true rfl) rfl (by simp only [szA,List.mem_cons,List.not_mem_nil,or_false,forall_eq_or_imp,forall_eq,VT.cells,szL];try decide) ?_
 rw [Tryz.ntmps15]
 push_cast
 refine θA ?_
 have hA:=Yw x.next (k) (by omega) (by omega) ha.next.1
 refine zL fun K hK=> ?_
 refine qD 8 [0] [(0,22,dII (mkR (k) x.next))] zO zN [] rfl ?_
 push_cast
 refine⟨_,hA,?_⟩
 push_cast
 refine hK _ ?_
 clear hK K hA
 have hA:=Yw x.choice (k+(yF x.next:Nat)) (by omega) (by omega) ha.choice.1
 refine zL fun K hK=> ?_
 refine qD 12 [0] [(0,22,dII (mkR (k+(yF x.next:Nat)) x.choice))] zO zN [] rfl ?_
 push_cast
 refine⟨_,hA,?_⟩
 push_cast
 refine hK _ ?_
 clear hK K hA
 refine θA ?_
 refine zZ ⟨Or.inl rfl,?_⟩
 push_cast [Zg,wY,zo,yA]
 try(unfold Me.cnt;omega)
set_option maxHeartbeats 1000000 in
theorem zBC (x:Me)(k:Int)(h0:0≤k)(h1:k+x.cnt≤4611686018427387904)(ha:x.Ln 4611686018427387904):Fn Tryz.prog tyT 16 [.agg (dMe (zDS k x)), .c (.int .i64 k)] [.c (.int .i64 (k+x.cnt))]:=by
 have ht:x.cnt=yF x.next+yF x.choice:=by unfold Me.cnt; omega
 unfold dMe zDS
 refine θH (ts:= [4]) Tryz.func16 Tryz.ntmps16 ?_
 push_cast
 refine θA ?_
 have hA:=WR x.next (k) (by omega) (by omega) ha.next.1
 refine zL fun K hK=> ?_
 refine zM zO zN [] rfl ?_
 push_cast
 refine⟨_,hA,?_⟩
 push_cast
 repeat' apply And.intro
 all_goals try exact gB
 refine hK _ ?_
 clear hK K hA
 refine zL fun K0 hK0=> ?_
 refine θA ?_
 refine zT rfl (fun hc=>by simp only [decide_eq_true_eq]at hc;omega) (fun _=> ?_)
 refine zU (hK0 _ ?_)
 have hA:=WR x.choice (k+(yF x.next:Nat)) (by omega) (by omega) ha.choice.1
 refine zL fun K hK=> ?_
 refine zM zO zN [] rfl ?_
 push_cast
 refine⟨_,hA,?_⟩
 push_cast
 repeat' apply And.intro
 all_goals try exact gB
 refine hK _ ?_
 clear hK K hA
 refine zL fun K1 hK1=> ?_
 refine θA ?_
 refine zT rfl (fun hc=>by simp only [decide_eq_true_eq]at hc;omega) (fun _=> ?_)
 refine zU (hK1 _ ?_)
 refine θA ?_
 refine zZ ⟨Or.inl rfl,?_⟩
 push_cast [zd]
 try(unfold Me.cnt;omega)
def zL1 (a:Ar)(who:Int)(plan:List Int)(v:Nat):Bool:=decide (gi plan v= -1)||(decide (gi a.owner v=who)&&yI (gl a.next v) (gi plan v))
def planB (a:Ar)(who:Int)(plan:List Int):Bool:=decide (plan.length=a.owner.length)&&Za plan.length (zL1 a who plan)
def mrowB (a:Ar)(next choice:List Int)(k:Int):Bool:=decide (next.length=a.owner.length)&&(planB a 0 choice&&Za next.length (fun v=>decide (0≤gi next v∧gi next v<k)))
def memI (a:Ar)(m:Me):Bool:=decide (1≤m.next.length∧m.next.length≤24∧m.choice.length=m.next.length)&&Za m.next.length (fun s=>mrowB a (gl m.next s) (gl m.choice s) m.next.length)
theorem uA : ∀(N:Nat) (l:List Nat),l.Nodup→(∀x∈l,x<N)→l.length≤N
 |0,l,_,h=>by
  cases l with
  |nil=>simp
  |cons x l=>have :=h x List.mem_cons_self;omega
 |N+1,l,hn,h=>by
  have h1:=List.length_eq_countP_add_countP (p:=fun x=>x==N) (l:=l)
  have h2:l.countP (fun x=>x==N)≤1:=List.nodup_iff_count.1 hn N
  have h4:=uA N (l.filter (fun x=> !(x==N))) (hn.filter _) fun x hx=>by
   have h5:=List.mem_filter.1 hx
   have h6:=h x h5.1
   have h7: ¬x=N:=by simpa using h5.2
   omega
  have h3:(l.filter (fun x=> !(x==N))).length=l.countP (fun x=> !(x==N)):=(List.countP_eq_length_filter ..).symm
  have h8:l.countP (fun x=>decide ¬(x==N)=true)=l.countP (fun x=> !(x==N)):=by
   congr 1
   funext x
   by_cases e:x=N<;>simp [e]
  omega
theorem ZS {xs:List Int}{y:Int}{j:Nat}(h:j<xs.length+1):gi (xs++ [y]) j=if j=xs.length then y else gi xs j:=by
 by_cases e:j=xs.length
 ·subst e;rw [if_pos rfl,KR]
 ·rw [if_neg e,Zk (by omega)]
def goP (a:Ar)(even odd:List Int)(v:Int):Int:=if gi a.owner v.toNat=0 then gi even v.toNat else gi odd v.toNat
structure kb (a:Ar)(even odd:List Int)(v0:Int)(met:List Int)(v:Int):Prop where
 rg: ∀j,j<met.length→0≤gi met j∧gi met j<a.owner.length
 ne: ∀j,j<met.length→∀i,i<j→¬gi met i=gi met j
 go: ∀j,j+1<met.length→gi met (j+1)=goP a even odd (gi met j)
 last:1≤met.length→v=goP a even odd (gi met (met.length - 1))
 f0:met.length=0→v=v0
 f1:1≤met.length→gi met 0=v0
 hv:0≤v∧v<a.owner.length
theorem kb.start {a:Ar}{even odd:List Int}{v0:Int}(h:0≤v0∧v0<a.owner.length):kb a even odd v0 [] v0:=
 ⟨fun j hj=>by simp at hj,fun j hj=>by simp at hj,fun j hj=>by simp at hj,fun h=>by simp at h,fun _=>rfl,fun h=>by simp at h,h⟩
theorem kb.next {a:Ar}{even odd:List Int}{v0:Int}{met:List Int}{v:Int}(h:kb a even odd v0 met v)(hn:yI met v=false)(hg:0≤goP a even odd v∧goP a even odd v<a.owner.length):kb a even odd v0 (met++ [v]) (goP a even odd v):=by
 have hne: ∀i,i<met.length→¬gi met i=v:=fun i hi e=>by
  have h1:v∈met:=by rw [←e];exact List.mem_of_getElem? (qk hi)
  rw [←xe]at h1
  rw [h1]at hn
  cases hn
 have hl:(met++ [v]).length=met.length+1:=by simp
 refine⟨fun j hj=> ?_,fun j hj i hi=> ?_,fun j hj=> ?_,fun _=> ?_,fun e=>by rw [hl]at e;omega,fun _=> ?_,hg⟩
 ·rw [hl]at hj
  rw [ZS hj]
  split
  ·exact h.hv
  ·exact h.rg j (by omega)
 ·rw [hl]at hj
  rw [ZS hj,ZS (by omega),if_neg (by omega)]
  split
  ·exact hne i (by omega)
  ·exact h.ne j (by omega) i hi
 ·rw [hl]at hj
  rw [ZS (j:=j+1) (by omega),ZS (j:=j) (by omega),if_neg (show ¬j=met.length by omega)]
  split
  ·have h5:=h.last (by omega)
   rw [show met.length - 1=j from by omega]at h5
   exact h5
  ·exact h.go j (by omega)
 ·rw [hl,Nat.add_sub_cancel,ZS (j:=met.length) (by omega),if_pos rfl]
 ·rw [ZS (by omega)]
  split
  ·exact h.f0 (by omega)
  ·exact h.f1 (by omega)
theorem zBN {f:Nat→Nat}: ∀n,(∀i j,i<j→j<n→f i≠f j)→((List.range n).map f).Nodup
 |0,_=>by simp
 |n+1,h=>by
  rw [List.range_succ,List.map_append,List.nodup_append]
  refine⟨zBN n fun i j hij hj=>h i j hij (by omega),by simp,fun x hx y hy=> ?_⟩
  obtain⟨i,hi,rfl⟩:=List.mem_map.1 hx
  have hy2:y=f n:=by simpa using hy
  rw [hy2]
  exact h i n (List.mem_range.1 hi) (by omega)
theorem kb.le {a:Ar}{even odd:List Int}{v0:Int}{met:List Int}{v:Int}(h:kb a even odd v0 met v):met.length≤a.owner.length:=by
 have hl:((List.range met.length).map fun j=>(gi met j).toNat).length=met.length:=by simp
 rw [←hl]
 refine uA _ _ (zBN _ fun i j hij hj=> ?_) fun x hx=> ?_
 ·have h1:=h.ne j hj i hij
  have h2:=h.rg i (by omega)
  have h3:=h.rg j hj
  omega
 ·obtain⟨j,hj,rfl⟩:=List.mem_map.1 hx
  have :=h.rg j (List.mem_range.1 hj)
  omega
structure PlayP (a:Ar)(even odd:List Int)(v0:Int)(l:Ls):Prop where
 ok:zNT a l=true
 first:gi (Jl l) 0=v0
 rg: ∀i,i≤l.stem.length+l.loop.length→0≤gi (Jl l) i∧gi (Jl l) i<a.owner.length
 go: ∀i,i<l.stem.length+l.loop.length→gi (Jl l) (i+1)=goP a even odd (gi (Jl l) i)
 last:gi (Jl l) (l.stem.length+l.loop.length)=gi (Jl l) l.stem.length
 pos:1≤l.loop.length
 len:l.stem.length+l.loop.length≤a.owner.length
theorem zJl {path st:List Int}{n S:Nat}(hn:n≤256)(hS:S≤24)(h1: ∀j,j<path.length→(0≤gi path j∧gi path j<n)∧0≤gi st j∧gi st j<S)(h2: ∀j,j<path.length→∀i,i<j→¬(gi path i=gi path j∧gi st i=gi st j)):path.length≤6144:=by
 have hl:((List.range path.length).map fun j=>(gi path j).toNat+256*(gi st j).toNat).length=path.length:=by simp
 rw [←hl]
 refine uA 6144 _ ?_ fun x hx=> ?_
 ·refine List.pairwise_iff_getElem.2 fun i j hi hj hij=> ?_
  rw [hl]at hi hj
  simp only [List.getElem_map,List.getElem_range]
  have a1:=h1 i hi
  have a2:=h1 j hj
  have a3:=h2 j hj i hij
  intro e
  exact a3 (by omega)
 ·obtain⟨j,hj,rfl⟩:=List.mem_map.1 hx
  have a1:=h1 j (List.mem_range.1 hj)
  omega
structure uU (a:Ar)(m:Me)(path st:List Int)(v s:Int):Prop where
 len:st.length=path.length
 rg: ∀j,j<path.length→(0≤gi path j∧gi path j<a.owner.length)∧0≤gi st j∧gi st j<m.next.length
 ne: ∀j,j<path.length→∀i,i<j→¬(gi path i=gi path j∧gi st i=gi st j)
 hv:0≤v∧v<a.owner.length
 hs:0≤s∧s<m.next.length
theorem uU.next {a:Ar}{m:Me}{path st:List Int}{v s:Int}(h:uU a m path st v s)(hno: ∀j,j<path.length→¬(gi path j=v∧gi st j=s)){v' s':Int}(hv:0≤v'∧v'<a.owner.length)(hs:0≤s'∧s'<m.next.length):uU a m (path++ [v]) (st++ [s]) v' s':=by
 have hl:=h.len
 refine⟨by simp [hl],fun j hj=> ?_,fun j hj i hi=> ?_,hv,hs⟩
 ·rw [List.length_append]at hj
  have hj:j<path.length+1:=hj
  rw [ZS hj,ZS (by omega),hl]
  split
  ·exact⟨h.hv,h.hs⟩
  ·exact h.rg j (by omega)
 ·rw [List.length_append]at hj
  have hj:j<path.length+1:=hj
  have e1:gi (path++ [v]) i=gi path i:=Zk (by omega)
  have e2:gi (st++ [s]) i=gi st i:=Zk (by omega)
  rw [e1,e2]
  by_cases e:j=path.length
  ·subst e
   rw [KR]
   have e3:gi (st++ [s]) path.length=s:=by rw [←hl];exact KR
   rw [e3]
   exact hno i (by omega)
  ·have e3:gi (path++ [v]) j=gi path j:=Zk (by omega)
   have e4:gi (st++ [s]) j=gi st j:=Zk (by omega)
   rw [e3,e4]
   exact h.ne j (by omega) i hi
theorem uU.le {a:Ar}{m:Me}{path st:List Int}{v s:Int}(h:uU a m path st v s)(hn:a.owner.length≤256)(hS:m.next.length≤24):path.length≤6144:=zJl hn hS h.rg h.ne
structure Plc where
 at_:Int
 record:List Int
 deriving DecidableEq
def dPlc (x:Plc):List D:= [.int .i64 x.at_,DI x.record]
def Plc.tot (x:Plc):Nat:=x.record.length
structure Plc.Ln (B:Nat)(x:Plc):Prop where
 record:LnI B x.record
theorem Plc.ln_of {B:Nat}{x:Plc}(h:x.tot≤B):x.Ln B:=by
 unfold Plc.tot at h
 exact⟨XU (by omega)⟩
def xF (ps:List Plc):List D:=ps.flatMap dPlc
def gq (ps:List Plc)(k:Nat):Plc:=ps.getD k ⟨0,[]⟩
theorem wx (p:Plc)(ps:List Plc):xF (p::ps)= .int .i64 p.at_::DI p.record::xF ps:=rfl
theorem m2q (n:Nat):n*2 / 2=n:=by omega
theorem zDG (ps:List Plc):(xF ps).length=ps.length*2:=by
 induction ps with
 |nil=>rfl
 |cons p ps ih=>rw [wx,List.length_cons,List.length_cons,ih,List.length_cons];omega
theorem zIt (ps qs:List Plc):xF (ps++qs)=xF ps++xF qs:=List.flatMap_append ..
theorem zAz (ps:List Plc)(x:Int)(r:List Int):xF ps++ [D.int .i64 x,D.lst 2 (dI r)]=xF (ps++ [⟨x,r⟩]):=by rw [zIt];rfl
theorem zGh (ps:List Plc):(xF ps).take (ps.length*2)=xF ps:=List.take_of_length_le (by rw [zDG];exact Nat.le_refl _)
theorem zGI {ps:List Plc}{k:Nat}(h:k<ps.length):ps[k]? =some (gq ps k):=by
 unfold gq
 rw [List.getD_eq_getElem?_getD,List.getElem?_eq_getElem h]
 rfl
theorem zGH {ps:List Plc}{k:Nat}(h:ps.length≤k):gq ps k=⟨0,[]⟩:=by
 unfold gq
 rw [List.getD_eq_getElem?_getD,List.getElem?_eq_none h]
 rfl
theorem qH {ps:List Plc}{k:Nat}(h:k<ps.length):gq ps k∈ps:=List.mem_of_getElem? (zGI h)
theorem zD1 {ps:List Plc}{k:Nat}(h:k<ps.length):ps.take (k+1)=ps.take k++ [gq ps k]:=by rw [List.take_add_one,zGI h];rfl
theorem zCp (ps:List Plc)(k:Nat):(xF ps)[k*2]? =if k<ps.length then some (.int .i64 (gq ps k).at_)else none:=by
 induction ps generalizing k with
 |nil=>rfl
 |cons p ps ih=>
  cases k with
  |zero=>rfl
  |succ k=>
   rw [show(k+1)*2=k*2+1+1 from by omega,wx,List.getElem?_cons_succ,List.getElem?_cons_succ,ih,List.length_cons]
   simp only [gq,List.getD_cons_succ]
   split<;>split<;>first|rfl|omega
theorem JC (ps:List Plc)(k:Nat):(xF ps)[k*2+1]? =if k<ps.length then some (DI (gq ps k).record)else none:=by
 induction ps generalizing k with
 |nil=>rfl
 |cons p ps ih=>
  cases k with
  |zero=>rfl
  |succ k=>
   rw [show(k+1)*2+1=k*2+1+1+1 from by omega,wx,List.getElem?_cons_succ,List.getElem?_cons_succ,ih,List.length_cons]
   simp only [gq,List.getD_cons_succ]
   split<;>split<;>first|rfl|omega
theorem zHS (ps:List Plc)(k:Nat):Qk (xF ps) (k*2)=(gq ps k).at_:=by
 unfold Qk
 rw [zCp]
 by_cases h:k<ps.length
 ·rw [if_pos h]
 ·rw [if_neg h,zGH (by omega)]
theorem zHT (ps:List Plc)(k:Nat):xn (xF ps) (k*2+1)=dI (gq ps k).record:=by
 unfold xn
 rw [JC]
 by_cases h:k<ps.length
 ·rw [if_pos h]
 ·rw [if_neg h,zGH (by omega)];rfl
theorem zX {ps:List Plc}{k:Nat}(h:k<ps.length):vY (xF ps) (k*2+1)=2:=by
 unfold vY
 rw [JC,if_pos h]
theorem zFp (ps:List Plc)(k:Nat):qF (.int .i64) (xF ps) (k*2)=(k<ps.length):=by
 unfold qF
 rw [zCp]
 apply propext
 constructor
 ·rintro⟨n,h⟩;split at h;assumption;cases h
 ·intro h;rw [if_pos h];exact⟨_,rfl⟩
theorem zFq (ps:List Plc)(k:Nat):qF (.sl 2) (xF ps) (k*2+1)=(k<ps.length):=by
 unfold qF
 rw [JC]
 apply propext
 constructor
 ·rintro⟨n,h⟩;split at h;assumption;cases h
 ·intro h;rw [if_pos h];exact⟨_,rfl⟩
theorem zEb (ps:List Plc)(k:Nat):zn (xF ps) [k*2+1]=(k<ps.length):=by
 unfold zn
 rw [JC]
 apply propext
 constructor
 ·rintro⟨e,ys,h,-⟩;split at h;assumption;cases h
 ·intro h;rw [if_pos h];exact⟨_,_,rfl,trivial⟩
theorem zIJ (ps:List Plc)(k:Nat)(n:Int):(xF ps).set (k*2) (.int .i64 n)=xF (ps.set k ⟨n,(gq ps k).record⟩):=by
 induction ps generalizing k with
 |nil=>simp [xF]
 |cons p ps ih=>
  cases k with
  |zero=>rfl
  |succ k=>rw [show(k+1)*2=k*2+1+1 from by omega,wx,List.set_cons_succ,List.set_cons_succ,ih,List.set_cons_succ,wx];rfl
theorem zIK (ps:List Plc)(k:Nat)(r:List Int):(xF ps).set (k*2+1) (.lst 2 (dI r))=xF (ps.set k ⟨(gq ps k).at_,r⟩):=by
 induction ps generalizing k with
 |nil=>simp [xF]
 |cons p ps ih=>
  cases k with
  |zero=>rfl
  |succ k=>rw [show(k+1)*2+1=k*2+1+1+1 from by omega,wx,List.set_cons_succ,List.set_cons_succ,ih,List.set_cons_succ,wx];rfl
attribute [push_cast] m2q zDG zGh zAz zHS zHT zFp zFq zEb zIJ zIK
def QLn (B:Nat)(ps:List Plc):Prop:=ps.length≤B∧∀p∈ps,p.record.length≤B
theorem jR {B:Nat}{ps:List Plc}(h:QLn B ps)(k:Nat):(gq ps k).record.length≤B:=by
 rcases Nat.lt_or_ge k ps.length with hk|hk
 ·exact h.2 _ (qH hk)
 ·rw [zGH hk];exact Nat.zero_le _
end Go.Proofs.YtcleaokoimhedaaGreat
