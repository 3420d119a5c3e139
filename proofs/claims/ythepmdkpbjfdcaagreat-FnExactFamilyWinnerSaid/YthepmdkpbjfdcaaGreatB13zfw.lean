/- The program's solver: who wins what; walks -/
import Derived.Test.YthepmdkpbjfdcaaGreatB12zfw
import Derived.Test.YthepmdkpbjfdcaaGreatB9zfw
import Derived.Test.YthepmdkpbjfdcaaGreatB8zfw
import Derived.Test.YthepmdkpbjfdcaaGreatB6zfw
import Derived.Test.YthepmdkpbjfdcaaGreatB10zfw
namespace Go.Proofs.YthepmdkpbjfdcaaGreat
open Nat renaming reduceMod → zA, reduceMul → zB, reduceDiv → zC, reduceAdd → zD, reduceSub → zE, reduceEqDiff → zF, reduceBEq → zG, reduceLT → zH, reduceLeDiff → zI
open Go.RowKit
set_option linter.unusedVariables false
set_option linter.unusedSimpArgs false
theorem zFP (x:L7): ∀(f:Nat) (inn:List Bool),x.Ok inn.length→(∀(v:Nat) (u:Int),v<inn.length→edB x v u=true)→yk inn inn.length<f→va (pgL x) (inD inn.length inn)→(∃v,v<inn.length∧gb inn v=true)→
  FnB Tryz.prog tyT 161 (dSv x) [.c (.lst 4 (dB inn))] (dSv x) [.c (.lst 4 (dB (wiM x inn.length inn (Int.tmod (yK x inn inn.length) 2)))), .c (.int .i64 (Int.tmod (yK x inn inn.length) 2))]
 |0,inn,_,_,h,_,_=>absurd h (Nat.not_lt_zero _)
 |f+1,inn,hx,hed,hc,hl,hne=>zGr x inn hx hed hl hne _ _ rfl rfl fun r hr hlt hlv hre=>by
  have :=zFP x f r (by rw [hr];exact hx) (by rw [hr];exact hed) (by rw [hr];omega) (by rw [hr];exact hlv) (by rw [hr];exact hre)
  rw [hr]at this
  exact this
section
variable {g:Pa}
noncomputable def wiG (g:Pa)(M:List Bool)(who:Int):List Bool:=wiM (l7G g (noP g.a.owner.length)) g.a.owner.length M who
theorem ku (g:Pa)(M:List Bool)(who:Int):(wiG g M who).length=g.a.owner.length:=Qx _ _ _ _
theorem zGo {M:List Bool}(hM:M.length=g.a.owner.length){who:Int}(hw:who=0∨who=1):yJ M (wiG g M who)=wiG g M (1 - who):=by
 refine wY (by rw [xf,ku];exact hM) fun v hv=> ?_
 rw [xf,hM]at hv
 rw [qS (by omega)]
 unfold wiG wiM
 rw [yS hv,yS hv]
 unfold wiB
 rcases hw with rfl|rfl<;>cases gb M v<;>cases gb (yU (l7G g (noP g.a.owner.length)) g.a.owner.length (g.a.owner.length+1) M) v<;>rfl
theorem zHZ {n:Nat}(hn:g.a.owner.length=n)(v:Nat)(u:Int)(hv:v<n):edB (l7G g (noP g.a.owner.length)) v u=true:=zEL (by omega) u
def Vd (n:Nat)(xs:List Int)(k:Nat):List Int:=(List.range n).map fun(v:Nat)=>if yD (xs.take k) (v:Int)=true then 1 else 0
theorem vh (n:Nat)(xs:List Int)(k:Nat):(Vd n xs k).length=n:=by simp [Vd]
theorem JX {n:Nat}{xs:List Int}{k v:Nat}(h:v<n):gi (Vd n xs k) v=if yD (xs.take k) (v:Int)=true then 1 else 0:=by
 unfold gi Vd
 rw [List.getD_eq_getElem?_getD,List.getElem?_map,List.getElem?_range h]
 rfl
theorem kS {a b:List Int}(hl:a.length=b.length)(h: ∀v,v<a.length→gi a v=gi b v):a=b:=by
 refine List.ext_getElem? fun i=> ?_
 by_cases hi:i<a.length
 ·rw [vC hi,vC (by omega),h i hi]
 ·rw [List.getElem?_eq_none (by omega),List.getElem?_eq_none (by omega)]
theorem zJa (n:Nat)(xs:List Int):Vd n xs 0=List.replicate n 0:=by
 refine kS (by rw [vh];simp) fun v hv=> ?_
 rw [vh]at hv
 rw [JX hv,jT hv]
 rfl
theorem zGJ {n:Nat}{xs:List Int}{k:Nat}(hk:k<xs.length)(h:0≤gi xs k∧gi xs k<n):(Vd n xs k).set (gi xs k).toNat 1=Vd n xs (k+1):=by
 refine kS (by rw [List.length_set,vh,vh]) fun v hv=> ?_
 rw [List.length_set,vh]at hv
 rw [qN (by rw [vh];omega),JX (k:=k+1) hv,ZP hk]
 split
 ·rename_i e
  rw [decide_eq_true (by omega),Bool.or_true,if_pos rfl]
 ·rename_i e
  rw [JX hv,decide_eq_false (by omega),Bool.or_false]
theorem zHp (n:Nat):mkS n (ZE n) n=qp n:=by
 refine wY (by rw [vq,VF]) fun v hv=> ?_
 rw [vq]at hv
 rw [zA6 hv,Qb hv,vV]
 exact⟨v,by rw [List.length_take,XS];omega,by rw [wZ hv];unfold gi ZE;rw [List.getD_eq_getElem?_getD,List.getElem?_map,List.getElem?_range hv];rfl⟩
theorem zHo {n v:Nat}(h:v<n):gi (ZE n) v=v:=by unfold gi ZE;rw [List.getD_eq_getElem?_getD,List.getElem?_map,List.getElem?_range h];rfl
theorem zJ7 (g:Pa):Vd g.a.owner.length (yd (wiG g (qp g.a.owner.length) 1) g.a.owner.length) (yd (wiG g (qp g.a.owner.length) 1) g.a.owner.length).length=QU g:=by
 refine kS (by rw [vh,XZ]) fun v hv=> ?_
 rw [vh]at hv
 rw [JX hv,zIX hv,List.take_length]
 have e:yD (yd (wiG g (qp g.a.owner.length) 1) g.a.owner.length) (v:Int)= !gb (JB g) v:=by
  rw [Bool.eq_iff_iff,xD,wI]
  unfold wiG wiM JB
  constructor
  ·rintro⟨u,hu,h1,h2⟩
   have :u=v:=by omega
   subst this
   rw [yS hu]at h1
   unfold wiB at h1
   rw [Qb hu]at h1
   cases hb:gb (yU (l7G g (noP g.a.owner.length)) g.a.owner.length (g.a.owner.length+1) (qp g.a.owner.length)) u
   ·rfl
   ·rw [hb]at h1;cases h1
  ·intro h1
   refine⟨v,hv,?_,rfl⟩
   rw [yS hv]
   unfold wiB
   rw [Qb hv]
   cases hb:gb (yU (l7G g (noP g.a.owner.length)) g.a.owner.length (g.a.owner.length+1) (qp g.a.owner.length)) v
   ·rfl
   ·rw [hb]at h1;cases h1
 rw [e]
 cases gb (JB g) v<;>rfl
theorem zGF (h:qw g=true):va (pgL (l7G g (noP g.a.owner.length))) (inD g.a.owner.length (qp g.a.owner.length)):=fun v hv=>by
 obtain⟨ha,hpl,hpr⟩:=xu h
 have h1:=(xZ ha hv.1).2.2
 have h2:=Zz h1.2.2 (j:=0) (by omega)
 rw [zJe]
 exact⟨(gi (gl g.a.next v) 0).toNat,⟨hv.1,0,by omega,rfl⟩,⟨by omega,Qb (by omega)⟩⟩
end
set_option maxRecDepth 20000 in
set_option maxHeartbeats 8000000 in
theorem zGq (g:Pa)(hg:g.Ln 1048576)(hok:qw g=true)(xs:List Int)(hx:xs.length≤1048576)(hr: ∀j,j<xs.length→0≤gi xs j∧gi xs j<g.a.owner.length)(M:List Bool)(hM:mkS g.a.owner.length xs xs.length=M)(hlv:va (pgL (l7G g (noP g.a.owner.length))) (inD g.a.owner.length M))(hne: ∃v,v<g.a.owner.length∧gb M v=true):Fn Tryz.prog tyT 115 [.agg (dPa g), .c (DI xs)] [.c (DI (yd (wiG g M 0) g.a.owner.length)), .c (DI (yd (wiG g M 1) g.a.owner.length))]:=by
 obtain⟨hao,hpl,hpr⟩:=xu hok
 have hal:=yr hao
 have hMl:M.length=g.a.owner.length:=by rw [←hM];exact vq _ _ _
 have hPr:=zDi g.a hao
 have hMk:=zEr g.a hg.a xs hx hr
 rw [hM]at hMk
 have hxk:=zEk hok (kf g.a.owner.length)
 have hWo:=zFP (l7G g (noP g.a.owner.length)) (g.a.owner.length+1) M (by rw [hMl];exact hxk) (fun v u hv=>zHZ rfl v u (by omega)) (by rw [hMl];exact Nat.lt_succ_of_le (VM _ _)) (by rw [hMl];exact hlv) (by rw [hMl];exact hne)
 rw [hMl]at hWo
 obtain⟨who,hwh⟩: ∃w,Int.tmod (yK (l7G g (noP g.a.owner.length)) M g.a.owner.length) 2=w:=⟨_,rfl⟩
 have hw2:who=0∨who=1:=by
  obtain⟨v9,hv9,hb9⟩:=hne
  have h1:=YA (x:=(l7G g (noP g.a.owner.length))) (inn:=M) g.a.owner.length v9 hv9 hb9
  have h2:=hxk.pr v9 hv9
  rw [←hwh,Xy (by omega)]
  omega
 rw [hwh]at hWo
 rw [show wiM (l7G g (noP g.a.owner.length)) g.a.owner.length M who=wiG g M who from rfl]at hWo
 have hls:=zGo (g:=g) hMl hw2
 have hwl:=ku g M who
 have hwl2:=ku g M (1 - who)
 have hWt:=wg M (wiG g M who) (by omega) (by omega)
 rw [hls]at hWt
 have hL1:=YT (wiG g M who) (by omega)
 have hL2:=YT (wiG g M (1 - who)) (by omega)
 rw [hwl]at hL1
 rw [hwl2]at hL2
 clear hne hlv hxk hwh
 have hi1:=wH (wiG g M who) g.a.owner.length
 have hi2:=wH (wiG g M (1 - who)) g.a.owner.length
 unfold dSv l7G at hWo
 dsimp only at hWo
 unfold dAr at hPr hMk
 unfold dPa
 refine zr (fn:=Tryz.f115) (ts:= [4,5]) Tryz.func115 (by kernel_rfl) rfl rfl (by rw [Tryz.ntmps115];exact Nat.le_of_ble_eq_true rfl) rfl (by simp only [szA,List.mem_cons,List.not_mem_nil,or_false,forall_eq_or_imp,forall_eq,VT.cells,szL];try decide) ?_
 rw [Tryz.ntmps115]
 push_cast
 refine zL fun K hK=> ?_
 refine zM zO zN [] rfl ?_
 push_cast
 repeat' apply And.intro
 all_goals try exact gB
 refine hK _ ?_;clear hK K
 refine zL fun K hK=> ?_
 refine yo true zO zN xj ?_ rfl ?_
 ·kernel_rfl
 intro E hE
 all_goals refine xR 4 (by decide) fun K9 hK9=> ?_
 all_goals push_cast
 all_goals repeat'(first|(apply zP<;>(intro hg;push_cast at hg))|(refine⟨_,hPr,?_⟩;push_cast)|apply And.intro|(intro hg;push_cast at hg))
 all_goals try exact gA
 refine hK9 _ _ ?_;clear hK9 K9
 all_goals push_cast
 all_goals repeat'(first|(apply zP<;>(intro hg;push_cast at hg))|(refine⟨_,hPr,?_⟩;push_cast)|apply And.intro|(intro hg;push_cast at hg))
 all_goals first|exact gA|(refine hE _ _ ?_ ?_;kernel_rfl)|skip
 all_goals clear hE E
 refine hK _ ?_;clear hK K
 refine WM [240,241,242] [.sl 2, .sl 22, .sl 2, .sl 22] 15 ?_
 push_cast
 refine zL fun K hK=> ?_
 refine zM zO zN [] rfl ?_
 all_goals refine zl 4 fun K9 hK9=> ?_
 all_goals push_cast
 all_goals repeat'(first|(apply zP<;>(intro hg;push_cast at hg))|(refine⟨_,hMk,?_⟩;push_cast)|apply And.intro|(intro hg;push_cast at hg))
 all_goals try exact gA
 refine hK9 _ ?_;clear hK9 K9
 all_goals push_cast
 all_goals repeat'(first|(apply zP<;>(intro hg;push_cast at hg))|(refine⟨_,hMk,?_⟩;push_cast)|apply And.intro|(intro hg;push_cast at hg))
 all_goals try exact gA
 refine hK _ ?_;clear hK K
 refine zL fun K hK=> ?_
 refine zj false zO zN ?_ rfl ?_
 ·kernel_rfl
 all_goals refine yF 3 fun K9 hK9=> ?_
 all_goals push_cast
 all_goals repeat'(first|(apply zP<;>(intro hg;push_cast at hg))|(refine⟨_,_,hWo,?_⟩;push_cast)|apply And.intro|(intro hg;push_cast at hg))
 all_goals try exact gA
 refine hK9 _ ?_;clear hK9 K9
 all_goals push_cast
 all_goals repeat'(first|(apply zP<;>(intro hg;push_cast at hg))|(refine⟨_,_,hWo,?_⟩;push_cast)|apply And.intro|(intro hg;push_cast at hg))
 all_goals try exact gA
 refine hK _ ?_;clear hK K
 refine zL fun K1 hK1=> ?_
 refine vA 4 8 (Nat.le_of_ble_eq_true rfl) ?_
 push_cast
 refine zL fun K hK=> ?_
 refine zM zO zN [] rfl ?_
 push_cast
 repeat' apply And.intro
 all_goals try exact gB
 refine hK _ ?_;clear hK K
 refine zT rfl (fun hc=> ?_) (fun hc=> ?_)<;>(try simp only [push_cast]at hc)
 ·
  have hw0:who=0:=by simpa using hc
  subst hw0
  try rw [show(1:Int) - 0=1 from rfl]at*
  refine zL fun K hK=> ?_
  refine zM zO zN [] rfl ?_
  all_goals refine zl 2 fun K9 hK9=> ?_
  all_goals push_cast
  all_goals repeat'(first|(apply zP<;>(intro hg;push_cast at hg))|(refine⟨_,hL1,?_⟩;push_cast)|(refine⟨_,hL2,?_⟩;push_cast)|apply And.intro|(intro hg;push_cast at hg))
  all_goals try exact gA
  refine hK9 _ ?_;clear hK9 K9
  all_goals refine zl 3 fun K9 hK9=> ?_
  all_goals push_cast
  all_goals repeat'(first|(apply zP<;>(intro hg;push_cast at hg))|(refine⟨_,hWt,?_⟩;push_cast)|apply And.intro|(intro hg;push_cast at hg))
  all_goals try exact gA
  refine hK9 _ ?_;clear hK9 K9
  all_goals refine zl 1 fun K9 hK9=> ?_
  all_goals push_cast
  all_goals repeat'(first|(apply zP<;>(intro hg;push_cast at hg))|(refine⟨_,hL1,?_⟩;push_cast)|(refine⟨_,hL2,?_⟩;push_cast)|apply And.intro|(intro hg;push_cast at hg))
  all_goals try exact gA
  refine hK9 _ ?_;clear hK9 K9
  all_goals push_cast
  all_goals repeat'(first|(apply zP<;>(intro hg;push_cast at hg))|(refine⟨_,hWt,?_⟩;push_cast)|(refine⟨_,hL1,?_⟩;push_cast)|(refine⟨_,hL2,?_⟩;push_cast)|apply And.intro|(intro hg;push_cast at hg))
  all_goals try exact gA
  refine hK _ ?_;clear hK K
  refine zW ?_
  refine⟨Or.inl rfl,?_⟩
  push_cast [za]
  all_goals first|rfl|(simp;done)|skip
 ·
  refine zU ?_
  refine hK1 _ ?_
  have hw1:who=1:=by
   have hc9: ¬who=0:=by simpa using hc
   omega
  subst hw1
  refine zL fun K hK=> ?_
  refine zM zO zN [] rfl ?_
  all_goals refine zl 3 fun K9 hK9=> ?_
  all_goals push_cast
  all_goals repeat'(first|(apply zP<;>(intro hg;push_cast at hg))|(refine⟨_,hWt,?_⟩;push_cast)|apply And.intro|(intro hg;push_cast at hg))
  all_goals try exact gA
  refine hK9 _ ?_;clear hK9 K9
  all_goals refine zl 1 fun K9 hK9=> ?_
  all_goals push_cast
  all_goals repeat'(first|(apply zP<;>(intro hg;push_cast at hg))|(refine⟨_,hL1,?_⟩;push_cast)|(refine⟨_,hL2,?_⟩;push_cast)|apply And.intro|(intro hg;push_cast at hg))
  all_goals try exact gA
  refine hK9 _ ?_;clear hK9 K9
  all_goals refine zl 2 fun K9 hK9=> ?_
  all_goals push_cast
  all_goals repeat'(first|(apply zP<;>(intro hg;push_cast at hg))|(refine⟨_,hL1,?_⟩;push_cast)|(refine⟨_,hL2,?_⟩;push_cast)|apply And.intro|(intro hg;push_cast at hg))
  all_goals try exact gA
  refine hK9 _ ?_;clear hK9 K9
  all_goals push_cast
  all_goals repeat'(first|(apply zP<;>(intro hg;push_cast at hg))|(refine⟨_,hWt,?_⟩;push_cast)|(refine⟨_,hL1,?_⟩;push_cast)|(refine⟨_,hL2,?_⟩;push_cast)|apply And.intro|(intro hg;push_cast at hg))
  all_goals try exact gA
  refine hK _ ?_;clear hK K
  refine zW ?_
  refine⟨Or.inl rfl,?_⟩
  push_cast [za]
  all_goals first|rfl|(simp;done)|skip
set_option maxRecDepth 20000 in
set_option maxHeartbeats 4000000 in
theorem zDq (g:Pa)(hg:g.Ln 1048576)(hok:qw g=true):Fn Tryz.prog tyT 54 [.agg (dPa g)] [.c (DI (QU g))]:=by
 obtain⟨hao,hpl,hpr⟩:=xu hok
 have hal:=yr hao
 have hAl:=zFc g.a hal.2.1
 have hil:=XS g.a.owner.length
 have hWi:=zGq g hg hok (ZE g.a.owner.length) (by omega) (fun j hj=>by rw [zHo (by omega)];omega) (qp g.a.owner.length) (by rw [hil];exact zHp _) (zGF hok) ⟨0,by omega,Qb (by omega)⟩
 have hev:=wH (wiG g (qp g.a.owner.length) 0) g.a.owner.length
 have hodl:=wH (wiG g (qp g.a.owner.length) 1) g.a.owner.length
 have hogi:=fun(i:Nat) h=>Yz (l:=wiG g (qp g.a.owner.length) 1) (k:=g.a.owner.length) (i:=i) h
 have hfin:=zJ7 g
 generalize yd (wiG g (qp g.a.owner.length) 0) g.a.owner.length=evs at hWi hev
 generalize yd (wiG g (qp g.a.owner.length) 1) g.a.owner.length=ods at hWi hodl hogi hfin
 unfold dPa at hWi⊢
 unfold dAr at hAl
 refine zr (fn:=Tryz.f54) (ts:= [2]) Tryz.func54 (by kernel_rfl) rfl rfl (by rw [Tryz.ntmps54];exact Nat.le_of_ble_eq_true rfl) rfl (by simp only [szA,List.mem_cons,List.not_mem_nil,or_false,forall_eq_or_imp,forall_eq,VT.cells,szL];try decide) ?_
 rw [Tryz.ntmps54]
 push_cast
 refine zL fun K hK=> ?_
 refine zM zO zN [] rfl ?_
 push_cast
 repeat' apply And.intro
 all_goals try exact gB
 refine hK _ ?_;clear hK K
 refine zL fun K hK=> ?_
 refine zM zO zN [] rfl ?_
 push_cast
 repeat' apply And.intro
 all_goals try exact gB
 refine hK _ ?_;clear hK K
 refine zL fun K hK=> ?_
 refine yo false zO zN xj ?_ rfl ?_
 ·kernel_rfl
 intro E hE
 all_goals refine xR 4 (by decide) fun K9 hK9=> ?_
 all_goals push_cast
 all_goals repeat'(first|(apply zP<;>(intro hg;push_cast at hg))|(refine⟨_,hAl,?_⟩;push_cast)|apply And.intro|(intro hg;push_cast at hg))
 all_goals try exact gA
 refine hK9 _ _ ?_;clear hK9 K9
 all_goals refine xR 1 (by decide) fun K9 hK9=> ?_
 all_goals push_cast
 all_goals repeat'(first|(apply zP<;>(intro hg;push_cast at hg))|(refine⟨_,hWi,?_⟩;push_cast)|apply And.intro|(intro hg;push_cast at hg))
 all_goals try exact gA
 refine hK9 _ _ ?_;clear hK9 K9
 all_goals push_cast
 all_goals repeat'(first|(apply zP<;>(intro hg;push_cast at hg))|(refine⟨_,hAl,?_⟩;push_cast)|(refine⟨_,hWi,?_⟩;push_cast)|apply And.intro|(intro hg;push_cast at hg))
 all_goals first|exact gA|(refine hE _ _ ?_ ?_;kernel_rfl)|skip
 all_goals clear hE E
 refine hK _ ?_;clear hK K
 refine zL fun K1 hK1=> ?_
 refine zL fun K hK=> ?_
 refine zM zO zN [] rfl ?_
 push_cast
 repeat' apply And.intro
 all_goals try exact gB
 refine hK _ ?_;clear hK K
 refine zV ?_
 refine zh [7,22,23,24,25,26,27,28,29] [48] (fun(k:Nat)=> [(22, .int .i64 k),(3, .sl 48 [] 0 g.prio.length 2)]) (fun k=> []) (fun k=> [(48,⟨.ex,2,dI (Vd g.a.owner.length ods k),none⟩)]) (fun k=>k≤ods.length) (fun k=>ods.length - k) 0 ?_ (by omega) ?_
 ·
  rw [zJa]
  (try rw [hpl])
  refine zX rfl ?_ ?_ ?_<;>push_cast [zg,zf]
 ·rintro k hk KL0 hL0
  have hml:=vh g.a.owner.length ods k
  push_cast
  refine zL fun K hK=> ?_
  refine zM zO zN [] rfl ?_
  push_cast
  repeat' apply And.intro
  all_goals try exact gB
  refine hK _ ?_;clear hK K
  refine zL fun K2 hK2=> ?_
  refine zT rfl (fun hc=> ?_) (fun hc=> ?_)<;>(try simp only [push_cast]at hc)
  ·
   refine zU ?_
   refine hK2 _ ?_
   refine zL fun K3 hK3=> ?_
   refine zV ?_
   have ho:=hogi k (by omega)
   have hst:=zGJ (n:=g.a.owner.length) (xs:=ods) (k:=k) (by omega) (by omega)
   refine zL fun K hK=> ?_
   refine zM zO zN [] rfl ?_
   push_cast
   repeat' apply And.intro
   all_goals try exact gB
   refine hK _ ?_;clear hK K
   refine zM zO zN [] rfl ?_
   push_cast
   repeat' apply And.intro
   all_goals try exact gB
   refine hK3 _ ?_
   refine zM zO zN [] rfl ?_
   push_cast
   repeat' apply And.intro
   all_goals try exact gB
   refine hL0 _ ⟨k+1,by omega,by omega,?_⟩
   (try rw [hst])
   refine zX rfl ?_ ?_ ?_<;>push_cast [zg,zf]
   all_goals first|rfl|(rw [hst];done)|skip
  ·
   refine zi ?_
   have hkk:k=ods.length:=by omega
   subst hkk
   refine hK1 _ ?_
   refine zL fun K hK=> ?_
   refine zM zO zN [] rfl ?_
   push_cast
   repeat' apply And.intro
   all_goals try exact gB
   refine hK _ ?_;clear hK K
   refine zW ?_
   refine⟨Or.inl rfl,?_⟩
   push_cast [za]
   (try rw [hfin])
   all_goals first|rfl|(rw [hfin];done)|exact⟨rfl,by rw [hpl,XZ]⟩|(simp [XZ,hpl];done)|skip
set_option maxRecDepth 20000 in
set_option maxHeartbeats 8000000 in
theorem zDW (x:L7)(inn:List Bool)(hx:x.Ok inn.length)(top who:Int)(hT:yK x inn inn.length=top)(hW: ∀_:Unit,0≤top→Int.tmod top 2=who∧0≤who∧who≤1)(goal att rest low lost away rest2 again res:List Bool)(hG:yY inn.length (xF x inn top)=goal)(hA:yX x inn.length inn who goal=att)(hR:yJ inn att=rest)(hLo: ∀_:Unit,low.length=inn.length)(hL:yY inn.length (yP rest low who)=lost)(hA2:yX x inn.length inn (1 - who) lost=away)(hR2:yJ inn away=rest2)(hLa: ∀_:Unit,again.length=inn.length)(hF1: ∀_:Unit,0≤top→Fn Tryz.prog tyT 106 [.agg (dL7 x), .c (.lst 4 (dB rest))] [.c (.lst 4 (dB low))])(hF2: ∀_:Unit,0≤top→vS lost inn.length=true→Fn Tryz.prog tyT 106 [.agg (dL7 x), .c (.lst 4 (dB rest2))] [.c (.lst 4 (dB again))])(hres: ∀_:Unit,(top<0→res=List.replicate inn.length false)∧(0≤top→vS lost inn.length=false→res=yY inn.length (wm inn who))∧(0≤top→vS lost inn.length=true→res=yY inn.length (vl again away who))):Fn Tryz.prog tyT 106 [.agg (dL7 x), .c (.lst 4 (dB inn))] [.c (.lst 4 (dB res))]:=by
 have hn1:=hx.hn
 have hn3:=hx.hp
 have hgl:goal.length=inn.length:=by rw [←hG];exact qj _ _
 have hal:att.length=inn.length:=by rw [←hA];exact wC _ _ _ _ _
 have hrl:rest.length=inn.length:=by rw [←hR];simp [yJ]
 have hll:lost.length=inn.length:=by rw [←hL];exact qj _ _
 have hwl:away.length=inn.length:=by rw [←hA2];exact wC _ _ _ _ _
 have hsl:rest2.length=inn.length:=by rw [←hR2];simp [yJ]
 have hTp:=zF7 x inn.length hx inn rfl
 rw [hT]at hTp
 have hAt:=We x inn hx who goal hgl
 rw [hA,←List.take_of_length_le (l:=goal) (i:=inn.length) (by omega)]at hAt
 have hLs:=uk inn att hn1 hal
 rw [hR]at hLs
 have hAu:=We x inn hx (1 - who) lost hll
 rw [hA2,←List.take_of_length_le (l:=lost) (i:=inn.length) (by omega)]at hAu
 have hLu:=uk inn away hn1 hwl
 rw [hR2]at hLu
 unfold dL7 at hTp hAt hAu hF1 hF2⊢
 have htr:=Je hx inn inn.length (by omega)
 rw [hT]at htr
 clear hT
 replace hrl: ∀_:Unit,rest.length=inn.length:=fun _=>hrl
 replace hwl: ∀_:Unit,away.length=inn.length:=fun _=>hwl
 clear hgl hal hll hsl
 refine zr (fn:=Tryz.f106) (ts:= [4]) Tryz.func106 (by kernel_rfl) rfl rfl (by rw [Tryz.ntmps106];exact Nat.le_of_ble_eq_true rfl) rfl (by simp only [szA,List.mem_cons,List.not_mem_nil,or_false,forall_eq_or_imp,forall_eq,VT.cells,szL];try decide) ?_
 rw [Tryz.ntmps106]
 push_cast [↓zK,↓zJ]
 refine zL fun K hK=> ?_
 refine zM zO zN [] rfl ?_
 push_cast [↓zK,↓zJ]
 repeat' apply And.intro
 all_goals try exact gB
 all_goals(refine hK _ ?_;clear hK K)
 refine zL fun K hK=> ?_
 refine zM zO zN [] rfl ?_
 all_goals refine zl 3 fun K9 hK9=> ?_
 all_goals push_cast [↓zK,↓zJ]
 all_goals repeat'(first|(apply zP<;>(intro hg;(try simp only [push_cast]at hg)))|(refine⟨_,hTp,?_⟩;push_cast [↓zK,↓zJ])|apply And.intro|(intro hg;(try simp only [push_cast]at hg)))
 all_goals try exact gA
 all_goals(refine hK9 _ ?_;clear hK9 K9)
 all_goals push_cast [↓zK,↓zJ]
 all_goals repeat'(first|(apply zP<;>(intro hg;(try simp only [push_cast]at hg)))|(refine⟨_,hTp,?_⟩;push_cast [↓zK,↓zJ])|apply And.intro|(intro hg;(try simp only [push_cast]at hg)))
 all_goals try exact gA
 all_goals(refine hK _ ?_;clear hK K)
 refine zL fun K hK=> ?_
 refine zM zO zN [] rfl ?_
 push_cast [↓zK,↓zJ]
 repeat' apply And.intro
 all_goals try exact gB
 all_goals(refine hK _ ?_;clear hK K)
 refine zL fun K1 hK1=> ?_
 refine zL fun K hK=> ?_
 refine zM zO zN [] rfl ?_
 push_cast [↓zK,↓zJ]
 repeat' apply And.intro
 all_goals try exact gB
 all_goals(refine hK _ ?_;clear hK K)
 refine zT rfl (fun hc=> ?_) (fun hc=> ?_)<;>(try simp only [push_cast]at hc)
 ·
  have hr9:=(hres ()).1 (by omega)
  subst hr9
  refine zL fun K hK=> ?_
  refine zM zO zN [] rfl ?_
  push_cast [↓zK,↓zJ]
  repeat' apply And.intro
  all_goals try exact gB
  all_goals(refine hK _ ?_;clear hK K)
  refine zW ?_
  refine⟨Or.inl rfl,?_⟩
  push_cast [za,↓zK,↓zJ]
  all_goals first|rfl|exact⟨rfl,by simp⟩|(simp;done)
 ·
  refine zU ?_
  refine hK1 _ ?_
  refine zL fun K hK=> ?_
  refine zM zO zN [] rfl ?_
  push_cast [↓zK,↓zJ]
  repeat' apply And.intro
  all_goals try exact gB
  all_goals(refine hK _ ?_;clear hK K)
  rw [(hW () (by omega)).1]
  have hwr:=(hW () (by omega)).2
  refine zL fun K hK=> ?_
  refine zM zO zN [] rfl ?_
  push_cast [↓zK,↓zJ]
  repeat' apply And.intro
  all_goals try exact gB
  all_goals(refine hK _ ?_;clear hK K)
  refine zL fun K2 hK2=> ?_
  refine zL fun K hK=> ?_
  refine zM zO zN [] rfl ?_
  push_cast [↓zK,↓zJ]
  repeat' apply And.intro
  all_goals try exact gB
  all_goals(refine hK _ ?_;clear hK K)
  refine zV ?_
  refine zh [9,33,34,35,36,37,38,39,40,41,42,43,44,45,46,47,48,49,50,51,52,53,54] [128] (fun(k:Nat)=> [(9, .int .i64 k),(8, .sl 128 [] 0 inn.length 4)]) (fun k=> []) (fun k=> [(128,⟨.ex,4,dB (mkB inn.length (xF x inn top) k),none⟩)]) (fun k=>k≤inn.length) (fun k=>inn.length - k) 0 ?_ (Nat.zero_le _) ?_
  ·
   rw [Xp]
   refine zX rfl ?_ ?_ ?_<;>push_cast [zg,zf,↓zK,↓zJ]
  ·rintro k hk KL0 hL0
   have hml:=wa (f:=xF x inn top) hk
   push_cast [↓zK,↓zJ]
   refine zL fun K3 hK3=> ?_
   refine zL fun K hK=> ?_
   refine zM zO zN [] rfl ?_
   push_cast [↓zK,↓zJ]
   repeat' apply And.intro
   all_goals try exact gB
   all_goals(refine hK _ ?_;clear hK K)
   refine zT rfl (fun hc=> ?_) (fun hc=> ?_)<;>(try simp only [push_cast]at hc)
   ·
    refine zU ?_
    refine hK3 _ ?_
    refine zL fun K4 hK4=> ?_
    refine zV ?_
    refine zj false zO zN ?_ rfl ?_
    ·kernel_rfl
    all_goals push_cast [↓zK,↓zJ]
    all_goals repeat'(first|(apply zP<;>(intro hg;(try simp only [push_cast]at hg)))|apply And.intro|(intro hg;(try simp only [push_cast]at hg)))
    all_goals try exact gA
    all_goals(
      refine hK4 _ ?_
      refine zM zO zN [] rfl ?_
      push_cast [↓zK,↓zJ]
      repeat' apply And.intro
      all_goals try exact gB
      refine hL0 _ ⟨k+1,(show k+1≤inn.length by omega),(show inn.length - (k+1)<inn.length - k by omega),?_⟩
      first|rw [zAp (k:=k) (n:=inn.length) (inn:=inn) (by omega) (by with_reducible assumption)]|rw [zCd (k:=k) (n:=inn.length) (inn:=inn) (by omega) (by with_reducible assumption)]
      refine zX rfl ?_ ?_ ?_<;>push_cast [zg,zf,↓zK,↓zJ])
   ·
    refine zi ?_
    have hkk:k=inn.length:=by omega
    subst hkk
    rw [Qp]
    rw [hG]
    refine hK2 _ ?_
    refine zL fun K hK=> ?_
    refine zM zO zN [] rfl ?_
    all_goals refine zl 6 fun K9 hK9=> ?_
    all_goals push_cast [↓zK,↓zJ]
    all_goals repeat'(first|(apply zP<;>(intro hg;(try simp only [push_cast]at hg)))|(refine⟨_,hAt,?_⟩;push_cast [↓zK,↓zJ])|apply And.intro|(intro hg;(try simp only [push_cast]at hg)))
    all_goals try exact gA
    all_goals(refine hK9 _ ?_;clear hK9 K9)
    all_goals refine zl 1 fun K9 hK9=> ?_
    all_goals push_cast [↓zK,↓zJ]
    all_goals repeat'(first|(apply zP<;>(intro hg;(try simp only [push_cast]at hg)))|(refine⟨_,hLs,?_⟩;push_cast [↓zK,↓zJ])|apply And.intro|(intro hg;(try simp only [push_cast]at hg)))
    all_goals try exact gA
    all_goals(refine hK9 _ ?_;clear hK9 K9)
    all_goals push_cast [↓zK,↓zJ]
    all_goals repeat'(first|(apply zP<;>(intro hg;(try simp only [push_cast]at hg)))|(refine⟨_,hAt,?_⟩;push_cast [↓zK,↓zJ])|(refine⟨_,hLs,?_⟩;push_cast [↓zK,↓zJ])|apply And.intro|(intro hg;(try simp only [push_cast]at hg)))
    all_goals try exact gA
    all_goals(refine hK _ ?_;clear hK K)
    refine zL fun K hK=> ?_
    refine zM zO zN [] rfl ?_
    all_goals refine zl 3 fun K9 hK9=> ?_
    all_goals push_cast [↓zK,↓zJ]
    all_goals repeat'(first|(apply zP<;>(intro hg;(try simp only [push_cast]at hg)))|(refine⟨_,hF1 () (by omega),?_⟩;push_cast [↓zK,↓zJ])|apply And.intro|(intro hg;(try simp only [push_cast]at hg)))
    all_goals try exact gA
    all_goals(refine hK9 _ ?_;clear hK9 K9)
    all_goals push_cast [↓zK,↓zJ]
    all_goals repeat'(first|(apply zP<;>(intro hg;(try simp only [push_cast]at hg)))|(refine⟨_,hF1 () (by omega),?_⟩;push_cast [↓zK,↓zJ])|apply And.intro|(intro hg;(try simp only [push_cast]at hg)))
    all_goals try exact gA
    all_goals(refine hK _ ?_;clear hK K)
    refine zL fun K hK=> ?_
    refine zM zO zN [] rfl ?_
    push_cast [↓zK,↓zJ]
    repeat' apply And.intro
    all_goals try exact gB
    all_goals(refine hK _ ?_;clear hK K)
    refine zL fun K hK=> ?_
    refine zM zO zN [] rfl ?_
    push_cast [↓zK,↓zJ]
    repeat' apply And.intro
    all_goals try exact gB
    all_goals(refine hK _ ?_;clear hK K)
    refine zL fun K5 hK5=> ?_
    refine zL fun K hK=> ?_
    refine zM zO zN [] rfl ?_
    push_cast [↓zK,↓zJ]
    repeat' apply And.intro
    all_goals try exact gB
    all_goals(refine hK _ ?_;clear hK K)
    refine zV ?_
    refine zh [13,14,45,68,69,70,71,72,73,74,75,76,77,78,79,80,81,82,83,84,85,86,87,88,89,90,91,92,93,94,95,96] [192] (fun(k:Nat)=> [(14, .int .i64 k),(13, .bool (vS lost k)),(12, .sl 192 [] 0 inn.length 4)]) (fun k=> []) (fun k=> [(192,⟨.ex,4,dB (mkB inn.length (yP rest low who) k),none⟩)]) (fun k=>k≤inn.length) (fun k=>inn.length - k) 0 ?_ (Nat.zero_le _) ?_
    ·
     rw [Xp,show vS lost 0=false from rfl]
     refine zX rfl ?_ ?_ ?_<;>push_cast [zg,zf,↓zK,↓zJ]
    ·rintro k hk KL1 hL1
     have hml:=wa (f:=yP rest low who) hk
     have hrl1:=hrl ()
     have hLo1:=hLo ()
     push_cast [↓zK,↓zJ]
     refine zL fun K6 hK6=> ?_
     refine zL fun K hK=> ?_
     refine zM zO zN [] rfl ?_
     push_cast [↓zK,↓zJ]
     repeat' apply And.intro
     all_goals try exact gB
     all_goals(refine hK _ ?_;clear hK K)
     refine zT rfl (fun hc=> ?_) (fun hc=> ?_)<;>(try simp only [push_cast]at hc)
     ·
      refine zU ?_
      refine hK6 _ ?_
      refine zL fun K7 hK7=> ?_
      refine zV ?_
      refine zL fun K hK=> ?_
      refine zj false zO zN ?_ rfl ?_
      ·kernel_rfl
      all_goals push_cast [↓zK,↓zJ]
      all_goals repeat'(first|(apply zP<;>(intro hg;(try simp only [push_cast]at hg)))|apply And.intro|(intro hg;(try simp only [push_cast]at hg)))
      all_goals try exact gA
      all_goals(refine hK _ ?_;clear hK K)
      all_goals(
        refine zj false zO zN ?_ rfl ?_
        ·kernel_rfl
        all_goals push_cast [↓zK,↓zJ]
        all_goals repeat'(first|(apply zP<;>(intro hg;(try simp only [push_cast]at hg)))|apply And.intro|(intro hg;(try simp only [push_cast]at hg)))
        all_goals first|exact gA|(rw [List.length_set];omega)|skip
        all_goals(
          refine hK7 _ ?_
          first|rw [zGH (k:=k) (n:=inn.length) (rest:=rest) (by omega) (by with_reducible assumption)]|rw [zHw (k:=k) (n:=inn.length) (rest:=rest) (by omega) (by with_reducible assumption)]
          have hml2:=wa (f:=yP rest low who) (show k+1≤inn.length by omega)
          have hmk:=zGK (f:=yP rest low who) (show k<inn.length by omega)
          rw [hL]at hmk
          refine zM zO zN [] rfl ?_
          all_goals push_cast [↓zK,↓zJ]
          all_goals repeat'(first|(apply zP<;>(intro hg;(try simp only [push_cast]at hg)))|apply And.intro|(intro hg;(try simp only [push_cast]at hg)))
          all_goals first|exact gA|(rw [List.length_set];omega)|skip
          refine hL1 _ ⟨k+1,(show k+1≤inn.length by omega),(show inn.length - (k+1)<inn.length - k by omega),?_⟩
          first|rw [show vS lost (k+1)=true from by unfold vS;rw [show vS lost k=true from by with_reducible assumption];rfl]|rw [show vS lost (k+1)=gb (mkB inn.length (yP rest low who) (k+1)) k from by rw [hmk];show(vS lost k||gb lost k)=_;rw [show vS lost k=false from by with_reducible assumption];rfl]
          refine zX rfl ?_ ?_ ?_<;>push_cast [zg,zf,↓zK,↓zJ]))
     ·
      refine zi ?_
      have hkk:k=inn.length:=by omega
      subst hkk
      rw [Qp]
      rw [hL]
      refine hK5 _ ?_
      refine zL fun K8 hK8=> ?_
      refine zL fun K hK=> ?_
      refine zM zO zN [] rfl ?_
      push_cast [↓zK,↓zJ]
      repeat' apply And.intro
      all_goals try exact gB
      all_goals(refine hK _ ?_;clear hK K)
      refine zT rfl (fun hc=> ?_) (fun hc=> ?_)<;>(try simp only [push_cast]at hc)
      ·
       refine zL fun K9 hK9=> ?_
       have hany:vS lost inn.length=false:=by first|exact hc|simpa using hc
       have hr9:=(hres ()).2.1 (by omega) hany
       subst hr9
       refine zL fun K hK=> ?_
       refine zM zO zN [] rfl ?_
       push_cast [↓zK,↓zJ]
       repeat' apply And.intro
       all_goals try exact gB
       all_goals(refine hK _ ?_;clear hK K)
       refine zV ?_
       refine zh [15,45,80,91,99,100,101,102,103,104,105,106,107,108,109,110,111,112,113,114,115] [96] (fun(k:Nat)=> [(15, .int .i64 k),(6, .sl 96 [] 0 inn.length 4)]) (fun k=> []) (fun k=> [(96,⟨.ex,4,dB (mkB inn.length (wm inn who) k),none⟩)]) (fun k=>k≤inn.length) (fun k=>inn.length - k) 0 ?_ (Nat.zero_le _) ?_
       ·
        rw [Xp]
        refine zX rfl ?_ ?_ ?_<;>push_cast [zg,zf,↓zK,↓zJ]
       ·rintro k hk KL2 hL2
        have hml:=wa (f:=wm inn who) hk
        push_cast [↓zK,↓zJ]
        refine zL fun K10 hK10=> ?_
        refine zL fun K hK=> ?_
        refine zM zO zN [] rfl ?_
        push_cast [↓zK,↓zJ]
        repeat' apply And.intro
        all_goals try exact gB
        all_goals(refine hK _ ?_;clear hK K)
        refine zT rfl (fun hc=> ?_) (fun hc=> ?_)<;>(try simp only [push_cast]at hc)
        ·
         refine zU ?_
         refine hK10 _ ?_
         refine zL fun K11 hK11=> ?_
         refine zV ?_
         refine zj false zO zN ?_ rfl ?_
         ·kernel_rfl
         all_goals push_cast [↓zK,↓zJ]
         all_goals repeat'(first|(apply zP<;>(intro hg;(try simp only [push_cast]at hg)))|apply And.intro|(intro hg;(try simp only [push_cast]at hg)))
         all_goals try exact gA
         all_goals(
           refine hK11 _ ?_
           refine zM zO zN [] rfl ?_
           push_cast [↓zK,↓zJ]
           repeat' apply And.intro
           all_goals try exact gB
           refine hL2 _ ⟨k+1,(show k+1≤inn.length by omega),(show inn.length - (k+1)<inn.length - k by omega),?_⟩
           first|rw [zGp (k:=k) (n:=inn.length) (inn:=inn) (by omega) (by with_reducible assumption)]|rw [zIV (k:=k) (n:=inn.length) (inn:=inn) (by omega) (by with_reducible assumption)]
           refine zX rfl ?_ ?_ ?_<;>push_cast [zg,zf,↓zK,↓zJ])
        ·
         refine zi ?_
         have hkk:k=inn.length:=by omega
         subst hkk
         rw [Qp]
         refine hK9 _ ?_
         refine zL fun K hK=> ?_
         refine zM zO zN [] rfl ?_
         push_cast [↓zK,↓zJ]
         repeat' apply And.intro
         all_goals try exact gB
         all_goals(refine hK _ ?_;clear hK K)
         refine zW ?_
         refine⟨Or.inl rfl,?_⟩
         push_cast [za,↓zK,↓zJ]
         all_goals first|rfl|exact⟨rfl,by simp [yY]⟩|(simp [yY];done)
      ·
       refine zU ?_
       refine hK8 _ ?_
       have hany:vS lost inn.length=true:=by first|exact hc|simpa using hc
       have hr9:=(hres ()).2.2 (by omega) hany
       subst hr9
       refine zL fun K hK=> ?_
       refine zM zO zN [] rfl ?_
       all_goals refine zl 6 fun K9 hK9=> ?_
       all_goals push_cast [↓zK,↓zJ]
       all_goals repeat'(first|(apply zP<;>(intro hg;(try simp only [push_cast]at hg)))|(refine⟨_,hAu,?_⟩;push_cast [↓zK,↓zJ])|apply And.intro|(intro hg;(try simp only [push_cast]at hg)))
       all_goals try exact gA
       all_goals(refine hK9 _ ?_;clear hK9 K9)
       all_goals push_cast [↓zK,↓zJ]
       all_goals repeat'(first|(apply zP<;>(intro hg;(try simp only [push_cast]at hg)))|(refine⟨_,hAu,?_⟩;push_cast [↓zK,↓zJ])|apply And.intro|(intro hg;(try simp only [push_cast]at hg)))
       all_goals try exact gA
       all_goals(refine hK _ ?_;clear hK K)
       refine zL fun K hK=> ?_
       refine yo false zO zN xj ?_ rfl ?_
       ·kernel_rfl
       intro E hE
       all_goals refine xR 4 (by decide) fun K9 hK9=> ?_
       all_goals push_cast [↓zK,↓zJ]
       all_goals repeat'(first|(apply zP<;>(intro hg;(try simp only [push_cast]at hg)))|(refine⟨_,hLu,?_⟩;push_cast [↓zK,↓zJ])|apply And.intro|(intro hg;(try simp only [push_cast]at hg)))
       all_goals try exact gA
       all_goals(refine hK9 _ _ ?_;clear hK9 K9)
       all_goals refine xR 1 (by decide) fun K9 hK9=> ?_
       all_goals push_cast [↓zK,↓zJ]
       all_goals repeat'(first|(apply zP<;>(intro hg;(try simp only [push_cast]at hg)))|(refine⟨_,hF2 () (by omega) hany,?_⟩;push_cast [↓zK,↓zJ])|apply And.intro|(intro hg;(try simp only [push_cast]at hg)))
       all_goals try exact gA
       all_goals(refine hK9 _ _ ?_;clear hK9 K9)
       all_goals push_cast [↓zK,↓zJ]
       all_goals repeat'(first|(apply zP<;>(intro hg;(try simp only [push_cast]at hg)))|(refine⟨_,hLu,?_⟩;push_cast [↓zK,↓zJ])|(refine⟨_,hF2 () (by omega) hany,?_⟩;push_cast [↓zK,↓zJ])|apply And.intro|(intro hg;(try simp only [push_cast]at hg)))
       all_goals first|exact gA|(refine hE _ _ ?_ ?_;kernel_rfl)|skip
       all_goals clear hE E
       all_goals(refine hK _ ?_;clear hK K)
       refine zL fun K12 hK12=> ?_
       refine zL fun K hK=> ?_
       refine zM zO zN [] rfl ?_
       push_cast [↓zK,↓zJ]
       repeat' apply And.intro
       all_goals try exact gB
       all_goals(refine hK _ ?_;clear hK K)
       refine zV ?_
       refine zh [18,45,80,91,111,128,129,130,131,132,133,134,135,136,137,138,139,140,141,142,143,144,145,146,147,148,149,150] [96] (fun(k:Nat)=> [(18, .int .i64 k),(6, .sl 96 [] 0 inn.length 4)]) (fun k=> []) (fun k=> [(96,⟨.ex,4,dB (mkB inn.length (vl again away who) k),none⟩)]) (fun k=>k≤inn.length) (fun k=>inn.length - k) 0 ?_ (Nat.zero_le _) ?_
       ·
        rw [Xp]
        refine zX rfl ?_ ?_ ?_<;>push_cast [zg,zf,↓zK,↓zJ]
       ·rintro k hk KL3 hL3
        have hml:=wa (f:=vl again away who) hk
        have hLa1:=hLa ()
        have hwl1:=hwl ()
        push_cast [↓zK,↓zJ]
        refine zL fun K13 hK13=> ?_
        refine zL fun K hK=> ?_
        refine zM zO zN [] rfl ?_
        push_cast [↓zK,↓zJ]
        repeat' apply And.intro
        all_goals try exact gB
        all_goals(refine hK _ ?_;clear hK K)
        refine zT rfl (fun hc=> ?_) (fun hc=> ?_)<;>(try simp only [push_cast]at hc)
        ·
         refine zU ?_
         refine hK13 _ ?_
         refine zL fun K14 hK14=> ?_
         refine zV ?_
         refine zj false zO zN ?_ rfl ?_
         ·kernel_rfl
         all_goals push_cast [↓zK,↓zJ]
         all_goals repeat'(first|(apply zP<;>(intro hg;(try simp only [push_cast]at hg)))|apply And.intro|(intro hg;(try simp only [push_cast]at hg)))
         all_goals try exact gA
         all_goals(
           refine hK14 _ ?_
           refine zM zO zN [] rfl ?_
           push_cast [↓zK,↓zJ]
           repeat' apply And.intro
           all_goals try exact gB
           refine hL3 _ ⟨k+1,(show k+1≤inn.length by omega),(show inn.length - (k+1)<inn.length - k by omega),?_⟩
           first|rw [zJ4 (k:=k) (n:=inn.length) (again:=again) (away:=away) (by omega) (by with_reducible assumption)]|rw [zJ5 (k:=k) (n:=inn.length) (again:=again) (away:=away) (by omega) (by with_reducible assumption) (by with_reducible assumption)]|rw [zJ6 (k:=k) (n:=inn.length) (again:=again) (away:=away) (by omega) (by with_reducible assumption) (by with_reducible assumption)]
           refine zX rfl ?_ ?_ ?_<;>push_cast [zg,zf,↓zK,↓zJ])
        ·
         refine zi ?_
         have hkk:k=inn.length:=by omega
         subst hkk
         rw [Qp]
         refine hK12 _ ?_
         refine zL fun K hK=> ?_
         refine zM zO zN [] rfl ?_
         push_cast [↓zK,↓zJ]
         repeat' apply And.intro
         all_goals try exact gB
         all_goals(refine hK _ ?_;clear hK K)
         refine zW ?_
         refine⟨Or.inl rfl,?_⟩
         push_cast [za,↓zK,↓zJ]
         all_goals first|rfl|exact⟨rfl,by simp [yY]⟩|(simp [yY];done)
theorem Kg (x:L7): ∀(f:Nat) (inn:List Bool),x.Ok inn.length→yk inn inn.length<f→Fn Tryz.prog tyT 106 [.agg (dL7 x), .c (.lst 4 (dB inn))] [.c (.lst 4 (dB (yU x inn.length f inn)))]
 |0,inn,_,h=>absurd h (Nat.not_lt_zero _)
 |f+1,inn,hx,hc=>by
  obtain⟨n,hn⟩: ∃n,inn.length=n:=⟨_,rfl⟩
  obtain⟨top,hT⟩: ∃t,yK x inn inn.length=t:=⟨_,rfl⟩
  obtain⟨who,hW⟩: ∃t,Int.tmod top 2=t:=⟨_,rfl⟩
  obtain⟨goal,hG⟩: ∃t,yY inn.length (xF x inn top)=t:=⟨_,rfl⟩
  obtain⟨att,hAt⟩: ∃t,yX x inn.length inn who goal=t:=⟨_,rfl⟩
  obtain⟨rest,hR⟩: ∃t,yJ inn att=t:=⟨_,rfl⟩
  obtain⟨low,hLo⟩: ∃t,yU x inn.length f rest=t:=⟨_,rfl⟩
  obtain⟨lost,hL⟩: ∃t,yY inn.length (yP rest low who)=t:=⟨_,rfl⟩
  obtain⟨away,hA⟩: ∃t,yX x inn.length inn (1 - who) lost=t:=⟨_,rfl⟩
  obtain⟨rest2,hR2⟩: ∃t,yJ inn away=t:=⟨_,rfl⟩
  obtain⟨again,hAg⟩: ∃t,yU x inn.length f rest2=t:=⟨_,rfl⟩
  have hs:=jv x inn.length f inn hT hW hG (by rw [hAt];exact hR) hLo hL hA
  rw [hR2,hAg]at hs
  have hrl:rest.length=inn.length:=by rw [←hR,xf]
  have hr2l:rest2.length=inn.length:=by rw [←hR2,xf]
  have hex:=JA hx (inn:=inn) inn.length (Nat.le_refl _)
  rw [hT]at hex
  have hlt:0≤top→yk rest inn.length<yk inn inn.length:=fun ht=>by
   obtain⟨w,hw,hw3,hw4⟩:=hex.resolve_left (by omega)
   rw [←hR,←hAt]
   refine XH rfl hw hw3 ?_
   rw [←hG,yS hw]
   unfold xF
   rw [hw3,hw4]
   simp
  refine zDW x inn hx top who hT (fun _ ht=>⟨hW,by rw [←hW,Xy ht];omega,by rw [←hW,Xy ht];omega⟩) goal att rest low lost away rest2 again _ hG hAt hR (fun _=>by rw [←hLo];exact Kr _ _ _ _) hL hA hR2 (fun _=>by rw [←hAg];exact Kr _ _ _ _) (fun _ ht=> ?_) (fun _ ht ha=> ?_) (fun _=>⟨fun ht=> ?_,fun ht ha=> ?_,fun ht ha=> ?_⟩)
  ·have :=Kg x f rest (by rw [hrl];exact hx) (by rw [hrl];have :=hlt ht;omega)
   rw [hrl,hLo]at this
   exact this
  ·have hlt2:yk rest2 inn.length<yk inn inn.length:=by
    obtain⟨a,ha1,ha2⟩:=vb.1 ha
    rw [←hR2,←hA]
    refine XH rfl ha1 ?_ ha2
    rw [←hL,yS ha1]at ha2
    unfold yP at ha2
    rw [Bool.and_eq_true,←hR,qS ha1,Bool.and_eq_true]at ha2
    exact ha2.1.1
   have :=Kg x f rest2 (by rw [hr2l];exact hx) (by rw [hr2l];omega)
   rw [hr2l,hAg]at this
   exact this
  ·rw [hs,if_pos ht]
  ·rw [hs,if_neg (by omega),if_neg (by rw [ha];decide)]
  ·rw [hs,if_neg (by omega),if_pos ha]
def pkI (n v:Nat):List Int:=List.replicate v (-1)++List.replicate (n - v) 0
theorem zCn {n v:Nat}(h:v≤n):(pkI n v).length=n:=by unfold pkI;simp;omega
theorem pkI_0 (n:Nat):pkI n 0=List.replicate n 0:=by simp [pkI]
theorem pkI_n (n:Nat):pkI n n=noP n:=by simp [pkI,noP]
theorem zH7 {n v:Nat}(h:v<n):(pkI n v).set v (-1)=pkI n (v+1):=by
 unfold pkI
 rw [List.set_append_right _ _ (by simp),List.length_replicate,Nat.sub_self,show n - v=(n - (v+1))+1 from by omega,List.replicate_succ,List.set_cons_zero,List.replicate_succ',List.append_assoc]
 rfl
theorem zGa {P:List (List Int)}{u m:Nat}{r:List Int}(hu:u<P.length)(hm:r.length≤m):List.take u ((dII P).set u D.hole)++ [D.lst 2 (dI (List.take m r))]++List.drop (u+1) ((dII P).set u D.hole)=dII (P.set u r):=by
 have e:dII (P.set u r)=(dII P).set u (D.lst 2 (dI r)):=by unfold dII;rw [List.map_set]
 have hl:u<(dII P).length:=by rw [Qk];exact hu
 rw [e,List.take_of_length_le hm,List.take_set,List.set_eq_of_length_le (by simp;omega),List.drop_set_of_lt (by omega),List.set_eq_take_append_cons_drop,if_pos hl]
 simp
set_option maxRecDepth 20000 in
set_option maxHeartbeats 4000000 in
theorem zHs (g:Pa)(hok:qw g=true):FnT Tryz.prog tyT 107 [.agg (dPa g)] [0,2,1] [DII (xw g.a g.a.owner.length g.a.owner.length 0),DI (noP g.a.owner.length)]:=by
 obtain⟨hao,hpl,hpr⟩:=xu hok
 have hal:=yr hao
 have hrow:=fun v hv=>(xZ hao (v:=v) hv).2.2
 have hset:=fun v j hv hj=>Zz (xZ hao (v:=v) hv).2.2.2.2 (j:=j) hj
 obtain⟨n,hn⟩: ∃n,g.a.owner.length=n:=⟨_,rfl⟩
 rw [hn]at hal hpl hrow hset
 rw [hn]
 unfold dPa
 refine zIc (fn:=Tryz.f107) (rs:= [.cell 2 130]) zO zN Tryz.func107 (by kernel_rfl) rfl rfl (by rw [Tryz.ntmps107];exact Nat.le_of_ble_eq_true rfl) rfl (by simp only [szA,List.mem_cons,List.not_mem_nil,or_false,forall_eq_or_imp,forall_eq,VT.cells,szL];try decide) rfl ?_
 rw [Tryz.ntmps107]
 push_cast
 (try rw [hn])
 (try rw [hpl])
 (try rw [hal.2.2])
 refine zL fun K hK=> ?_
 refine zM zO zN [] rfl ?_
 all_goals push_cast
 all_goals repeat'(first|(apply zP<;>(intro hg;push_cast at hg))|apply And.intro|(intro hg;push_cast at hg))
 all_goals first|exact gA|(exact zS (by omega))|skip
 refine hK _ ?_;clear hK K
 refine zL fun K hK=> ?_
 refine zM zO zN [] rfl ?_
 all_goals push_cast
 all_goals repeat'(first|(apply zP<;>(intro hg;push_cast at hg))|apply And.intro|(intro hg;push_cast at hg))
 all_goals first|exact gA|(exact zS (by omega))|skip
 refine hK _ ?_;clear hK K
 refine zL fun K hK=> ?_
 refine yo true zO zN xj ?_ rfl ?_
 ·kernel_rfl
 intro E hE
 all_goals push_cast
 all_goals repeat'(first|(apply zP<;>(intro hg;push_cast at hg))|apply And.intro|(intro hg;push_cast at hg))
 all_goals first|exact gA|(refine hE _ _ ?_ ?_;kernel_rfl)|(exact zS (by omega))|skip
 all_goals clear hE E
 refine hK _ ?_;clear hK K
 refine zL fun K1 hK1=> ?_
 refine WM [64,65,66] [.sl 2, .sl 2, .sl 22, .sl 22, .sl 2] 4 ?_
 push_cast
 refine zL fun K hK=> ?_
 refine zM zO zN [] rfl ?_
 all_goals push_cast
 all_goals repeat'(first|(apply zP<;>(intro hg;push_cast at hg))|apply And.intro|(intro hg;push_cast at hg))
 all_goals first|exact gA|(exact zS (by omega))|skip
 refine hK _ ?_;clear hK K
 refine zV ?_
 refine zh [4,5,6,7,24,25,26,27,28,29,30,31,32,33,34,35,36,37,38,39,40,41,42,43,44,45,46,47,48,49,50,51,52,53,54,55,56,57,58,59,60,61,62,63,64] [67,68] (fun(v:Nat)=> [(5, .int .i64 v),(4, .bp 4 0)]) (fun v=> [(4,[.sl 0 [] 0 n 2, .sl 2 [] 0 n 2, .sl 1 [] 0 n 22, .sl 67 [] 0 n 22, .sl 68 [] 0 n 2])]) (fun v=> [(67,⟨.ex,22,dII (xw g.a n v 0),none⟩),(68,⟨.ex,2,dI (pkI n v),none⟩)]) (fun v=>v≤n) (fun v=>n - v) 0 ?_ (by omega) ?_
 ·
  rw [ux,pkI_0]
  refine zX rfl ?_ ?_ ?_<;>push_cast [zg,zf]
  all_goals(simp [dII,dI];done)
 ·rintro v hv KL0 hL0
  have hpv:=vP g.a n v 0
  have hpk:=zCn hv
  push_cast
  refine zL fun K2 hK2=> ?_
  refine zL fun K hK=> ?_
  refine zM zO zN [] rfl ?_
  all_goals push_cast
  all_goals repeat'(first|(apply zP<;>(intro hg;push_cast at hg))|apply And.intro|(intro hg;push_cast at hg))
  all_goals first|exact gA|(exact zS (by omega))|skip
  refine hK _ ?_;clear hK K
  refine zT rfl (fun hc=> ?_) (fun hc=> ?_)<;>(try simp only [push_cast]at hc)
  ·
   refine zU ?_
   refine hK2 _ ?_
   refine zL fun K3 hK3=> ?_
   refine zV ?_
   refine zL fun K hK=> ?_
   refine zM zO zN [] rfl ?_
   all_goals push_cast
   all_goals repeat'(first|(apply zP<;>(intro hg;push_cast at hg))|apply And.intro|(intro hg;push_cast at hg))
   all_goals first|exact gA|(exact zS (by omega))|skip
   refine hK _ ?_;clear hK K
   refine zL fun K hK=> ?_
   refine zM zO zN [] rfl ?_
   all_goals push_cast
   all_goals repeat'(first|(apply zP<;>(intro hg;push_cast at hg))|apply And.intro|(intro hg;push_cast at hg))
   all_goals first|exact gA|(exact zS (by omega))|skip
   refine hK _ ?_;clear hK K
   refine zV ?_
   refine zh [4,6,7,33,34,35,36,37,38,39,40,41,42,43,44,45,46,47,48,49,50,51,52,53,54,55,56,57,58,59,60,61,62,63,64] [67,68] (fun(i:Nat)=> [(6, .int .i64 i),(4, .bp 4 0)]) (fun i=> [(4,[.sl 0 [] 0 n 2, .sl 2 [] 0 n 2, .sl 1 [] 0 n 22, .sl 67 [] 0 n 22, .sl 68 [] 0 n 2])]) (fun i=> [(67,⟨.ex,22,dII (xw g.a n v i),none⟩),(68,⟨.ex,2,dI (pkI n (v+1)),none⟩)]) (fun i=>i≤(gl g.a.next v).length) (fun i=>(gl g.a.next v).length - i) 0 ?_ (by omega) ?_
   ·
    rw [zH7 (by omega)]
    refine zX rfl ?_ ?_ ?_<;>push_cast [zg,zf]
   ·rintro i hi KL1 hL1
    have hpv:=vP g.a n v i
    have hpk:=zCn (n:=n) (v:=v+1) (by omega)
    push_cast
    refine zL fun K4 hK4=> ?_
    refine zL fun K hK=> ?_
    refine zM zO zN [] rfl ?_
    all_goals push_cast
    all_goals repeat'(first|(apply zP<;>(intro hg;push_cast at hg))|apply And.intro|(intro hg;push_cast at hg))
    all_goals first|exact gA|(exact zS (by omega))|skip
    refine hK _ ?_;clear hK K
    refine zT rfl (fun hc=> ?_) (fun hc=> ?_)<;>(try simp only [push_cast]at hc)
    ·
     refine zU ?_
     refine hK4 _ ?_
     refine zL fun K5 hK5=> ?_
     refine zV ?_
     refine zL fun K hK=> ?_
     refine zM zO zN [] rfl ?_
     all_goals push_cast
     all_goals repeat'(first|(apply zP<;>(intro hg;push_cast at hg))|apply And.intro|(intro hg;push_cast at hg))
     all_goals first|exact gA|(exact zS (by omega))|skip
     refine hK _ ?_;clear hK K
     have hrv:=(hrow v (by omega)).2.1
     have hst:=hset v i (by omega) (by omega)
     have hps:=uw hao (n:=n) (v:=v) (i:=i) (by omega) (by omega) (by omega)
     have hpe:(gl (xw g.a n v i) (gi (gl g.a.next v) i).toNat).length≤v+1:=by rw [Ja (by omega)];exact zBE _ _ _ _
     refine yo true zO zN xj ?_ rfl ?_
     ·kernel_rfl
     intro E hE
     all_goals push_cast
     all_goals repeat'(first|(apply zP<;>(intro hg;push_cast at hg))|apply And.intro|(intro hg;push_cast at hg))
     all_goals first|exact gA|(refine hE _ _ ?_ ?_;kernel_rfl)|(rw [List.length_set,Qk];omega)|(exact zS (by omega))|skip
     all_goals clear hE E
     refine hK5 _ ?_
     refine zM zO zN [] rfl ?_
     all_goals push_cast
     all_goals repeat'(first|(apply zP<;>(intro hg;push_cast at hg))|apply And.intro|(intro hg;push_cast at hg))
     all_goals first|exact gA|(exact zS (by omega))|skip
     refine hL1 _ ⟨i+1,by omega,by omega,?_⟩
     refine zX rfl ?_ ?_ ?_<;>push_cast [zg,zf]
     all_goals(rw [zGa (by omega) (by rw [List.length_append];exact Nat.le_refl _),hps])
    ·
     refine zi ?_
     have hii:i=(gl g.a.next v).length:=by omega
     subst hii
     rw [uv]
     refine hK3 _ ?_
     refine zM zO zN [] rfl ?_
     all_goals push_cast
     all_goals repeat'(first|(apply zP<;>(intro hg;push_cast at hg))|apply And.intro|(intro hg;push_cast at hg))
     all_goals first|exact gA|(exact zS (by omega))|skip
     refine hL0 _ ⟨v+1,by omega,by omega,?_⟩
     refine zX rfl ?_ ?_ ?_<;>push_cast [zg,zf]
  ·
   refine zi ?_
   have hvv:v=n:=by omega
   subst hvv
   refine hK1 _ ?_
   refine zL fun K hK=> ?_
   refine zM zO zN [32,33,34] rfl ?_
   push_cast
   repeat' apply And.intro
   all_goals try exact gB
   refine hK _ ?_;clear hK K
   refine zW ?_
   refine⟨Or.inl rfl,?_⟩
   push_cast [RetT,yB,yZ,Vq,ql,ZU]
   rw [pkI_n]
   exact⟨⟨by omega,by omega,by omega⟩,by omega,rfl,by rw [kf]⟩
set_option maxRecDepth 20000 in
set_option maxHeartbeats 4000000 in
theorem ui (b:Bool):Fn Tryz.prog tyT 109 [.c (.bool b)] [.c (.int .i64 (if b then 1 else 0))]:=by
 refine zr (fn:=Tryz.f109) (ts:= [2]) Tryz.func109 (by kernel_rfl) rfl rfl (by rw [Tryz.ntmps109];exact Nat.le_of_ble_eq_true rfl) rfl (by simp only [szA,List.mem_cons,List.not_mem_nil,or_false,forall_eq_or_imp,forall_eq,VT.cells,szL];try decide) ?_
 rw [Tryz.ntmps109]
 push_cast
 refine zL fun K hK=> ?_
 refine zM zO zN [] rfl ?_
 push_cast
 repeat' apply And.intro
 all_goals try exact gB
 refine hK _ ?_;clear hK K
 refine zL fun K1 hK1=> ?_
 refine zL fun K hK=> ?_
 refine zM zO zN [] rfl ?_
 push_cast
 repeat' apply And.intro
 all_goals try exact gB
 refine hK _ ?_;clear hK K
 refine zT rfl (fun hc=> ?_) (fun hc=> ?_)<;>(try simp only [push_cast]at hc)
 ·
  refine zL fun K hK=> ?_
  refine zM zO zN [] rfl ?_
  push_cast
  repeat' apply And.intro
  all_goals try exact gB
  refine hK _ ?_;clear hK K
  refine zW ?_
  refine⟨Or.inl rfl,?_⟩
  push_cast [za]
  rw [show b=true from by with_reducible assumption];rfl
 ·
  refine zU ?_
  refine hK1 _ ?_
  refine zL fun K hK=> ?_
  refine zM zO zN [] rfl ?_
  push_cast
  repeat' apply And.intro
  all_goals try exact gB
  refine hK _ ?_;clear hK K
  refine zW ?_
  refine⟨Or.inl rfl,?_⟩
  push_cast [za]
  rw [show b=false from by with_reducible assumption];rfl
end Go.Proofs.YthepmdkpbjfdcaaGreat
