/- all parts of a few names, and the other family: both sides -/
import Derived.Test.YthepmdkpbjfdcaaGreatB10zff
import Derived.Test.YthepmdkpbjfdcaaGreatB15zff
import Derived.Test.YthepmdkpbjfdcaaGreatB12zff
import Derived.Test.YthepmdkpbjfdcaaGreatB14zff
namespace Go.Proofs.YthepmdkpbjfdcaaGreat
open Nat renaming reduceMod → zA, reduceMul → zB, reduceDiv → zC, reduceAdd → zD, reduceSub → zE, reduceEqDiff → zF, reduceBEq → zG, reduceLT → zH, reduceLeDiff → zI
open Go.RowKit
set_option linter.unusedVariables false
set_option linter.unusedSimpArgs false
def xQ :List Int→Nat→List Int
 | [],_=> []
 |x::xs,b=>if b%2=1 then x::xQ xs (b / 2)else xQ xs (b / 2)
theorem uD : ∀(xs:List Int) (b:Nat),(xQ xs b).length≤xs.length
 | [],_=>Nat.le_refl _
 |x::xs,b=>by
  have :=uD xs (b / 2)
  unfold xQ
  split<;>simp only [List.length_cons]<;>omega
theorem JT : ∀(xs:List Int) (x:Int) (b:Nat),xQ (xs++ [x]) b=xQ xs b++(if b / 2^xs.length%2=1 then [x]else [])
 | [],x,b=>by
  simp only [List.nil_append,xQ,List.length_nil,Nat.pow_zero,Nat.div_one]
 |y::xs,x,b=>by
  have h:=JT xs x (b / 2)
  rw [Nat.div_div_eq_div_mul,show 2*2^xs.length=2^(xs.length+1)from by rw [Nat.pow_succ,Nat.mul_comm]]at h
  simp only [List.cons_append,xQ,List.length_cons]
  rw [h]
  split<;>simp
def wV (xs:List Int)(k:Nat):List (List Int):=(List.range k).map (xQ xs)
theorem zBq (xs:List Int)(k:Nat):(wV xs k).length=k:=by simp [wV]
theorem zMN (xs:List Int)(k:Nat):wV xs (k+1)=wV xs k++ [xQ xs k]:=by simp [wV,List.range_succ]
theorem zKU {xs:List Int}{k j:Nat}(h:j<k):gl (wV xs k) j=xQ xs j:=by
 unfold gl wV
 rw [List.getD_eq_getElem?_getD,List.getElem?_map,List.getElem?_range h]
 rfl
def yM (xs:List Int):List (List Int):=wV xs (2^xs.length)
theorem Yz {n:Nat}(h:n≤4):2^n≤16:=Nat.pow_le_pow_right (by omega) h
theorem zLH {num i:Nat}(h:i≤64):((num:Int) / 2^(min i 64))%2=((num / 2^i%2:Nat):Int):=by
 rw [Nat.min_eq_left h,Int.natCast_emod,Int.natCast_ediv,Int.natCast_pow]
 rfl
theorem zMC {n:Nat}(h:n≤64):(2:Int)^(min n 64)=((2^n:Nat):Int):=by
 rw [Nat.min_eq_left h,Int.natCast_pow]
 rfl
theorem zKB {xs:List Int}{num k:Nat}(hk:k<xs.length)(h:num / 2^k%2=1):xQ (xs.take (k+1)) num=xQ (xs.take k) num++ [gi xs k]:=by
 rw [XD hk,JT,List.length_take,Nat.min_eq_left (by omega),if_pos h]
theorem zMA {xs:List Int}{num k:Nat}(hk:k<xs.length)(h: ¬num / 2^k%2=1):xQ (xs.take (k+1)) num=xQ (xs.take k) num:=by
 rw [XD hk,JT,List.length_take,Nat.min_eq_left (by omega),if_neg h,List.append_nil]
theorem vc (num k:Nat):(0:Int)≤(num:Int) / 2^(min k 64):=Int.ediv_nonneg (by omega) (Int.pow_nonneg (by omega))
set_option maxRecDepth 20000 in
set_option maxHeartbeats 4000000 in
theorem Kv (xs:List Int)(hx:xs.length≤4):Fn Tryz.prog tyT 59 [.c (DI xs)] [.c (DII (yM xs))]:=by
 have hN:=zMC (n:=xs.length) (by omega)
 have h16:=Yz hx
 have h1:=Nat.two_pow_pos xs.length
 obtain⟨N,hNd⟩: ∃N,N=2^xs.length:=⟨_,rfl⟩
 rw [←hNd]at hN h16 h1
 unfold yM
 rw [←hNd]
 refine θH (ts:= [2]) Tryz.func59 Tryz.ntmps59 ?_
 push_cast
 refine θA ?_
 refine θN ?_
 refine xm 22 3 (Nat.le_of_ble_eq_true rfl) ?_
 push_cast
 refine zL fun K1 hK1=> ?_
 refine θA ?_
 refine zV ?_
 refine zh [3,4,5,6,7,9,10,11,12,13,14,15,16,17,18,19,20,21,22,23,24,25,26,27,28,29,30,31,32,33,34,35,36,37] [48] (fun(num:Nat)=> [(4, .int .i64 num),(3, .sl 48 [] 0 num 22)]) (fun num=> []) (fun num=> [(48,⟨.ex,22,dII (wV xs num),none⟩)]) (fun num=>num≤N) (fun num=>N - num) 0 ?_ (by omega) ?_
 ·
  rw [show dII (wV xs 0)= []from rfl]
  exact θX
 ·rintro num hn KL0 hL0
  have hsl:=zBq xs num
  push_cast
  refine zL fun K2 hK2=> ?_
  refine θA ?_
  refine θU (fun hc=> ?_) fun hc=> ?_
  ·
   refine zW (hK2 _ ?_)
   refine zL fun K3 hK3=> ?_
   refine zV ?_
   refine θA ?_
   refine zL fun K4 hK4=> ?_
   refine θA ?_
   refine zV ?_
   refine zh [5,6,7,19,20,21,22,23,24,25,26,27,28,29,30,31,32,33] [80] (fun(k:Nat)=> [(19, .int .i64 k),(5, .sl 80 [] 0 (xQ (xs.take k) num).length 2)]) (fun k=> []) (fun k=> [(80,⟨.ex,2,dI (xQ (xs.take k) num),none⟩)]) (fun k=>k≤xs.length) (fun k=>xs.length - k) 0 ?_ (by omega) ?_
   ·
    rw [show xQ (xs.take 0) num= []from rfl,show dI ([]:List Int)= []from rfl]
    exact θX
   ·rintro k hk KL1 hL1
    have hpl:=uD (xs.take k) num
    rw [List.length_take]at hpl
    have hbi:=zLH (num:=num) (i:=k) (by omega)
    push_cast
    refine θA ?_
    refine zL fun K5 hK5=> ?_
    refine θU (fun hc=> ?_) fun hc=> ?_
    ·
     refine zW (hK5 _ ?_)
     refine zL fun K6 hK6=> ?_
     refine zV ?_
     refine θA ?_
     refine zL fun K hK=> ?_
     refine zM zQ zN [] rfl ?_
     all_goals push_cast
     all_goals repeat'(first|(apply zO<;>(intro hg;push_cast at hg))|apply And.intro|(intro hg;push_cast at hg))
     all_goals first|exact gA|(exact vc _ _)|(rw [hN];omega)|skip
     refine hK _ ?_;clear hK K
     refine zU rfl (fun hc=> ?_) (fun hc=> ?_)<;>(try simp only [push_cast]at hc)
     ·
      refine θB ?_
      refine hK6 _ ?_
      refine θB ?_
      refine hL1 _ ⟨k+1,by omega,by omega,?_⟩
      rw [zKB (by omega) (by rw [hbi]at hc;omega)]
      (try rw [List.take_of_length_le (l:=xQ (xs.take k) num) (by omega)])
      refine zX rfl ?_ ?_ ?_<;>push_cast [zf,ze]
      all_goals(try(rw [List.length_append];rfl))
     ·
      refine zW (hK6 _ ?_)
      refine θB ?_
      refine hL1 _ ⟨k+1,by omega,by omega,?_⟩
      rw [zMA (by omega) (by rw [hbi]at hc;omega)]
      exact θX
      all_goals(try(rw [List.length_append];rfl))
    ·
     refine zi ?_
     have hkk:k=xs.length:=by omega
     subst hkk
     rw [List.take_length]
     refine hK4 _ ?_
     refine zc false zQ zN ?_ rfl ?_
     ·kernel_rfl
     push_cast
     all_goals repeat'(first|(apply zO<;>(intro hg;push_cast at hg))|apply And.intro|(intro hg;push_cast at hg))
     all_goals first|exact gA|(exact vc _ _)|(rw [hN];omega)|skip
     refine hK3 _ ?_
     refine xm 22 3 (Nat.le_of_ble_eq_true rfl) ?_
     push_cast
     refine θB ?_
     refine hL0 _ ⟨num+1,by omega,by omega,?_⟩
     (try rw [List.take_of_length_le (l:=wV xs num) (by omega)])
     rw [zMN]
     exact θX
  ·
   refine zi ?_
   have hnn:num=N:=by omega
   subst hnn
   refine hK1 _ ?_
   refine θA ?_
   refine zY ⟨Or.inl rfl,?_⟩
   push_cast [zd]
   first|rfl|(simp [zBq];done)
def p2 (i:Nat):Nat:=2^i
def wd (p:List Int→Bool)(rows:List (List Int))(k:Nat):List D:=(rows.take k).map (fun r=>if p r then D.hole else .lst 2 (dI r))++dII (rows.drop k)
theorem zII (p:List Int→Bool)(rows:List (List Int)):wd p rows 0=dII rows:=by simp [wd]
theorem jR (p:List Int→Bool)(rows:List (List Int))(k:Nat):(wd p rows k)[k]? =(dII rows)[k]? :=by
 unfold wd dII
 rcases Nat.lt_or_ge k rows.length with h|h
 ·have hl:((rows.take k).map (fun r=>if p r then D.hole else .lst 2 (dI r))).length=k:=by simp;omega
  rw [List.getElem?_append_right (by omega),hl,Nat.sub_self,List.getElem?_map,List.getElem?_map,List.getElem?_drop]
  rfl
 ·rw [List.getElem?_eq_none (by simp;omega),List.getElem?_eq_none (by simp;omega)]
theorem zJq (p:List Int→Bool)(rows:List (List Int))(k:Nat):(wd p rows k).length=rows.length:=by simp [wd,dII];omega
theorem zH7 (p:List Int→Bool)(rows:List (List Int))(k:Nat):xh (wd p rows k) k=dI (gl rows k):=by
 rw [←ko]
 unfold xh
 rw [jR]
theorem zx {p:List Int→Bool}{rows:List (List Int)}{k:Nat}(h:k<rows.length):vG (wd p rows k) k=2:=by
 rw [←zP h]
 unfold vG
 rw [jR]
theorem zHP (p:List Int→Bool)(rows:List (List Int))(k:Nat):xq (.sl 2) (wd p rows k) k=(k<rows.length):=by
 rw [←kU]
 unfold xq
 rw [jR]
theorem zE0 (p:List Int→Bool)(rows:List (List Int))(k:Nat):zo (wd p rows k) [k]=(k<rows.length):=by
 rw [←JK]
 unfold zo
 rw [jR]
theorem zDU {p:List Int→Bool}{rows:List (List Int)}{k:Nat}(h:k<rows.length)(hp:p (gl rows k)=true):(wd p rows k).set k .hole=wd p rows (k+1):=by
 have hl:((rows.take k).map (fun r=>if p r then D.hole else .lst 2 (dI r))).length=k:=by simp;omega
 unfold wd
 rw [List.set_append_right _ _ (by omega),hl,Nat.sub_self,Jd h,List.map_append,List.append_assoc]
 congr 1
 have :rows.drop k=gl rows k::rows.drop (k+1):=by
  rw [List.drop_eq_getElem_cons h]
  congr 1
  unfold gl
  rw [List.getD_eq_getElem?_getD,List.getElem?_eq_getElem h]
  rfl
 rw [this]
 simp [dII,hp]
theorem zBR {p:List Int→Bool}{rows:List (List Int)}{k:Nat}(h:k<rows.length)(hp:p (gl rows k)=false):wd p rows k=wd p rows (k+1):=by
 unfold wd
 rw [Jd h,List.map_append,List.append_assoc]
 congr 1
 have :rows.drop k=gl rows k::rows.drop (k+1):=by
  rw [List.drop_eq_getElem_cons h]
  congr 1
  unfold gl
  rw [List.getD_eq_getElem?_getD,List.getElem?_eq_getElem h]
  rfl
 rw [this]
 simp [dII,hp]
attribute [push_cast] zJq zH7 zHP zE0
theorem zBL {xs:List (List Int)}{p:List Int→Bool}{k:Nat}(h:k<xs.length)(hp:p (gl xs k)=true):(xs.take (k+1)).filter p=(xs.take k).filter p++ [gl xs k]:=by
 rw [Jd h,List.filter_append];simp [hp]
theorem zDM {xs:List (List Int)}{p:List Int→Bool}{k:Nat}(h:k<xs.length)(hp:p (gl xs k)=false):(xs.take (k+1)).filter p=(xs.take k).filter p:=by
 rw [Jd h,List.filter_append];simp [hp]
theorem zBs (xs:List (List Int))(p:List Int→Bool)(k:Nat):((xs.take k).filter p).length≤xs.length:=Nat.le_trans (List.length_filter_le _ _) (by rw [List.length_take];omega)
def yl (f:Fm):Fm:=if xg f 256 then⟨f.names,(yM f.names).filter fun s=> !xn f.sets s⟩else⟨[],[]⟩
theorem zEn {f:Fm}(h:xg f 256=false):yl f=⟨[],[]⟩:=by unfold yl;rw [h];rfl
theorem YX {f:Fm}(h:xg f 256=true):yl f=⟨f.names,(yM f.names).filter fun s=> !xn f.sets s⟩:=by unfold yl;rw [h];rfl
theorem VW {xs:List Int}(k:Nat):(gl (yM xs) k).length≤xs.length:=by
 rcases Nat.lt_or_ge k (2^xs.length)with h|h
 ·unfold yM
  rw [zKU h]
  exact uD _ _
 ·unfold gl yM wV
  rw [List.getD_eq_getElem?_getD,List.getElem?_eq_none (by simp;omega)]
  simp
theorem Xg (xs:List Int):(yM xs).length=2^xs.length:=by simp [yM,wV]
theorem zDF {f:Fm}(h:f.Ln 1048576):(yl f).Ln 1048576:=by
 unfold yl
 split
 ·rename_i hok
  obtain⟨h1,h2,h3⟩:=qC hok
  have h4:=Yz h2
  have h5:=Xg f.names
  refine⟨h.names,⟨Nat.le_trans (List.length_filter_le _ _) (by omega),fun r hr=> ?_⟩⟩
  obtain⟨k,hk,rfl⟩:=Kc (List.mem_filter.1 hr).1
  have :=VW (xs:=f.names) k
  omega
 ·exact⟨by unfold LnI;simp,by simp,by simp⟩
set_option maxRecDepth 20000 in
set_option maxHeartbeats 4000000 in
theorem uX (f:Fm)(hf:f.Ln 1048576):Fn Tryz.prog tyT 25 [.agg (dFm f)] [.agg (dFm (yl f))]:=by
 have h1:=hf.names
 have h2:=hf.sets.1
 unfold LnI at h1
 have hr: ∀v,(gl f.sets v).length≤1048576:=fun v=>ZP hf.sets v
 have hA:=Vr f hf 256
 have hS:=fun h=>Kv f.names h
 have hH:=fun t ht=>VJ f h2 hr t ht
 unfold dFm at hA hH
 unfold dFm
 refine XQ (fn:=Tryz.f25) (rs:= [.cell 2 33]) zQ zN Tryz.func25 (by kernel_rfl) rfl rfl (by rw [Tryz.ntmps25];exact Nat.le_of_ble_eq_true rfl) rfl (by simp only [szA,List.mem_cons,List.not_mem_nil,or_false,forall_eq_or_imp,forall_eq,VT.cells,szL];try decide) ?_
 rw [Tryz.ntmps25]
 push_cast
 refine θA ?_
 refine zL fun K1 hK1=> ?_
 refine θL fun K hK=> ?_
 refine θD 2 ?_
 refine θE hK ?_
 refine θU (fun hc=> ?_) fun hc=> ?_
 ·
  refine θA ?_
  refine zY ⟨Or.inl rfl,?_⟩
  push_cast [zd,zt,yH]
  rw [zEn (by with_reducible assumption)]
  all_goals first|exact⟨rfl,rfl⟩|(simp [dI,dII];done)
 ·
  refine zW (hK1 _ ?_)
  have hok:xg f 256=true:=by with_reducible assumption
  obtain⟨hn1,hn4,hn5⟩:=qC hok
  have hsl:=Xg f.names
  have h16:=Yz hn4
  refine θA ?_
  refine zL fun K2 hK2=> ?_
  refine θL fun K hK=> ?_
  all_goals refine zj 3 fun K9 hK9=> ?_
  all_goals push_cast
  all_goals repeat'(first|(apply zO<;>(intro hg;push_cast at hg))|(refine⟨_,hS hn4,?_⟩;push_cast)|apply And.intro|(intro hg;push_cast at hg))
  all_goals first|exact gA|(exact zx (by omega))|(exact zP (by omega))|skip
  refine hK9 _ ?_;clear hK9 K9
  all_goals push_cast
  all_goals repeat'(first|(apply zO<;>(intro hg;push_cast at hg))|(refine⟨_,hS hn4,?_⟩;push_cast)|apply And.intro|(intro hg;push_cast at hg))
  all_goals first|exact gA|(exact zx (by omega))|(exact zP (by omega))|skip
  refine hK _ ?_;clear hK K
  refine zV ?_
  refine zh [3,5,19,20,21,22,23,24,25,26,27,28,29,30,31,32,33] [272] (fun(u:Nat×List (List Int))=> [(19, .int .i64 u.1),(3, .bp 3 0),(17, .sl 272 [] 0 (yM f.names).length 22)]) (fun u=> [(3,[.sl 48 [] 0 f.names.length 2, .sl 49 [] 0 u.2.length 22])]) (fun u=> [(48,⟨.ex,2,dI f.names,none⟩),(49,⟨.ex,22,dII u.2,none⟩),(272,⟨.ex,22,wd (fun s=> !xn f.sets s) (yM f.names) u.1,none⟩)]) (fun u=>u.1≤(yM f.names).length∧u.2=((yM f.names).take u.1).filter (fun s=> !xn f.sets s)) (fun u=>(yM f.names).length - u.1) (0,[]) ?_ ⟨by omega,rfl⟩ ?_
  ·
   simp only [zII,show dII ([]:List (List Int))= []from rfl]
   exact θX
  ·rintro⟨k,o⟩ ⟨hk,ho⟩ KL0 hL0
   simp only at hk ho
   have hol:o.length≤(yM f.names).length:=by rw [ho];exact zBs _ _ _
   have hrk:=VW (xs:=f.names) k
   push_cast
   refine θA ?_
   refine zL fun K3 hK3=> ?_
   refine θU (fun hc=> ?_) fun hc=> ?_
   ·
    refine zW (hK3 _ ?_)
    refine zL fun K4 hK4=> ?_
    refine zV ?_
    refine θA ?_
    refine θL fun K hK=> ?_
    all_goals refine zj 3 fun K9 hK9=> ?_
    all_goals push_cast
    all_goals repeat'(first|(apply zO<;>(intro hg;push_cast at hg))|(refine⟨_,hH (gl (yM f.names) k) (by omega),?_⟩;push_cast)|apply And.intro|(intro hg;push_cast at hg))
    all_goals first|exact gA|(exact zx (by omega))|(exact zP (by omega))|skip
    refine hK9 _ ?_;clear hK9 K9
    all_goals push_cast
    all_goals repeat'(first|(apply zO<;>(intro hg;push_cast at hg))|(refine⟨_,hH (gl (yM f.names) k) (by omega),?_⟩;push_cast)|apply And.intro|(intro hg;push_cast at hg))
    all_goals first|exact gA|(exact zx (by omega))|(exact zP (by omega))|skip
    refine hK _ ?_;clear hK K
    refine θU (fun hc=> ?_) fun hc=> ?_
    ·
     refine zc false zQ zN ?_ rfl ?_
     ·kernel_rfl
     push_cast
     all_goals repeat'(first|(apply zO<;>(intro hg;push_cast at hg))|apply And.intro|(intro hg;push_cast at hg))
     all_goals first|exact gA|(exact zx (by omega))|(exact zP (by omega))|skip
     refine hK4 _ ?_
     refine yx [.sl 2, .sl 22] 3 ?_
     push_cast
     refine θB ?_
     refine hL0 _ ⟨(k+1,o++ [gl (yM f.names) k]),⟨by simp only;omega,by simp only;rw [zBL (by omega) (by simp only [hc,Bool.not_false,Bool.not_true]),←ho]⟩,by simp only;omega,?_⟩
     (try rw [List.take_of_length_le (l:=gl (yM f.names) k) (by omega)])
     (try rw [List.take_of_length_le (l:=o) (by omega)])
     (try rw [zDU (by omega) (by simp only [hc,Bool.not_false,Bool.not_true])])
     simp only
     refine zX rfl ?_ ?_ ?_<;>push_cast [zf,ze]
     all_goals(try(rw [List.length_append];rfl))
    ·
     refine zW (hK4 _ ?_)
     refine yx [.sl 2, .sl 22] 3 ?_
     push_cast
     refine θB ?_
     refine hL0 _ ⟨(k+1,o),⟨by simp only;omega,by simp only;rw [zDM (by omega) (by simp only [hc,Bool.not_false,Bool.not_true]),←ho]⟩,by simp only;omega,?_⟩
     rw [zBR (by omega) (by simp only [hc,Bool.not_false,Bool.not_true])]
     simp only
     exact θX
     all_goals(try(rw [List.length_append];rfl))
   ·
    refine zi ?_
    have hkk:k=(yM f.names).length:=by omega
    subst hkk
    rw [List.take_length]at ho
    refine hK2 _ ?_
    refine θA ?_
    refine zY ⟨Or.inl rfl,?_⟩
    push_cast [zd,zt,yH]
    rw [YX hok]
    subst ho
    all_goals first|rfl|exact⟨rfl,rfl⟩|(simp;done)
def inP (ps:List Pr)(v:Int):Bool:=ps.any fun p=>zr p.ask v||zr p.give v
def unP (ps:List Pr)(N:Nat):List Int:=((List.range N).map fun(i:Nat)=>(i:Int)).filter (inP ps)
theorem zMX (N:Nat):unP [] N= []:=by unfold unP;rw [List.filter_eq_nil_iff];intro x _;simp [inP]
theorem zER (ps:List Pr)(N:Nat):(unP ps N).length≤N:=by unfold unP;exact Nat.le_trans (List.length_filter_le _ _) (by simp)
theorem zLo {ps:List Pr}{v:Int}{i:Nat}(hi:i<ps.length)(h:zr (gp ps i).ask v=true∨zr (gp ps i).give v=true):inP ps v=true:=by
 unfold inP
 rw [List.any_eq_true]
 exact⟨_,zDR hi,by rw [Bool.or_eq_true];exact h⟩
theorem WQ {ps:List Pr}{N:Nat}{x:Int}:x∈unP ps N↔(0≤x∧x<N)∧inP ps x=true:=by
 unfold unP
 rw [List.mem_filter,List.mem_map]
 constructor
 ·rintro⟨⟨i,hi,rfl⟩,h⟩
  exact⟨⟨by omega,by have :=List.mem_range.1 hi;omega⟩,h⟩
 ·rintro⟨h1,h2⟩
  exact⟨⟨x.toNat,List.mem_range.2 (by omega),by omega⟩,h2⟩
theorem Uj (ps:List Pr)(N:Nat):(unP ps N).Pairwise (· < ·):=by
 unfold unP
 refine List.Pairwise.filter _ ?_
 rw [List.pairwise_map]
 exact List.pairwise_lt_range.imp fun h=>by omega
def unI (a b:List Int):List Int:=zz (a++qX b a)
theorem zMW (a b:List Int):(unI a b).length≤a.length+b.length:=by unfold unI;rw [xJ,List.length_append];have :=JC b a;omega
theorem zFp {a b:List Int}{x:Int}:x∈unI a b↔x∈a∨x∈b:=by
 unfold unI
 rw [(xE _).mem_iff,List.mem_append]
 unfold qX
 rw [List.mem_filter]
 constructor
 ·rintro(h|h)
  ·exact .inl h
  ·exact .inr h.1
 ·rintro(h|h)
  ·exact .inl h
  ·by_cases h2:x∈a
   ·exact .inl h2
   ·refine .inr ⟨h,?_⟩
    have :zr a x=false:=by rw [Bool.eq_false_iff];exact fun h3=>h2 ((yD a x).1 h3)
    rw [this];rfl
theorem zI2 {a b:List Int}(ha:a.Pairwise (· < ·))(hb:b.Pairwise (· < ·)):(unI a b).Pairwise (· < ·):=by
 unfold unI
 refine kO ?_
 rw [List.nodup_append]
 refine⟨JW ha,(JW hb).filter _,fun x hx y hy e=> ?_⟩
 subst e
 unfold qX at hy
 have :=(List.mem_filter.1 hy).2
 rw [(yD a x).2 hx]at this
 simp at this
theorem QX {b:List Int}{n:Int}(hs:zv b n=true){x:Int}(hx:x∈b):0≤x∧x<n:=by
 obtain⟨k,hk,rfl⟩:=zDk hx
 have h2:=xl hs hk
 unfold xp at h2
 have h3:=of_decide_eq_true h2
 exact⟨h3.1,h3.2.1⟩
theorem zKc {ps:List Pr}{n:Int}(h:vy ps n=true){k:Nat}(hk:k<ps.length):unI (unP (ps.take k) n.toNat) (unI (gp ps k).ask (gp ps k).give)=unP (ps.take (k+1)) n.toNat:=by
 obtain⟨hn,hl,hs⟩:=VQ h
 have hsk:=hs k hk
 have pa:=Ye hsk.1
 have pg:=Ye hsk.2
 refine QH (zI2 (Uj _ _) (zI2 pa pg)) (Uj _ _) fun x=> ?_
 rw [zFp,zFp,WQ,WQ]
 have e:inP (ps.take (k+1)) x=(inP (ps.take k) x||(zr (gp ps k).ask x||zr (gp ps k).give x)):=by
  unfold inP;rw [zKZ hk,List.any_append];simp
 rw [e,Bool.or_eq_true,Bool.or_eq_true,yD,yD]
 constructor
 ·rintro(h|h|h)
  ·exact⟨h.1, .inl h.2⟩
  ·have :=QX hsk.1 h;exact⟨by omega, .inr (.inl h)⟩
  ·have :=QX hsk.2 h;exact⟨by omega, .inr (.inr h)⟩
 ·rintro⟨h1,h|h|h⟩
  ·exact .inl ⟨h1,h⟩
  ·exact .inr (.inl h)
  ·exact .inr (.inr h)
def yd (ps:List Pr)(n:Int):List Int:=unP ps n.toNat
theorem zDE (ps:List Pr)(n:Int):(yd ps n).length≤n.toNat:=zER _ _
def Vm (ps:List Pr)(s:List Int):Bool:=decide ((bkN ps s ps.length).length=0)
def vW (ps:List Pr)(n:Int):Bool:=vy ps n&&decide ((yd ps n).length≤4)
def vX (ps:List Pr)(n:Int):Fm:=if vW ps n then⟨yd ps n,(yM (yd ps n)).filter (Vm ps)⟩else⟨[],[]⟩
theorem zHy {ps:List Pr}{n:Int}(h:vy ps n=false):vW ps n=false:=by unfold vW;rw [h];rfl
theorem zHz {ps:List Pr}{n:Int}(h: ¬(yd ps n).length≤4):vW ps n=false:=by unfold vW;rw [decide_eq_false h,Bool.and_false]
theorem zBJ {ps:List Pr}{n:Int}(h:vy ps n=true)(h2:(yd ps n).length≤4):vW ps n=true:=by unfold vW;rw [h,decide_eq_true h2];rfl
theorem zBH {ps:List Pr}{n:Int}(h:vW ps n=false):vX ps n=⟨[],[]⟩:=by unfold vX;rw [h];rfl
theorem Xv {ps:List Pr}{n:Int}(h:vW ps n=true):vX ps n=⟨yd ps n,(yM (yd ps n)).filter (Vm ps)⟩:=by unfold vX;rw [h];rfl
theorem zBI (ps:List Pr)(n:Int):(vX ps n).Ln 1048576:=by
 unfold vX
 split
 ·rename_i h
  unfold vW at h
  rw [Bool.and_eq_true,decide_eq_true_eq]at h
  have h4:=Yz h.2
  have h5:=Xg (yd ps n)
  refine⟨by unfold LnI;show(yd ps n).length≤_;omega,⟨Nat.le_trans (List.length_filter_le _ _) (by omega),fun r hr=> ?_⟩⟩
  obtain⟨k,hk,rfl⟩:=Kc (List.mem_filter.1 hr).1
  have :=VW (xs:=yd ps n) k
  omega
 ·exact⟨by unfold LnI;simp,by simp,by simp⟩
set_option maxRecDepth 20000 in
set_option maxHeartbeats 8000000 in
theorem zCR (ps:List Pr)(ha:PLn 1048576 ps)(n:Int):Fn Tryz.prog tyT 19 [.c (.lst 93 (dII (ilv ps))), .c (.int .i64 n)] [.agg (dFm (vX ps n)), .c (.bool (vW ps n))]:=by
 have hl:=ha.1
 have hg:=fun k=>Xy ha k
 have hga: ∀k,(gp ps k).ask.length≤1048576:=fun k=>(hg k).ask
 have hgg: ∀k,(gp ps k).give.length≤1048576:=fun k=>(hg k).give
 have hli:=xV ps
 have hA:=zEb ps ha n
 have hS:=fun h=>Kv (yd ps n) h
 unfold dFm
 refine XQ (fn:=Tryz.f19) (rs:= [.cell 4 33, .tmp 5]) zQ zN Tryz.func19 (by kernel_rfl) rfl rfl (by rw [Tryz.ntmps19];exact Nat.le_of_ble_eq_true rfl) rfl (by simp only [szA,List.mem_cons,List.not_mem_nil,or_false,forall_eq_or_imp,forall_eq,VT.cells,szL];try decide) ?_
 rw [Tryz.ntmps19]
 push_cast
 refine θA ?_
 refine zL fun K1 hK1=> ?_
 refine θL fun K hK=> ?_
 refine θD 3 ?_
 refine θE hK ?_
 refine θU (fun hc=> ?_) fun hc=> ?_
 ·
  refine θA ?_
  refine zY ⟨Or.inl rfl,?_⟩
  push_cast [zd,zt,yH]
  have h9:vW ps n=false:=zHy (by with_reducible assumption)
  rw [zBH h9,h9]
  all_goals first|exact⟨rfl,rfl⟩|rfl|(simp [dI,dII];done)
 ·
  refine zW (hK1 _ ?_)
  have hok:vy ps n=true:=by with_reducible assumption
  obtain⟨hn,hl4,hst⟩:=VQ hok
  have hnl:=zDE ps n
  have hsz: ∀k,k<ps.length→(gp ps k).ask.length≤256∧(gp ps k).give.length≤256:=fun k hk=>by have h1:=zEF (hst k hk).1 hn.1;have h2:=zEF (hst k hk).2 hn.1;omega
  have hB1: ∀k,k<ps.length→Fn Tryz.prog tyT 58 [.c (DI (gp ps k).ask), .c (DI (gp ps k).give)] [.c (DI (unI (gp ps k).ask (gp ps k).give))]:=fun k hk=>zA6 _ _ (by have :=hsz k hk;omega) (by have :=hsz k hk;omega) n (hst k hk).1
  have hB2: ∀k,k<ps.length→Fn Tryz.prog tyT 58 [.c (DI (unP (ps.take k) n.toNat)), .c (DI (unI (gp ps k).ask (gp ps k).give))] [.c (DI (unP (ps.take (k+1)) n.toNat))]:=fun k hk=>by
   rw [←zKc hok hk]
   exact zA6 _ _ (by have :=zER (ps.take k) n.toNat;omega) (by have :=zMW (gp ps k).ask (gp ps k).give;have :=hsz k hk;omega) n (Xf (Uj _ _) fun x hx=>by have :=WQ.1 hx;omega)
  refine θA ?_
  refine zL fun K2 hK2=> ?_
  refine θA ?_
  refine zV ?_
  refine zh [6,8,19,20,21,22,23,24,25,26,27,28,29,30,31,32] [] (fun(k:Nat)=> [(19, .int .i64 k),(6, .bp 6 0)]) (fun k=> [(6,[.sl 96 [] 0 (unP (ps.take k) n.toNat).length 2, .sl 97 [] 0 0 22])]) (fun k=> [(96,⟨.ex,2,dI (unP (ps.take k) n.toNat),none⟩),(97,⟨.ex,22,[],none⟩)]) (fun k=>k≤ps.length) (fun k=>ps.length - k) 0 ?_ (by omega) ?_
  ·
   rw [List.take_zero,zMX,show dI ([]:List Int)= []from rfl]
   exact θX
  ·rintro k hk KL0 hL0
   have hul:=zER (ps.take k) n.toNat
   push_cast
   refine θA ?_
   refine zL fun K3 hK3=> ?_
   refine θU (fun hc=> ?_) fun hc=> ?_
   ·
    refine zW (hK3 _ ?_)
    refine zL fun K4 hK4=> ?_
    refine zV ?_
    refine θA ?_
    refine yN false zQ zN xR ?_ rfl ?_
    ·kernel_rfl
    intro E hE
    all_goals refine yb 7 (by decide) fun K9 hK9=> ?_
    all_goals push_cast
    all_goals repeat'(first|(apply zO<;>(intro hg;push_cast at hg))|(refine⟨_,hB1 k (by omega),?_⟩;push_cast)|(refine⟨_,hB2 k (by omega),?_⟩;push_cast)|apply And.intro|(intro hg;push_cast at hg))
    all_goals first|exact gA|(exact zx (by omega))|(exact zP (by simp only [push_cast];omega))|(exact zP (by omega))|skip
    refine hK9 _ _ ?_;clear hK9 K9
    all_goals refine yb 1 (by decide) fun K9 hK9=> ?_
    all_goals push_cast
    all_goals repeat'(first|(apply zO<;>(intro hg;push_cast at hg))|(refine⟨_,hB1 k (by omega),?_⟩;push_cast)|(refine⟨_,hB2 k (by omega),?_⟩;push_cast)|apply And.intro|(intro hg;push_cast at hg))
    all_goals first|exact gA|(exact zx (by omega))|(exact zP (by simp only [push_cast];omega))|(exact zP (by omega))|skip
    refine hK9 _ _ ?_;clear hK9 K9
    all_goals push_cast
    all_goals repeat'(first|(apply zO<;>(intro hg;push_cast at hg))|(refine⟨_,hB1 k (by omega),?_⟩;push_cast)|(refine⟨_,hB2 k (by omega),?_⟩;push_cast)|apply And.intro|(intro hg;push_cast at hg))
    all_goals first|exact gA|(refine hE _ _ ?_ ?_;kernel_rfl)|(exact zx (by omega))|(exact zP (by simp only [push_cast];omega))|(exact zP (by omega))|skip
    all_goals clear hE E
    refine hK4 _ ?_
    refine yx [.sl 2, .sl 22] 6 ?_
    push_cast
    refine θB ?_
    refine hL0 _ ⟨k+1,by omega,by omega,?_⟩
    exact θX
   ·
    refine zi ?_
    have hkk:k=ps.length:=by omega
    subst hkk
    rw [List.take_length,show unP ps n.toNat=yd ps n from rfl]
    refine hK2 _ ?_
    refine zL fun K5 hK5=> ?_
    refine θA ?_
    refine θU (fun hc=> ?_) fun hc=> ?_
    ·
     refine θA ?_
     refine zY ⟨Or.inl rfl,?_⟩
     push_cast [zd,zt,yH]
     have h9:vW ps n=false:=zHz (by omega)
     rw [zBH h9,h9]
     all_goals first|exact⟨rfl,rfl⟩|rfl|(simp [dI,dII];done)
    ·
     refine zW (hK5 _ ?_)
     refine zL fun K6 hK6=> ?_
     have hn4:(yd ps n).length≤4:=by omega
     have hyes:=zBJ hok hn4
     have hsl:=Xg (yd ps n)
     have h16:=Yz hn4
     refine θL fun K hK=> ?_
     all_goals refine zj 3 fun K9 hK9=> ?_
     all_goals push_cast
     all_goals repeat'(first|(apply zO<;>(intro hg;push_cast at hg))|(refine⟨_,hS hn4,?_⟩;push_cast)|apply And.intro|(intro hg;push_cast at hg))
     all_goals first|exact gA|(exact zx (by omega))|(exact zP (by simp only [push_cast];omega))|(exact zP (by omega))|skip
     refine hK9 _ ?_;clear hK9 K9
     all_goals push_cast
     all_goals repeat'(first|(apply zO<;>(intro hg;push_cast at hg))|(refine⟨_,hS hn4,?_⟩;push_cast)|apply And.intro|(intro hg;push_cast at hg))
     all_goals first|exact gA|(exact zx (by omega))|(exact zP (by simp only [push_cast];omega))|(exact zP (by omega))|skip
     refine hK _ ?_;clear hK K
     refine zV ?_
     refine zh [6,10,42,43,44,45,46,47,48,49,50,51,52,53,54,55,56,57] [640] (fun(u:Nat×List (List Int))=> [(42, .int .i64 u.1),(6, .bp 6 0),(0, .sl 0 [] 0 ps.length 93)]) (fun u=> [(6,[.sl 96 [] 0 (yd ps n).length 2, .sl 97 [] 0 u.2.length 22])]) (fun u=> [(96,⟨.ex,2,dI (yd ps n),none⟩),(97,⟨.ex,22,dII u.2,none⟩),(640,⟨.ex,22,wd (Vm ps) (yM (yd ps n)) u.1,none⟩)]) (fun u=>u.1≤(yM (yd ps n)).length∧u.2=((yM (yd ps n)).take u.1).filter (Vm ps)) (fun u=>(yM (yd ps n)).length - u.1) (0,[]) ?_ ⟨by omega,rfl⟩ ?_
     ·
      simp only [zII,show dII ([]:List (List Int))= []from rfl]
      exact θX
     ·rintro⟨k,o⟩ ⟨hk,ho⟩ KL1 hL1
      simp only at hk ho
      have hol:o.length≤(yM (yd ps n)).length:=by rw [ho];exact zBs _ _ _
      have hrk:=VW (xs:=(yd ps n)) k
      push_cast
      refine θA ?_
      refine zL fun K7 hK7=> ?_
      refine θU (fun hc=> ?_) fun hc=> ?_
      ·
       refine zW (hK7 _ ?_)
       refine zL fun K8 hK8=> ?_
       refine zV ?_
       refine θA ?_
       refine θL fun K hK=> ?_
       all_goals refine zj 3 fun K9 hK9=> ?_
       all_goals push_cast
       all_goals repeat'(first|(apply zO<;>(intro hg;push_cast at hg))|(refine⟨_,Vj ps ha n hst (gl (yM (yd ps n)) k) (by omega),?_⟩;push_cast)|apply And.intro|(intro hg;push_cast at hg))
       all_goals first|exact gA|(exact zx (by omega))|(exact zP (by simp only [push_cast];omega))|(exact zP (by omega))|skip
       refine hK9 _ ?_;clear hK9 K9
       all_goals push_cast
       all_goals repeat'(first|(apply zO<;>(intro hg;push_cast at hg))|(refine⟨_,Vj ps ha n hst (gl (yM (yd ps n)) k) (by omega),?_⟩;push_cast)|apply And.intro|(intro hg;push_cast at hg))
       all_goals first|exact gA|(exact zx (by omega))|(exact zP (by simp only [push_cast];omega))|(exact zP (by omega))|skip
       refine hK _ ?_;clear hK K
       refine θU (fun hc=> ?_) fun hc=> ?_
       ·
        refine zc false zQ zN ?_ rfl ?_
        ·kernel_rfl
        push_cast
        all_goals repeat'(first|(apply zO<;>(intro hg;push_cast at hg))|apply And.intro|(intro hg;push_cast at hg))
        all_goals first|exact gA|(exact zx (by omega))|(exact zP (by simp only [push_cast];omega))|(exact zP (by omega))|skip
        refine hK8 _ ?_
        refine yx [.sl 2, .sl 22] 6 ?_
        push_cast
        refine θB ?_
        refine hL1 _ ⟨(k+1,o++ [gl (yM (yd ps n)) k]),⟨by simp only;omega,by simp only;rw [zBL (by omega) (decide_eq_true (by omega)),←ho]⟩,by simp only;omega,?_⟩
        (try rw [List.take_of_length_le (l:=gl (yM (yd ps n)) k) (by omega)])
        (try rw [List.take_of_length_le (l:=o) (by omega)])
        (try rw [zDU (p:=Vm ps) (by omega) (decide_eq_true (by omega))])
        simp only
        refine zX rfl ?_ ?_ ?_<;>push_cast [zf,ze]
        all_goals(try(rw [List.length_append];rfl))
       ·
        refine zW (hK8 _ ?_)
        refine yx [.sl 2, .sl 22] 6 ?_
        push_cast
        refine θB ?_
        refine hL1 _ ⟨(k+1,o),⟨by simp only;omega,by simp only;rw [zDM (by omega) (decide_eq_false (by omega)),←ho]⟩,by simp only;omega,?_⟩
        rw [zBR (p:=Vm ps) (by omega) (decide_eq_false (by omega))]
        simp only
        exact θX
        all_goals(try(rw [List.length_append];rfl))
      ·
       refine zi ?_
       have hkk:k=(yM (yd ps n)).length:=by omega
       subst hkk
       rw [List.take_length]at ho
       refine hK6 _ ?_
       refine θA ?_
       refine zY ⟨Or.inl rfl,?_⟩
       push_cast [zd,zt,yH]
       rw [Xv hyes,hyes]
       subst ho
       all_goals first|rfl|exact⟨rfl,rfl⟩|(simp;done)
theorem zKE (f:Fm)(r:List Int)(v:Int):0≤xZ f r v∧xZ f r v≤2*r.length+2:=by
 unfold xZ
 have :=zAG r v
 split<;>split<;>omega
section
variable {a:Ar} {f:Fm} {s:Int}
theorem VG (h:fgB a f s=true):fgC a f s=true∧okQ (usA a) rcF ⟨s,f.names⟩=true:=by
 unfold fgB at h
 rw [Bool.and_eq_true]at h
 exact h
theorem UC (h:fgB a f s=true):fgG a f s=gmA a rcF (prF f) ⟨s,f.names⟩ (plA a rcF ⟨s,f.names⟩).length∧fgP a f s=plA a rcF ⟨s,f.names⟩:=by
 obtain⟨h1,h2⟩:=VG h
 unfold fgG fgP gmR plR
 rw [h1,h2,Bool.and_self,if_pos rfl,if_pos rfl]
 unfold plA
 exact⟨Eq.refl _,Eq.refl _⟩
theorem zCD {p:Plc}(h:wW f p.record=true):0≤prF f p∧prF f p≤40:=by
 have h1:=(qV h).2.2.1
 have h2:=zKE f p.record p.at_
 unfold prF
 omega
theorem VH (h:fgB a f s=true):qI (fgG a f s)=true:=by
 obtain⟨h1,h2⟩:=VG h
 obtain⟨k1,k2,k3⟩:=vK h1
 rw [(UC h).1]
 exact zBO k1 k3 h2 fun p _ _ hp=>zCD hp
theorem fgC_n (h:fgC a f s=true):xg f a.owner.length=true:=by
 unfold fgC at h
 rw [Bool.and_eq_true,Bool.and_eq_true]at h
 have h2:=h.2.1
 unfold Qk at h2
 rw [Bool.and_eq_true]at h2
 exact h2.2
end
noncomputable def wiB (x:L7)(n:Nat)(M:List Bool)(who:Int)(v:Nat):Bool:=gb M v&&(gb (yh x n (n+1) M) v==(who==0))
noncomputable def wiM (x:L7)(n:Nat)(M:List Bool)(who:Int):List Bool:=ym n (wiB x n M who)
theorem Wa (x:L7)(n:Nat)(M:List Bool)(who:Int):(wiM x n M who).length=n:=vY _ _
structure WnI (x:L7)(n:Nat)(M:List Bool)(who:Int)(now:List Bool):Prop where
 len:now.length=n
 sub: ∀v,inD n now v→inD n M v
 live:wE (pgL x) (inD n now)
 whoW: ∀U m,xt (pgL x) who (inD n now) U m→xt (pgL x) who (inD n M) U m
 oppW: ∀U m,xt (pgL x) (1 - who) (inD n now) U m→∃s,xt (pgL x) (1 - who) (inD n M) (fun v=>U v∨(inD n M v∧¬inD n now v)) s
section
variable {x:L7} {n:Nat}
theorem WnI.start {M:List Bool}{who:Int}(hM:M.length=n)(hl:wE (pgL x) (inD n M)):WnI x n M who M:=
 ⟨hM,fun v h=>h,hl,fun U m h=>h,fun U m h=>⟨m,yU h (fun v=>Iff.rfl) fun v=>⟨fun h=> .inl h,fun h=>h.resolve_right fun h2=>h2.2 h2.1⟩⟩⟩
theorem zAn (hx:x.Ok n){M:List Bool}(hM:M.length=n)(hl:wE (pgL x) (inD n M)){who:Int}(hw:who=0∨who=1):
  (∃s,xt (pgL x) who (inD n M) (fun v=>inD n M v∧gb (yh x n (n+1) M) v=(who==0)) s)∧∃s,xt (pgL x) (1 - who) (inD n M) (fun v=>inD n M v∧gb (yh x n (n+1) M) v= !(who==0)) s:=by
 obtain⟨h0,h1⟩:=jl hx (n+1) M hM (Nat.lt_succ_of_le (Qi _ _)) hl
 rcases hw with rfl|rfl
 ·exact⟨h0,h1⟩
 ·exact⟨h1,h0⟩
theorem zGC (hx:x.Ok n){M:List Bool}(hM:M.length=n)(hl:wE (pgL x) (inD n M)){who:Int}(hw:who=0∨who=1){U:Nat→Prop}{s t:Nat→Nat}
  (h1:xt (pgL x) who (inD n M) U s) (h2:xt (pgL x) (1 - who) (inD n M) (fun v=>inD n M v∧¬U v) t) {v:Nat} (hv:inD n M v):wiB x n M who v=true↔U v:=by
 obtain⟨⟨a,ha⟩,⟨b,hb⟩⟩:=zAn hx hM hl hw
 have key: ∀{A B:Nat→Prop} {c d:Nat→Nat},xt (pgL x) who (inD n M) A c→xt (pgL x) (1 - who) (inD n M) B d→A v→B v→False:=fun{A B c d} p q e f=>by
  rcases hw with rfl|rfl
  ·exact Jk (fun v h=>h.1) (JS hx) p q v e f
  ·exact Jk (fun v h=>h.1) (JS hx) q p v f e
 unfold wiB
 rw [hv.2,Bool.true_and,beq_iff_eq]
 constructor
 ·intro h
  exact Classical.byContradiction fun hn=>key ha h2 ⟨hv,h⟩ ⟨hv,hn⟩
 ·intro h
  cases hc:gb (yh x n (n+1) M) v==(who==0)
  ·exfalso
   refine key h1 hb h ⟨hv,?_⟩
   have h9: ¬gb (yh x n (n+1) M) v=(who==0):=fun e=>by rw [beq_iff_eq.2 e]at hc;cases hc
   cases hq:gb (yh x n (n+1) M) v<;>cases hq2:(who==0)<;>first|rfl|(exfalso;rw [hq,hq2]at h9;exact h9 rfl)
  ·exact beq_iff_eq.1 hc
theorem zK1 (hx:x.Ok n){M:List Bool}(hM:M.length=n)(hl:wE (pgL x) (inD n M)){who:Int}(hw:who=0∨who=1){now:List Bool}(hn:now.length=n)(hsub: ∀v,inD n now v→inD n M v){s t:Nat→Nat}
  (h1:xt (pgL x) who (inD n M) (inD n now) s) (h2:xt (pgL x) (1 - who) (inD n M) (fun v=>inD n M v∧¬inD n now v) t):now=wiM x n M who:=by
 refine ZM (by rw [Wa];exact hn) fun v hv=> ?_
 rw [hn]at hv
 unfold wiM
 rw [yf hv,Bool.eq_iff_iff]
 constructor
 ·intro h
  exact(zGC hx hM hl hw h1 h2 (hsub v ⟨hv,h⟩)).2 ⟨hv,h⟩
 ·intro h
  have h5:=h
  unfold wiB at h5
  rw [Bool.and_eq_true]at h5
  exact((zGC hx hM hl hw h1 h2 ⟨hv,h5.1⟩).1 h).2
theorem WnI.rest {M:List Bool}{who:Int}{now goal:List Bool}(hx:x.Ok n)(h:WnI x n M who now):(yT now (yk x n now who goal)).length=n∧wE (pgL x) (inD n (yT now (yk x n now who goal))):=by
 refine⟨by rw [qH];exact h.len,?_⟩
 have :=VM (who:=who) (goal:=fun v=>gb goal v=true) (jc hx) h.live
 rw [show inD n (yT now (yk x n now who goal))=_ from funext fun v=>propext (WV h.len v)]
 exact this
theorem WnI.all {M:List Bool}{who:Int}{now goal lost:List Bool}{top:Int}(hx:x.Ok n)(hM:M.length=n)(hl:wE (pgL x) (inD n M))(h:WnI x n M who now)(ht:0≤top)(hwho:top%2=who)(htop: ∀v,inD n M v→gi x.prio v≤top)
  (hgoal:goal=ym n (xU x now top)) {rest:List Bool} (hrest:rest=yT now (yk x n now who goal)) (hlost: ∀v,v<n→gb lost v=yY rest (yh x n (n+1) rest) who v) (hno: ∀v,v<n→gb lost v=false):now=wiM x n M who:=by
 have hw:who=0∨who=1:=by omega
 obtain⟨hrl,hrv⟩:=h.rest (goal:=goal) hx
 rw [←hrest]at hrl hrv
 obtain⟨⟨s,hs⟩,-⟩:=zAn hx hrl hrv hw
 have hD: ∀v,inD n rest v↔inD n now v∧¬Att (pgL x) who (inD n now) (fun v=>(pgL x).pr v=top.toNat) v:=fun v=>by
  rw [hrest,WV h.len v]
  have :Att (pgL x) who (inD n now) (fun v=>gb goal v=true) v↔Att (pgL x) who (inD n now) (fun v=>(pgL x).pr v=top.toNat) v:=Qg (fun u hu=>by
   rw [hgoal,yf hu.1]
   unfold xU
   rw [hu.2,Bool.true_and,beq_iff_eq]
   have :=hx.pr u hu.1
   show _↔(gi x.prio u).toNat=top.toNat
   omega) v
  rw [this]
 have hall: ∀v,inD n rest v→gb (yh x n (n+1) rest) v=(who==0):=fun v hv=>by
  have h1:=hno v hv.1
  rw [hlost v hv.1]at h1
  unfold yY at h1
  rw [hv.2,Bool.true_and]at h1
  cases hq:gb (yh x n (n+1) rest) v<;>cases hq2:(who==0)<;>first|rfl|(exfalso;rw [hq,hq2]at h1;cases h1)
 obtain⟨s',hs'⟩:=zGG (g:=pgL x) (who:=who) (D:=inD n now) (top:=top.toNat) (jc hx) h.live (fun v hv=>by
  have :=htop v (h.sub v hv)
  show(gi x.prio v).toNat≤top.toNat
  omega) (by omega) (s:=s) (yU hs hD fun v=>⟨fun h5=>(hD v).1 h5.1,fun h5=>⟨(hD v).2 h5,hall v ((hD v).2 h5)⟩⟩)
 obtain⟨t0,ht0⟩:=ZA (pgL x) (1 - who) (inD n now) (fun _=>False) (fun v h=>h)
 obtain⟨t,ht1⟩:=h.oppW _ _ ht0
 exact zK1 hx hM hl hw h.len h.sub (h.whoW _ _ hs') (yU ht1 (fun v=>Iff.rfl) fun v=>⟨fun h5=>h5.resolve_left id,fun h5=> .inr h5⟩)
theorem WnI.none {M:List Bool}{who:Int}{now:List Bool}(hx:x.Ok n)(hM:M.length=n)(hl:wE (pgL x) (inD n M))(hw:who=0∨who=1)(h:WnI x n M who now)(hno: ∀v,v<n→gb now v=false):now=wiM x n M who:=by
 have hn: ∀v,¬inD n now v:=fun v hv=>by rw [inD,hno v hv.1]at hv;cases hv.2
 obtain⟨t0,ht0⟩:=ZA (pgL x) (1 - who) (inD n now) (fun _=>False) (fun v h=>h)
 obtain⟨t,ht1⟩:=h.oppW _ _ ht0
 obtain⟨s,hs⟩:=ZA (pgL x) who (inD n M) (inD n now) hn
 exact zK1 hx hM hl hw h.len h.sub hs (yU ht1 (fun v=>Iff.rfl) fun v=>⟨fun h5=>h5.resolve_left id,fun h5=> .inr h5⟩)
theorem WnI.next {M:List Bool}{who:Int}{now goal lost:List Bool}(hx:x.Ok n)(hw:who=0∨who=1)(h:WnI x n M who now){rest:List Bool}(hrest:rest=yT now (yk x n now who goal))(hlost: ∀v,v<n→gb lost v=yY rest (yh x n (n+1) rest) who v):WnI x n M who (yT now (yk x n now (1 - who) lost)):=by
 obtain⟨hrl,hrv⟩:=h.rest (goal:=goal) hx
 rw [←hrest]at hrl hrv
 obtain⟨-,⟨s,hs⟩⟩:=zAn hx hrl hrv hw
 have ho2: ∀v,(pgL x).own v=who∨(pgL x).own v=1 - who:=fun v=>by have :=JS hx v;omega
 have hL: ∀v,inD n rest v∧gb (yh x n (n+1) rest) v=(!(who==0))↔v<n∧gb lost v=true:=fun v=>by
  constructor
  ·rintro⟨⟨a,b⟩,c⟩
   refine⟨a,?_⟩
   rw [hlost v a]
   unfold yY
   rw [b,c]
   cases(who==0)<;>rfl
  ·rintro⟨a,b⟩
   rw [hlost v a]at b
   unfold yY at b
   rw [Bool.and_eq_true]at b
   refine⟨⟨a,b.1⟩,?_⟩
   have :=b.2
   cases hq:gb (yh x n (n+1) rest) v<;>cases hq2:(who==0)<;>first|rfl|(rw [hq,hq2]at this;cases this)
 have hcg: ∀v,Att (pgL x) (1 - who) (inD n now) (fun v=>gb lost v=true) v↔Att (pgL x) (1 - who) (inD n now) (fun v=>v<n∧gb lost v=true) v:=Qg fun v hv=>⟨fun e=>⟨hv.1,e⟩,fun e=>e.2⟩
 have hD: ∀v,inD n (yT now (yk x n now (1 - who) lost)) v↔inD n now v∧¬Att (pgL x) (1 - who) (inD n now) (fun v=>v<n∧gb lost v=true) v:=fun v=>by rw [WV h.len v,hcg v]
 refine⟨by rw [qH];exact h.len,fun v hv=>h.sub v ((hD v).1 hv).1,?_,fun U m hU=> ?_,fun U m hU=> ?_⟩
 ·have :=VM (who:=1 - who) (goal:=fun v=>v<n∧gb lost v=true) (jc hx) h.live
  rw [show inD n (yT now (yk x n now (1 - who) lost))=_ from funext fun v=>propext (hD v)]
  exact this
 ·exact h.whoW U m (zAs ho2 (yU hU hD fun v=>Iff.rfl))
 ·obtain⟨s',hs'⟩:=zAr (g:=pgL x) (who:=who) (opp:=1 - who) (D:=inD n now) (goal:=fun v=>gb goal v=true) ho2 (by omega) (L:=fun v=>v<n∧gb lost v=true) (M:=U) (s:=s) (m:=m) (yU hs (fun v=>by rw [hrest];exact WV h.len v) hL) (yU hU hD fun v=>Iff.rfl)
  obtain⟨t,ht⟩:=h.oppW _ _ hs'
  refine⟨t,yU ht (fun v=>Iff.rfl) fun v=> ?_⟩
  constructor
  ·rintro((h5|h5)|⟨h5,h6⟩)
   ·exact .inl h5
   ·exact .inr ⟨h.sub v h5.inD,fun h7=>((hD v).1 h7).2 h5⟩
   ·exact .inr ⟨h5,fun h7=>h6 ((hD v).1 h7).1⟩
  ·rintro(h5|⟨h5,h6⟩)
   ·exact .inl (.inl h5)
   ·by_cases h7:inD n now v
    ·exact .inl (.inr (Classical.byContradiction fun h8=>h6 ((hD v).2 ⟨h7,h8⟩)))
    ·exact .inr ⟨h5,h7⟩
theorem zIU {rest:List Bool}{who:Int}{v:Nat}(hl:rest.length=n)(hv:v<n):gb (yT rest (wiM x n rest who)) v=yY rest (yh x n (n+1) rest) who v:=by
 rw [qx (by omega)]
 unfold wiM yY
 rw [yf hv]
 unfold wiB
 cases gb rest v<;>cases gb (yh x n (n+1) rest) v<;>cases(who==0)<;>rfl
theorem zGu {rest:List Bool}{who:Int}{v:Nat}(hw:who=0∨who=1)(hv:v<n):gb (wiM x n rest (1 - who)) v=yY rest (yh x n (n+1) rest) who v:=by
 unfold wiM yY
 rw [yf hv]
 unfold wiB
 rcases hw with rfl|rfl<;>cases gb rest v<;>cases gb (yh x n (n+1) rest) v<;>rfl
theorem WnI.lt {M:List Bool}{who:Int}{now lost goal rest:List Bool}(h:WnI x n M who now)(hrest:rest=yT now (yk x n now who goal))(hlost: ∀v,v<n→gb lost v=yY rest (yh x n (n+1) rest) who v)(hsome: ∃v,v<n∧gb lost v=true):xC (yT now (yk x n now (1 - who) lost)) n<xC now n:=by
 obtain⟨v,hv,h1⟩:=hsome
 refine QW h.len hv ?_ h1
 rw [hlost v hv]at h1
 unfold yY at h1
 rw [Bool.and_eq_true,hrest,qx (by rw [h.len];exact hv),Bool.and_eq_true]at h1
 exact h1.1.1
end
end Go.Proofs.YthepmdkpbjfdcaaGreat
