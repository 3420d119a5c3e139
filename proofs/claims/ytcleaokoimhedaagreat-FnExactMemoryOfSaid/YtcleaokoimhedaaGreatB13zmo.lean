/- records of pairs: right records; both sides -/
import Derived.Test.YtcleaokoimhedaaGreatB12zmo
import Derived.Test.YtcleaokoimhedaaGreatB11zmo
import Derived.Test.YtcleaokoimhedaaGreatB8zmo
namespace Go.Proofs.YtcleaokoimhedaaGreat
open Go.RowKit
set_option linter.unusedVariables false
set_option linter.unusedSimpArgs false
theorem zFG {s:List Int}{x:Int}:yI s x=true↔∃j,j<s.length∧gi s j=x:=by
 unfold yI
 rw [decide_eq_true_eq]
 constructor
 ·intro h;exact⟨_,h,zHJ h⟩
 ·rintro⟨j,hj,e⟩
  rcases Nat.lt_or_ge (vH s x) s.length with h|h
  ·exact h
  ·exact absurd e (zEQ (by have :=zE9 s x;omega))
theorem zKR {s:List Int}{j k:Nat}(h:j<k):gi (s.take k) j=gi s j:=by
 unfold gi
 rw [List.getD_eq_getElem?_getD,List.getD_eq_getElem?_getD,List.getElem?_take_of_lt h]
def jh (r:List Int)(n:Int)(i:Nat):Bool:=decide (0≤gi r i∧gi r i<n)&& !yI (r.take i) (gi r i)
def vZ (r:List Int)(n:Int):Bool:=decide ((0≤n∧n≤4)∧(r.length:Int)=n)&&Za r.length (jh r n)
theorem zH7 {r:List Int}{n:Int}{i:Nat}(h:0≤gi r i∧gi r i<n)(h2:yI (r.take i) (gi r i)=false):jh r n i=true:=by unfold jh;rw [decide_eq_true h,h2];rfl
theorem zJ0 {r:List Int}{n:Int}{i:Nat}(h:jh r n i=true):(0≤gi r i∧gi r i<n)∧yI (r.take i) (gi r i)=false:=by
 unfold jh at h
 rw [Bool.and_eq_true,decide_eq_true_eq,Bool.not_eq_true']at h
 exact h
theorem zJ1 {r:List Int}{n:Int}(h:(0≤n∧n≤4)∧(r.length:Int)=n)(h2: ∀i,i<r.length→jh r n i=true):vZ r n=true:=by unfold vZ;rw [decide_eq_true h,wn h2];rfl
theorem xB {r:List Int}{n:Int}(h:vZ r n=true):((0≤n∧n≤4)∧(r.length:Int)=n)∧∀i,i<r.length→(0≤gi r i∧gi r i<n)∧∀j,j<i→gi r j≠gi r i:=by
 unfold vZ at h
 rw [Bool.and_eq_true,decide_eq_true_eq]at h
 refine⟨h.1,fun i hi=> ?_⟩
 have h1:=zJ0 (va h.2 hi)
 refine⟨h1.1,fun j hj e=> ?_⟩
 have h2:yI (r.take i) (gi r i)=true:=zFG.2 ⟨j,by rw [List.length_take];omega,by rw [zKR hj];exact e⟩
 rw [h1.2]at h2
 cases h2
def gvP (ps:List Pr)(v x:Int):Bool:=yI (gp ps x.toNat).give v
def nxL (ps:List Pr)(r:List Int)(v:Int):List Int:=nrF ps r v r.length++nrR ps r v r.length
theorem zKj {r:List Int}{k:Nat}(h:k<r.length):r.take (k+1)=r.take k++ [gi r k]:=by
 rw [List.take_succ_eq_append_getElem h]
 unfold gi
 rw [List.getD_eq_getElem?_getD,List.getElem?_eq_getElem h]
 rfl
theorem zDU (ps:List Pr)(r:List Int)(v:Int): ∀k,k≤r.length→nrF ps r v k=(r.take k).filter (gvP ps v)
 |0,_=>by rw [List.take_zero];rfl
 |k+1,h=>by
  have ih:=zDU ps r v k (by omega)
  rw [zKj (by omega),List.filter_append]
  cases hb:gvB ps r v k with
  |true=>rw [ja hb,ih,List.filter_cons,if_pos (show gvP ps v (gi r k)=true from hb)];rfl
  |false=>rw [UP hb,ih,List.filter_cons,if_neg (show ¬gvP ps v (gi r k)=true from (by rw [show gvP ps v (gi r k)=false from hb];decide))];simp
theorem zDV (ps:List Pr)(r:List Int)(v:Int): ∀k,k≤r.length→nrR ps r v k=(r.take k).filter (fun x=> !gvP ps v x)
 |0,_=>by rw [List.take_zero];rfl
 |k+1,h=>by
  have ih:=zDV ps r v k (by omega)
  rw [zKj (by omega),List.filter_append]
  cases hb:gvB ps r v k with
  |true=>rw [jb hb,ih,List.filter_cons,if_neg (show ¬(!gvP ps v (gi r k))=true from (by rw [show gvP ps v (gi r k)=true from hb];decide))];simp
  |false=>rw [UQ hb,ih,List.filter_cons,if_pos (show(!gvP ps v (gi r k))=true from (by rw [show gvP ps v (gi r k)=false from hb];rfl))];rfl
theorem zNh (ps:List Pr)(r:List Int)(v:Int):nxL ps r v=r.filter (gvP ps v)++r.filter (fun x=> !gvP ps v x):=by
 unfold nxL
 rw [zDU ps r v _ (Nat.le_refl _),zDV ps r v _ (Nat.le_refl _),List.take_length]
theorem zJh (ps:List Pr)(r:List Int)(v:Int):(nxL ps r v).Perm r:=by
 rw [zNh]
 exact List.filter_append_perm _ _
theorem zLS {r:List Int}{i:Nat}(h:i<r.length):gi r i∈r:=by
 unfold gi
 rw [List.getD_eq_getElem?_getD,List.getElem?_eq_getElem h]
 exact List.getElem_mem h
theorem zLj {r:List Int}{x:Int}(h:x∈r): ∃i,i<r.length∧gi r i=x:=by
 obtain⟨i,hi,e⟩:=List.mem_iff_getElem.1 h
 refine⟨i,hi,?_⟩
 unfold gi
 rw [List.getD_eq_getElem?_getD,List.getElem?_eq_getElem hi]
 exact e
theorem jN {r:List Int}{i:Nat}(h:i<r.length):gi r i=r[i]:=by
 unfold gi
 rw [List.getD_eq_getElem?_getD,List.getElem?_eq_getElem h]
 rfl
theorem zH8 {r:List Int}{n:Int}(h:vZ r n=true):((0≤n∧n≤4)∧(r.length:Int)=n)∧(∀x∈r,0≤x∧x<n)∧r.Nodup:=by
 have hf:=xB h
 refine⟨hf.1,fun x hx=> ?_,?_⟩
 ·obtain⟨i,hi,rfl⟩:=zLj hx
  exact(hf.2 i hi).1
 ·rw [List.Nodup,List.pairwise_iff_getElem]
  intro i j hi hj hij
  rw [←jN hi,←jN hj]
  exact(hf.2 j hj).2 i hij
theorem zH9 {r:List Int}{n:Int}(h1:(0≤n∧n≤4)∧(r.length:Int)=n)(h2: ∀x∈r,0≤x∧x<n)(h3:r.Nodup):vZ r n=true:=by
 refine zJ1 h1 fun i hi=>zH7 (h2 _ (zLS hi)) ?_
 cases hb:yI (r.take i) (gi r i)with
 |false=>rfl
 |true=>
  obtain⟨j,hj,e⟩:=zFG.1 hb
  rw [List.length_take]at hj
  rw [zKR (by omega),jN (by omega),jN hi]at e
  have :=(List.pairwise_iff_getElem.1 h3) j i (by omega) hi (by omega)
  exact absurd e this
theorem uG {ps:List Pr}{r:List Int}{n v:Int}(h:vZ r n=true):vZ (nxL ps r v) n=true:=by
 have hf:=zH8 h
 have hp:=zJh ps r v
 refine zH9 ⟨hf.1.1,?_⟩ (fun x hx=>hf.2.1 x (hp.mem_iff.1 hx)) (hp.nodup_iff.2 hf.2.2)
 rw [hp.length_eq]
 exact hf.1.2
def vl (ps:List Pr)(r:List Int)(v:Int):Int:=prV (akI ps r v r.length) (gvI ps r v r.length)
theorem zJt (ps:List Pr)(r:List Int)(v:Int): -1<vl ps r v∧vl ps r v≤2*r.length:=by
 have h1:=uh ps r v r.length
 have h2:=UD ps r v r.length
 unfold vl prV
 split
 ·omega
 ·split<;>omega
attribute [irreducible] nxL vl
def zW (k:Nat):List Int:=(List.range k).map Int.ofNat
theorem zHd (k:Nat):zW (k+1)=zW k++ [(k:Int)]:=by unfold zW;rw [List.range_succ,List.map_append];rfl
theorem JI (k:Nat):(zW k).length=k:=by simp [zW]
theorem zJH {k:Nat}(h:k≤4):vZ (zW k) (k:Int)=true:=by
 refine zH9 ⟨⟨by omega,by omega⟩,by rw [JI]⟩ (fun x hx=> ?_) ?_
 ·unfold zW at hx
  obtain⟨j,hj,rfl⟩:=List.mem_map.1 hx
  have :=List.mem_range.1 hj
  show 0≤(j:Int)∧(j:Int)<k
  omega
 ·unfold zW
  rw [List.Nodup,List.pairwise_map]
  exact List.Pairwise.imp (fun{a b} h e=>h (Int.ofNat.inj e)) List.nodup_range
def rcR (ps:List Pr)(p:Plc):List Int:=nxL ps p.record p.at_
def prR (ps:List Pr)(p:Plc):Int:=vl ps p.record p.at_
def rgC (a:Ar)(ps:List Pr)(s:Int):Bool:=yi a&&(arB ps a.owner.length&&decide (0≤s∧s≤(a.owner.length:Int) - 1))
def rgB (a:Ar)(ps:List Pr)(s:Int):Bool:=rgC a ps s&&okQ (usA a) (rcR ps) ⟨s,zW ps.length⟩
def rgG (a:Ar)(ps:List Pr)(s:Int):Pa:=gmR a (rcR ps) (prR ps) ⟨s,zW ps.length⟩ (rgC a ps s)
def rgP (a:Ar)(ps:List Pr)(s:Int):List Plc:=plR a (rcR ps) ⟨s,zW ps.length⟩ (rgC a ps s)
theorem zMn {ps:List Pr}{n:Int}(h:arB ps n=true):ps.length≤4:=by
 unfold arB at h
 rw [Bool.and_eq_true,decide_eq_true_eq]at h
 exact h.1
theorem xz {a:Ar}{ps:List Pr}{s:Int}(h:rgC a ps s=true):yi a=true∧ps.length≤4∧Wr a (rcR ps) ⟨s,zW ps.length⟩ (fun r=>vZ r ps.length=true) 4:=by
 unfold rgC at h
 rw [Bool.and_eq_true,Bool.and_eq_true,decide_eq_true_eq]at h
 obtain⟨h1,h2,h3⟩:=h
 have h4:=zMn h2
 exact⟨h1,h4,⟨⟨h3.1,by show s<_;omega,zJH h4⟩,fun p _ _ h=>uG h,fun r hr=>by have :=(xB hr).1;omega⟩⟩
theorem zFc {a:Ar}{ps:List Pr}{s:Int}:(rgG a ps s).Ln 1048576:=zNK (V:=fun r=>vZ r ps.length=true) (B:=4) fun h=>⟨(xz h).1,(xz h).2.2⟩
theorem zFd {a:Ar}{ps:List Pr}{s:Int}:QLn 1048576 (rgP a ps s):=zNk (V:=fun r=>vZ r ps.length=true) (B:=4) (by decide) fun h=>⟨(xz h).1,(xz h).2.2⟩
theorem zNs {a:Ar}{ps:List Pr}{s:Int}(h:rgC a ps s=false):rgB a ps s=false∧rgG a ps s=⟨⟨[],[]⟩,[]⟩∧rgP a ps s= []:=by
 have :(rgC a ps s&&okQ (usA a) (rcR ps) ⟨s,zW ps.length⟩)=false:=by rw [h];rfl
 exact⟨this,zC6 this,zDb this⟩
theorem zIC {a:Ar}{ps:List Pr}{s:Int}(h:okQ (usA a) (rcR ps) ⟨s,zW ps.length⟩=false):rgB a ps s=false∧rgG a ps s=⟨⟨[],[]⟩,[]⟩∧rgP a ps s= []:=by
 have :(rgC a ps s&&okQ (usA a) (rcR ps) ⟨s,zW ps.length⟩)=false:=by rw [h,Bool.and_false]
 exact⟨this,zC6 this,zDb this⟩
theorem zFY {a:Ar}{ps:List Pr}{s:Int}(h:yi a=false):rgC a ps s=false:=by unfold rgC;rw [h];rfl
theorem zFZ {a:Ar}{ps:List Pr}{s:Int}(h:arB ps a.owner.length=false):rgC a ps s=false:=by unfold rgC;rw [h,Bool.false_and,Bool.and_false]
theorem zFa {a:Ar}{ps:List Pr}{s:Int}(h: ¬(0≤s∧s≤(a.owner.length:Int) - 1)):rgC a ps s=false:=by unfold rgC;rw [decide_eq_false h,Bool.and_false,Bool.and_false]
theorem zFb {a:Ar}{ps:List Pr}{s:Int}(h1:yi a=true)(h2:arB ps a.owner.length=true)(h3:0≤s∧s≤(a.owner.length:Int) - 1):rgC a ps s=true:=by unfold rgC;rw [h1,h2,decide_eq_true h3];rfl
open Nat renaming reduceMod → zA, reduceMul → zB, reduceDiv → zC, reduceAdd → zD, reduceSub → zE, reduceEqDiff → zF, reduceBEq → zG, reduceLT → zH, reduceLeDiff → zI
set_option maxRecDepth 20000 in
set_option maxHeartbeats 4000000 in
theorem zGL (ps:List Pr)(ha:PLn 1048576 ps)(r:List Int)(hr:r.length≤1048576)(hrr: ∀i,i<r.length→0≤gi r i∧gi r i<(ps.length:Int))(v:Int):Fn Tryz.prog tyT 24 [.c (.lst 64 (dII (ilv ps))), .c (DI r), .c (.int .i64 v)] [.c (DI (nrF ps r v r.length++nrR ps r v r.length))]:=by
 have hl:=ha.1
 have hg:=fun k=>Xt ha k
 have hgg: ∀k,(gp ps k).give.length≤1048576:=fun k=>(hg k).give
 have hli:=yq ps
 have hnl:=zDW ps r v
 refine θH (ts:= [6]) Tryz.func24 Tryz.ntmps24 ?_
 push_cast
 refine θA ?_
 refine θA ?_
 refine θA ?_
 refine zL fun K1 hK1=> ?_
 refine θA ?_
 refine zV ?_
 refine zg [7,8,9,12,13,14,15,16,17,18,19,20,21,22,23,24,25,26,27,28,29,30,31,32,33,34,35,36,37,38,39,40,41] [112,128] (fun(k:Nat)=> [(9, .int .i64 k),(7, .sl 112 [] 0 (nrF ps r v k).length 2),(8, .sl 128 [] 0 (nrR ps r v k).length 2)]) (fun k=> []) (fun k=> [(112,⟨.ex,2,dI (nrF ps r v k),none⟩),(128,⟨.ex,2,dI (nrR ps r v k),none⟩)]) (fun k=>k≤r.length) (fun k=>r.length - k) 0 ?_ (by omega) ?_
 ·
  rw [show nrF ps r v 0= []from rfl,show nrR ps r v 0= []from rfl,show dI ([]:List Int)= []from rfl]
  exact θX
 ·rintro k hk KL0 hL0
  push_cast
  refine zL fun K2 hK2=> ?_
  refine θA ?_
  refine θU (fun hc=> ?_) fun hc=> ?_
  ·
   refine zU (hK2 _ ?_)
   refine zL fun K3 hK3=> ?_
   refine zV ?_
   have hrk:=hrr k (by omega)
   have hnk:=hnl k
   refine θL fun K hK=> ?_
   all_goals refine zm 10 fun K9 hK9=> ?_
   all_goals push_cast
   all_goals repeat'(first|(apply zP<;>(intro hg;push_cast at hg))|(refine⟨_,wG (gp ps (gi r k).toNat).give v (hgg _),?_⟩;push_cast)|apply And.intro|(intro hg;push_cast at hg))
   all_goals first|exact gA|(exact zQ (by simp only [push_cast];omega))|(exact zQ (by omega))|skip
   refine hK9 _ ?_;clear hK9 K9
   all_goals push_cast
   all_goals repeat'(first|(apply zP<;>(intro hg;push_cast at hg))|(refine⟨_,wG (gp ps (gi r k).toNat).give v (hgg _),?_⟩;push_cast)|apply And.intro|(intro hg;push_cast at hg))
   all_goals first|exact gA|(exact zQ (by simp only [push_cast];omega))|(exact zQ (by omega))|skip
   refine hK _ ?_;clear hK K
   refine θU (fun hc=> ?_) fun hc=> ?_
   ·
    refine θB ?_
    refine hK3 _ ?_
    refine θB ?_
    refine hL0 _ ⟨k+1,by omega,by omega,?_⟩
    rw [ja (by unfold gvB;with_reducible assumption),jb (by unfold gvB;with_reducible assumption)]
    refine zY rfl ?_ ?_ ?_<;>push_cast [zb,za]
    all_goals(try(rw [List.length_append];rfl))
   ·
    refine θB ?_
    refine hK3 _ ?_
    refine θB ?_
    refine hL0 _ ⟨k+1,by omega,by omega,?_⟩
    rw [UP (by unfold gvB;with_reducible assumption),UQ (by unfold gvB;with_reducible assumption)]
    refine zY rfl ?_ ?_ ?_<;>push_cast [zb,za]
    all_goals(try(rw [List.length_append];rfl))
  ·
   refine zh ?_
   have hkk:k=r.length:=by omega
   subst hkk
   have hnk9:=hnl r.length
   refine hK1 _ ?_
   refine θA ?_
   refine zZ ⟨Or.inl rfl,?_⟩
   push_cast [zd]
   first|exact List.length_append.symm|exact⟨rfl,List.length_append.symm⟩|skip
theorem Vm (ps:List Pr)(ha:PLn 1048576 ps)(r:List Int)(v:Int)(h:vZ r ps.length=true):Fn Tryz.prog tyT 24 [.c (.lst 64 (dII (ilv ps))), .c (DI r), .c (.int .i64 v)] [.c (DI (nxL ps r v))]:=by
 have hf:=xB h
 have h1:=zGL ps ha r (by omega) (fun i hi=>(hf.2 i hi).1) v
 unfold nxL
 exact h1
theorem zES (ps:List Pr)(ha:PLn 1048576 ps)(r:List Int)(v:Int)(h:vZ r ps.length=true):Fn Tryz.prog tyT 47 [.c (.lst 64 (dII (ilv ps))), .c (DI r), .c (.int .i64 v)] [.c (.int .i64 (vl ps r v))]:=by
 have hf:=xB h
 have h1:=zGM ps ha r (by omega) (fun i hi=>(hf.2 i hi).1) v
 unfold vl
 exact h1
theorem kL (ps:List Pr)(ha:PLn 1048576 ps)(r:List Int)(v:Int)(h:vZ r ps.length=true):Fn Tryz.prog tyT 56 [.c (.lst 64 (dII (ilv ps))), .c (DI r), .c (.int .i64 v)] [.c (DI (nxL ps r v))]:=by
 have hf:=xB h
 have h1:=zEZ ps ha r (by omega) (fun i hi=>(hf.2 i hi).1) v
 unfold nxL
 exact h1
theorem zEi (ps:List Pr)(ha:PLn 1048576 ps)(r:List Int)(v:Int)(h:vZ r ps.length=true):Fn Tryz.prog tyT 58 [.c (.lst 64 (dII (ilv ps))), .c (DI r), .c (.int .i64 v)] [.c (.int .i64 (vl ps r v))]:=by
 have hf:=xB h
 have h1:=zEh ps ha r (by omega) (fun i hi=>(hf.2 i hi).1) v
 unfold vl
 exact h1
set_option maxRecDepth 20000 in
set_option maxHeartbeats 8000000 in
theorem zCD (a:Ar)(ha:a.Ln 1048576)(ps:List Pr)(hp:PLn 1048576 ps)(s:Int):Fn Tryz.prog tyT 20 [.agg (dAr a), .c (.lst 64 (dII (ilv ps))), .c (.int .i64 s)] [.agg (dPa (rgG a ps s)), .c (.lst 59 (xF (rgP a ps s))), .c (.bool (rgB a ps s))]:=by
 have hno:=ha.owner
 have hnn:=ha.next.1
 have hrr: ∀v,(gl a.next v).length≤1048576:=fun v=>Xs ha.next v
 unfold LnI at hno
 have hA:=ju a ha
 have hF:=zED ps hp (a.owner.length:Int)
 have hI:=xJ s 0 ((a.owner.length:Int) - 1)
 have hpl0:=hp.1
 have hli:=yq ps
 unfold dAr at hA
 unfold dAr dPa
 refine qm (fn:=Tryz.f20) (rs:= [.cell 6 50, .tmp 7, .tmp 8]) zO zN Tryz.func20 (by kernel_rfl) rfl rfl (by rw [Tryz.ntmps20];exact Nat.le_of_ble_eq_true rfl) rfl (by simp only [szA,List.mem_cons,List.not_mem_nil,or_false,forall_eq_or_imp,forall_eq,VT.cells,szL];try decide) ?_
 rw [Tryz.ntmps20]
 push_cast [↓zK,↓zJ]
 refine θA ?_
 refine θA ?_
 refine zL fun K1 hK1=> ?_
 refine zL fun K hK=> ?_
 refine zf false zO zN ?_ rfl ?_
 ·kernel_rfl
 all_goals refine yD 2 fun K9 hK9=> ?_
 all_goals push_cast [↓zK,↓zJ]
 all_goals repeat'(first|(apply zP<;>(intro hg;(try push_cast at hg)))|(refine⟨_,hA,?_⟩;push_cast [↓zK,↓zJ])|apply And.intro|(intro hg;(try push_cast at hg)))
 all_goals first|exact gA|(exact zX (by omega))|skip
 all_goals(refine hK9 _ ?_;clear hK9 K9)
 all_goals refine yD 5 fun K9 hK9=> ?_
 all_goals push_cast [↓zK,↓zJ]
 all_goals repeat'(first|(apply zP<;>(intro hg;(try push_cast at hg)))|(refine⟨_,hF,?_⟩;push_cast [↓zK,↓zJ])|apply And.intro|(intro hg;(try push_cast at hg)))
 all_goals first|exact gA|(exact zX (by omega))|skip
 all_goals(refine hK9 _ ?_;clear hK9 K9)
 all_goals refine yD 7 fun K9 hK9=> ?_
 all_goals push_cast [↓zK,↓zJ]
 all_goals repeat'(first|(apply zP<;>(intro hg;(try push_cast at hg)))|(refine⟨_,hI,?_⟩;push_cast [↓zK,↓zJ])|apply And.intro|(intro hg;(try push_cast at hg)))
 all_goals first|exact gA|(exact zX (by omega))|skip
 all_goals(refine hK9 _ ?_;clear hK9 K9)
 all_goals push_cast [↓zK,↓zJ]
 all_goals repeat'(first|(apply zP<;>(intro hg;(try push_cast at hg)))|(refine⟨_,hA,?_⟩;push_cast [↓zK,↓zJ])|(refine⟨_,hF,?_⟩;push_cast [↓zK,↓zJ])|(refine⟨_,hI,?_⟩;push_cast [↓zK,↓zJ])|apply And.intro|(intro hg;(try push_cast at hg)))
 all_goals first|exact gA|(exact zX (by omega))|skip
 all_goals(refine hK _ ?_;clear hK K)
 all_goals refine zT rfl (fun hc=> ?_) (fun hc=> ?_)
 all_goals(first|(cases hc;done)|skip)
 all_goals(try simp only [push_cast]at hc)
 all_goals try(
   refine θN ?_
   refine zZ ⟨Or.inl rfl,?_⟩
   push_cast [zd,zo,yA,↓zK,↓zJ]
   obtain⟨e1,e2,e3⟩:=zNs (a:=a) (ps:=ps) (s:=s) (by first|exact zFY (by with_reducible assumption)|exact zFZ (by have hln9:=yQ (a:=a) (by with_reducible assumption);rw [←uF (by omega)];with_reducible assumption)|exact zFa (by omega))
   rw [e1,e2,e3]
   all_goals first|rfl|exact⟨rfl,rfl⟩|(simp [dI,dII,xF];done)
   done)
 refine zU (hK1 _ ?_)
 have hC:rgC a ps s=true:=zFb (by with_reducible assumption) (by have hln9:=yQ (a:=a) (by with_reducible assumption);rw [←uF (by omega)];with_reducible assumption) (by omega)
 obtain⟨h1,h2,h3⟩:=xz hC
 have hln:=yQ h1
 refine θA ?_
 refine zL fun K2 hK2=> ?_
 refine θA ?_
 refine zV ?_
 refine zg [10,11,27,33,43,44,45,46,47,48,49,50,51,52] [160] (fun(k:Nat)=> [(11, .int .i64 k),(10, .sl 160 [] 0 k 2)]) (fun k=> []) (fun k=> [(160,⟨.ex,2,dI (zW k),none⟩)]) (fun k=>k≤ps.length) (fun k=>ps.length - k) 0 ?_ (by omega) ?_
 ·
  rw [show zW 0= []from rfl,show dI ([]:List Int)= []from rfl]
  exact θX
 ·rintro k hk KL0 hL0
  have hio:=JI k
  push_cast [↓zK,↓zJ]
  refine zL fun K3 hK3=> ?_
  refine θA ?_
  refine θU (fun hc=> ?_) fun hc=> ?_
  ·
   refine zU (hK3 _ ?_)
   refine zL fun K4 hK4=> ?_
   refine zV ?_
   refine θB ?_
   refine hK4 _ ?_
   refine θB ?_
   refine hL0 _ ⟨k+1,by omega,by omega,?_⟩
   (try rw [List.take_of_length_le (l:=zW k) (by omega)])
   rw [zHd]
   exact θX
   all_goals first|rfl|skip
  ·
   refine zh ?_
   have hkk:k=ps.length:=by omega
   subst hkk
   refine hK2 _ ?_
   refine θN ?_
   refine qj 59 12 (Nat.le_of_ble_eq_true rfl) ?_
   push_cast [↓zK,↓zJ]
   refine θA ?_
   refine zL fun K5 hK5=> ?_
   refine θA ?_
   refine zV ?_
   refine zg [7,8,12,13,14,15,16,17,18,19,20,27,33,58,59,60,61,62,63,64,65,66,67,68,69,70,71,72,73,74,75,76,77,78,79,80,81,82,83,84,85,86,87,88,89,90,91,92,93,94,95,96,97,98,99,100,101,102,103,104,105,106,107,108,109,110,111,112,113,114,115,116,117,118,119,120,121,122,123,124,125,126,127,128,129,130,131,132,133,134,135,136,137,138,139,140,141,142,143,144,145,146,147,148,149,150,151] [] (fun(i:Nat)=> [(14, .int .i64 i),(12, .sl 192 [] 0 (stQ (usA a) (rcR ps) ⟨s,zW ps.length⟩ i).length 59),(13, .bp 13 0)]) (fun i=> [(13,[.sl 208 [] 0 i 2, .sl 209 [] 0 i 22, .sl 210 [] 0 i 2])]) (fun i=> [(192,⟨.ex,59,xF (stQ (usA a) (rcR ps) ⟨s,zW ps.length⟩ i),none⟩),(208,⟨.ex,2,dI (qC a (rcR ps) ⟨s,zW ps.length⟩ i),none⟩),(209,⟨.ex,22,dII (nxG a (rcR ps) ⟨s,zW ps.length⟩ i),none⟩),(210,⟨.ex,2,dI (prG a (rcR ps) (prR ps) ⟨s,zW ps.length⟩ i),none⟩)]) (fun i=>i≤256∧i≤(stQ (usA a) (rcR ps) ⟨s,zW ps.length⟩ i).length∧(stQ (usA a) (rcR ps) ⟨s,zW ps.length⟩ i).length≤256) (fun i=>257 - i) 0 ?_ ⟨by omega,Nat.zero_le _,(by show 1≤256;decide)⟩ ?_
   ·
    rw [show stQ (usA a) (rcR ps) ⟨s,zW ps.length⟩ 0= [⟨s,zW ps.length⟩]from rfl,zH0,zKZ,zKc]
    refine zY rfl ?_ ?_ ?_<;>push_cast [zb,za,↓zK,↓zJ]
    all_goals first|rfl|exact⟨rfl,rfl,rfl,rfl⟩|(rw [List.take_of_length_le (l:=zW ps.length) (by omega)];exact⟨rfl,rfl,rfl,rfl⟩)|skip
   ·rintro i ⟨hi,hil,hsl⟩ KL1 hL1
    have hall:=Yg h1 h3 i
    have hq:QLn 1048576 (stQ (usA a) (rcR ps) ⟨s,zW ps.length⟩ i):=⟨by omega,fun p hp=>by have :=h3.small _ (hall p hp).2.2;omega⟩
    have hgl:=fun k=>jR hq k
    have ho1:=vB (a:=a) (rc:=rcR ps) (p0:=⟨s,zW ps.length⟩) i
    have ho2:=WY (a:=a) (rc:=rcR ps) (p0:=⟨s,zW ps.length⟩) i
    have ho3:=QP (a:=a) (rc:=rcR ps) (pr:=prR ps) (p0:=⟨s,zW ps.length⟩) i
    push_cast [↓zK,↓zJ]
    refine zL fun K6 hK6=> ?_
    refine θA ?_
    refine θU (fun hc=> ?_) fun hc=> ?_
    ·
     refine zU (hK6 _ ?_)
     refine zL fun K7 hK7=> ?_
     refine zV ?_
     have hP:=hall _ (qH (k:=i) (by omega))
     have hU:1≤(gl a.next (gq (stQ (usA a) (rcR ps) ⟨s,zW ps.length⟩ i) i).at_.toNat).length∧(gl a.next (gq (stQ (usA a) (rcR ps) ⟨s,zW ps.length⟩ i) i).at_.toNat).length≤16∧∀u∈(gl a.next (gq (stQ (usA a) (rcR ps) ⟨s,zW ps.length⟩ i) i).at_.toNat),0≤u∧u<(a.owner.length:Int):=jp h1 ⟨hP.1,hP.2.1⟩
     have hpl:=h3.small _ hP.2.2
     have hnl:(nxL ps (gq (stQ (usA a) (rcR ps) ⟨s,zW ps.length⟩ i) i).record (gq (stQ (usA a) (rcR ps) ⟨s,zW ps.length⟩ i) i).at_).length≤4:=h3.small _ (h3.next _ hP.1 hP.2.1 hP.2.2)
     refine θA ?_
     refine θL fun K hK=> ?_
     all_goals refine zm 6 fun K9 hK9=> ?_
     all_goals push_cast [↓zK,↓zJ]
     all_goals repeat'(first|(apply zP<;>(intro hg;(try simp only [push_cast]at hg)))|(refine⟨_,Vm ps hp (gq (stQ (usA a) (rcR ps) ⟨s,zW ps.length⟩ i) i).record (gq (stQ (usA a) (rcR ps) ⟨s,zW ps.length⟩ i) i).at_ hP.2.2,?_⟩;push_cast [↓zK,↓zJ])|apply And.intro|(intro hg;(try simp only [push_cast]at hg)))
     all_goals first|exact gA|(exact zX (by omega))|skip
     all_goals(refine hK9 _ ?_;clear hK9 K9)
     all_goals push_cast [↓zK,↓zJ]
     all_goals repeat'(first|(apply zP<;>(intro hg;(try simp only [push_cast]at hg)))|(refine⟨_,Vm ps hp (gq (stQ (usA a) (rcR ps) ⟨s,zW ps.length⟩ i) i).record (gq (stQ (usA a) (rcR ps) ⟨s,zW ps.length⟩ i) i).at_ hP.2.2,?_⟩;push_cast [↓zK,↓zJ])|apply And.intro|(intro hg;(try simp only [push_cast]at hg)))
     all_goals first|exact gA|(exact zX (by omega))|skip
     all_goals(refine hK _ ?_;clear hK K)
     refine θA ?_
     refine zL fun K8 hK8=> ?_
     refine θA ?_
     refine zV ?_
     refine zg [7,8,12,15,17,18,19,20,27,33,59,64,66,67,68,69,70,71,72,75,76,77,78,79,80,81,82,83,84,85,86,87,88,89,90,91,92,93,94,95,96,97,98,99,100,101,102,103,104,105,106,107,108,109,110,111,112,113,114,115,116,117,118] [272,240,241] (fun(k:Nat)=> [(18, .int .i64 k),(12, .sl 192 [] 0 (zu (nxL ps (gq (stQ (usA a) (rcR ps) ⟨s,zW ps.length⟩ i) i).record (gq (stQ (usA a) (rcR ps) ⟨s,zW ps.length⟩ i) i).at_) (gl a.next (gq (stQ (usA a) (rcR ps) ⟨s,zW ps.length⟩ i) i).at_.toNat) (stQ (usA a) (rcR ps) ⟨s,zW ps.length⟩ i) k).1.length 59),(17, .sl 272 [] 0 k 2),(15, .bp 15 0)]) (fun k=> [(15,[.int .i64 (gq (stQ (usA a) (rcR ps) ⟨s,zW ps.length⟩ i) i).at_, .sl 192 [i*2+1] 0 (gq (stQ (usA a) (rcR ps) ⟨s,zW ps.length⟩ i) i).record.length 2])]) (fun k=> [(192,⟨.ex,59,xF (zu (nxL ps (gq (stQ (usA a) (rcR ps) ⟨s,zW ps.length⟩ i) i).record (gq (stQ (usA a) (rcR ps) ⟨s,zW ps.length⟩ i) i).at_) (gl a.next (gq (stQ (usA a) (rcR ps) ⟨s,zW ps.length⟩ i) i).at_.toNat) (stQ (usA a) (rcR ps) ⟨s,zW ps.length⟩ i) k).1,none⟩),(272,⟨.ex,2,dI (zu (nxL ps (gq (stQ (usA a) (rcR ps) ⟨s,zW ps.length⟩ i) i).record (gq (stQ (usA a) (rcR ps) ⟨s,zW ps.length⟩ i) i).at_) (gl a.next (gq (stQ (usA a) (rcR ps) ⟨s,zW ps.length⟩ i) i).at_.toNat) (stQ (usA a) (rcR ps) ⟨s,zW ps.length⟩ i) k).2,none⟩)]) (fun k=>k≤(gl a.next (gq (stQ (usA a) (rcR ps) ⟨s,zW ps.length⟩ i) i).at_.toNat).length∧(zu (nxL ps (gq (stQ (usA a) (rcR ps) ⟨s,zW ps.length⟩ i) i).record (gq (stQ (usA a) (rcR ps) ⟨s,zW ps.length⟩ i) i).at_) (gl a.next (gq (stQ (usA a) (rcR ps) ⟨s,zW ps.length⟩ i) i).at_.toNat) (stQ (usA a) (rcR ps) ⟨s,zW ps.length⟩ i) k).1.length≤256) (fun k=>(gl a.next (gq (stQ (usA a) (rcR ps) ⟨s,zW ps.length⟩ i) i).at_.toNat).length - k) 0 ?_ ⟨by omega,hsl⟩ ?_
     ·
      rw [zDm]
      refine zY rfl ?_ ?_ ?_<;>push_cast [zb,za,↓zK,↓zJ]
      all_goals rfl
     ·rintro k ⟨hk,hkl⟩ KL2 hL2
      have hrl:=qK (r:=(nxL ps (gq (stQ (usA a) (rcR ps) ⟨s,zW ps.length⟩ i) i).record (gq (stQ (usA a) (rcR ps) ⟨s,zW ps.length⟩ i) i).at_)) (us:=(gl a.next (gq (stQ (usA a) (rcR ps) ⟨s,zW ps.length⟩ i) i).at_.toNat)) (ps:=(stQ (usA a) (rcR ps) ⟨s,zW ps.length⟩ i)) (k:=k) hk
      have hQr:QLn 1048576 (zu (nxL ps (gq (stQ (usA a) (rcR ps) ⟨s,zW ps.length⟩ i) i).record (gq (stQ (usA a) (rcR ps) ⟨s,zW ps.length⟩ i) i).at_) (gl a.next (gq (stQ (usA a) (rcR ps) ⟨s,zW ps.length⟩ i) i).at_.toNat) (stQ (usA a) (rcR ps) ⟨s,zW ps.length⟩ i) k).1:=⟨by omega,fun p hp=>by have :=h3.small _ (zH4 h1 h3 (i:=i) (k:=k) (by omega) hk p hp).2.2;omega⟩
      have hx:=zHg (xD (gi (gl a.next (gq (stQ (usA a) (rcR ps) ⟨s,zW ps.length⟩ i) i).at_.toNat) k) (nxL ps (gq (stQ (usA a) (rcR ps) ⟨s,zW ps.length⟩ i) i).record (gq (stQ (usA a) (rcR ps) ⟨s,zW ps.length⟩ i) i).at_)) (zu (nxL ps (gq (stQ (usA a) (rcR ps) ⟨s,zW ps.length⟩ i) i).record (gq (stQ (usA a) (rcR ps) ⟨s,zW ps.length⟩ i) i).at_) (gl a.next (gq (stQ (usA a) (rcR ps) ⟨s,zW ps.length⟩ i) i).at_.toNat) (stQ (usA a) (rcR ps) ⟨s,zW ps.length⟩ i) k).1
      push_cast [↓zK,↓zJ]
      refine zL fun K9 hK9=> ?_
      refine θA ?_
      refine θU (fun hc=> ?_) fun hc=> ?_
      ·
       refine zU (hK9 _ ?_)
       refine zL fun K10 hK10=> ?_
       refine zV ?_
       refine θA ?_
       refine θL fun K hK=> ?_
       all_goals refine zm 4 fun K9 hK9=> ?_
       all_goals push_cast [↓zK,↓zJ]
       all_goals repeat'(first|(apply zP<;>(intro hg;(try simp only [push_cast]at hg)))|(refine⟨_,UH (zu (nxL ps (gq (stQ (usA a) (rcR ps) ⟨s,zW ps.length⟩ i) i).record (gq (stQ (usA a) (rcR ps) ⟨s,zW ps.length⟩ i) i).at_) (gl a.next (gq (stQ (usA a) (rcR ps) ⟨s,zW ps.length⟩ i) i).at_.toNat) (stQ (usA a) (rcR ps) ⟨s,zW ps.length⟩ i) k).1 hQr (gi (gl a.next (gq (stQ (usA a) (rcR ps) ⟨s,zW ps.length⟩ i) i).at_.toNat) k) (nxL ps (gq (stQ (usA a) (rcR ps) ⟨s,zW ps.length⟩ i) i).record (gq (stQ (usA a) (rcR ps) ⟨s,zW ps.length⟩ i) i).at_) (by omega),?_⟩;push_cast [↓zK,↓zJ])|apply And.intro|(intro hg;(try simp only [push_cast]at hg)))
       all_goals first|exact gA|(exact zX (by omega))|skip
       all_goals(refine hK9 _ ?_;clear hK9 K9)
       all_goals push_cast [↓zK,↓zJ]
       all_goals repeat'(first|(apply zP<;>(intro hg;(try simp only [push_cast]at hg)))|(refine⟨_,UH (zu (nxL ps (gq (stQ (usA a) (rcR ps) ⟨s,zW ps.length⟩ i) i).record (gq (stQ (usA a) (rcR ps) ⟨s,zW ps.length⟩ i) i).at_) (gl a.next (gq (stQ (usA a) (rcR ps) ⟨s,zW ps.length⟩ i) i).at_.toNat) (stQ (usA a) (rcR ps) ⟨s,zW ps.length⟩ i) k).1 hQr (gi (gl a.next (gq (stQ (usA a) (rcR ps) ⟨s,zW ps.length⟩ i) i).at_.toNat) k) (nxL ps (gq (stQ (usA a) (rcR ps) ⟨s,zW ps.length⟩ i) i).record (gq (stQ (usA a) (rcR ps) ⟨s,zW ps.length⟩ i) i).at_) (by omega),?_⟩;push_cast [↓zK,↓zJ])|apply And.intro|(intro hg;(try simp only [push_cast]at hg)))
       all_goals first|exact gA|(exact zX (by omega))|skip
       all_goals(refine hK _ ?_;clear hK K)
       refine zL fun K11 hK11=> ?_
       refine θA ?_
       refine θU (fun hc=> ?_) fun hc=> ?_
       ·
        refine θA ?_
        refine zL fun K12 hK12=> ?_
        refine θA ?_
        refine θU (fun hc=> ?_) fun hc=> ?_
        ·
         refine θN ?_
         refine zZ ⟨Or.inl rfl,?_⟩
         push_cast [zd,zo,yA,↓zK,↓zJ]
         obtain⟨e1,e2,e3⟩:=zIC (a:=a) (ps:=ps) (s:=s) (zLu (i:=i) (k:=k) (by omega) (by omega) (by show k<(gl a.next (gq (stQ (usA a) (rcR ps) ⟨s,zW ps.length⟩ i) i).at_.toNat).length;omega) (by show ixQ (xD (gi (gl a.next (gq (stQ (usA a) (rcR ps) ⟨s,zW ps.length⟩ i) i).at_.toNat) k) (nxL ps (gq (stQ (usA a) (rcR ps) ⟨s,zW ps.length⟩ i) i).record (gq (stQ (usA a) (rcR ps) ⟨s,zW ps.length⟩ i) i).at_)) (zu (nxL ps (gq (stQ (usA a) (rcR ps) ⟨s,zW ps.length⟩ i) i).record (gq (stQ (usA a) (rcR ps) ⟨s,zW ps.length⟩ i) i).at_) (gl a.next (gq (stQ (usA a) (rcR ps) ⟨s,zW ps.length⟩ i) i).at_.toNat) (stQ (usA a) (rcR ps) ⟨s,zW ps.length⟩ i) k).1<0;with_reducible assumption) (by show 256≤(zu (nxL ps (gq (stQ (usA a) (rcR ps) ⟨s,zW ps.length⟩ i) i).record (gq (stQ (usA a) (rcR ps) ⟨s,zW ps.length⟩ i) i).at_) (gl a.next (gq (stQ (usA a) (rcR ps) ⟨s,zW ps.length⟩ i) i).at_.toNat) (stQ (usA a) (rcR ps) ⟨s,zW ps.length⟩ i) k).1.length;omega))
         rw [e1,e2,e3]
         all_goals first|rfl|exact⟨rfl,rfl⟩|(simp [dI,dII,xF];done)
        ·
         refine zU (hK12 _ ?_)
         refine jx 7 15 1 1824 192 [192] zO zN ?_ rfl rfl rfl fun K9 hK9=> ?_
         ·kernel_rfl
         all_goals push_cast [↓zK,↓zJ]
         all_goals repeat'(first|(apply zP<;>(intro hg;(try push_cast at hg)))|apply And.intro|(intro hg;(try push_cast at hg)))
         all_goals first|exact gA|(exact zX (by omega))|skip
         all_goals(refine hK9 _ ?_;clear hK9 K9)
         all_goals push_cast [↓zK,↓zJ]
         all_goals repeat'(first|(apply zP<;>(intro hg;(try push_cast at hg)))|apply And.intro|(intro hg;(try push_cast at hg)))
         all_goals first|exact gA|(exact zX (by omega))|skip
         refine hK11 _ ?_
         refine θB ?_
         refine hK10 _ ?_
         refine θB ?_
         refine hL2 _ ⟨k+1,⟨by omega,(by rw [wS (by omega) (by with_reducible assumption),List.length_append,List.length_singleton];omega)⟩,by omega,?_⟩
         (try rw [List.take_of_length_le (l:=(zu (nxL ps (gq (stQ (usA a) (rcR ps) ⟨s,zW ps.length⟩ i) i).record (gq (stQ (usA a) (rcR ps) ⟨s,zW ps.length⟩ i) i).at_) (gl a.next (gq (stQ (usA a) (rcR ps) ⟨s,zW ps.length⟩ i) i).at_.toNat) (stQ (usA a) (rcR ps) ⟨s,zW ps.length⟩ i) k).2) (by omega)])
         rw [wS (by omega) (by with_reducible assumption)]
         refine zY rfl ?_ ?_ ?_<;>push_cast [zb,za,↓zK,↓zJ]
         all_goals first|rfl|(rw [List.length_append];rfl)|exact⟨rfl,rfl⟩|skip
       ·
        refine zU (hK11 _ ?_)
        refine θB ?_
        refine hK10 _ ?_
        refine θB ?_
        refine hL2 _ ⟨k+1,⟨by omega,(by rw [ZF (by omega) (by with_reducible assumption)];omega)⟩,by omega,?_⟩
        (try rw [List.take_of_length_le (l:=(zu (nxL ps (gq (stQ (usA a) (rcR ps) ⟨s,zW ps.length⟩ i) i).record (gq (stQ (usA a) (rcR ps) ⟨s,zW ps.length⟩ i) i).at_) (gl a.next (gq (stQ (usA a) (rcR ps) ⟨s,zW ps.length⟩ i) i).at_.toNat) (stQ (usA a) (rcR ps) ⟨s,zW ps.length⟩ i) k).2) (by omega)])
        rw [ZF (by omega) (by with_reducible assumption)]
        exact θX
        all_goals first|rfl|(rw [List.length_append];rfl)|exact⟨rfl,rfl⟩|skip
      ·
       refine zh ?_
       have hkk:k=(gl a.next (gq (stQ (usA a) (rcR ps) ⟨s,zW ps.length⟩ i) i).at_.toNat).length:=by omega
       subst hkk
       refine hK8 _ ?_
       refine zL fun K hK=> ?_
       refine zx false zO zN ya ?_ rfl ?_
       ·kernel_rfl
       intro E hE
       all_goals push_cast [↓zK,↓zJ]
       all_goals repeat'(first|(apply zP<;>(intro hg;(try push_cast at hg)))|apply And.intro|(intro hg;(try push_cast at hg)))
       all_goals first|exact gA|(refine hE _ _ ?_ ?_;kernel_rfl)|(exact zX (by omega))|skip
       all_goals clear hE E
       all_goals(refine hK _ ?_;clear hK K)
       have hSo:Fn Tryz.prog tyT 46 [.c (DI (List.take (gl a.next (gq (stQ (usA a) (rcR ps) ⟨s,zW ps.length⟩ i) i).at_.toNat).length (zu (nxL ps (gq (stQ (usA a) (rcR ps) ⟨s,zW ps.length⟩ i) i).record (gq (stQ (usA a) (rcR ps) ⟨s,zW ps.length⟩ i) i).at_) (gl a.next (gq (stQ (usA a) (rcR ps) ⟨s,zW ps.length⟩ i) i).at_.toNat) (stQ (usA a) (rcR ps) ⟨s,zW ps.length⟩ i) (gl a.next (gq (stQ (usA a) (rcR ps) ⟨s,zW ps.length⟩ i) i).at_.toNat).length).2))] [.c (DI (yZ (zu (nxL ps (gq (stQ (usA a) (rcR ps) ⟨s,zW ps.length⟩ i) i).record (gq (stQ (usA a) (rcR ps) ⟨s,zW ps.length⟩ i) i).at_) (gl a.next (gq (stQ (usA a) (rcR ps) ⟨s,zW ps.length⟩ i) i).at_.toNat) (stQ (usA a) (rcR ps) ⟨s,zW ps.length⟩ i) (gl a.next (gq (stQ (usA a) (rcR ps) ⟨s,zW ps.length⟩ i) i).at_.toNat).length).2))]:=by rw [List.take_of_length_le (l:=(zu (nxL ps (gq (stQ (usA a) (rcR ps) ⟨s,zW ps.length⟩ i) i).record (gq (stQ (usA a) (rcR ps) ⟨s,zW ps.length⟩ i) i).at_) (gl a.next (gq (stQ (usA a) (rcR ps) ⟨s,zW ps.length⟩ i) i).at_.toNat) (stQ (usA a) (rcR ps) ⟨s,zW ps.length⟩ i) (gl a.next (gq (stQ (usA a) (rcR ps) ⟨s,zW ps.length⟩ i) i).at_.toNat).length).2) (by omega)];exact zDD _ (by omega)
       refine zL fun K hK=> ?_
       refine zx false zO zN ya ?_ rfl ?_
       ·kernel_rfl
       intro E hE
       all_goals refine yb 5 (by decide) fun K9 hK9=> ?_
       all_goals push_cast [↓zK,↓zJ]
       all_goals repeat'(first|(apply zP<;>(intro hg;(try push_cast at hg)))|(refine⟨_,hSo,?_⟩;push_cast [↓zK,↓zJ])|apply And.intro|(intro hg;(try push_cast at hg)))
       all_goals first|exact gA|(exact zX (by omega))|skip
       all_goals(refine hK9 _ _ ?_;clear hK9 K9)
       all_goals push_cast [↓zK,↓zJ]
       all_goals repeat'(first|(apply zP<;>(intro hg;(try push_cast at hg)))|(refine⟨_,hSo,?_⟩;push_cast [↓zK,↓zJ])|apply And.intro|(intro hg;(try push_cast at hg)))
       all_goals first|exact gA|(refine hE _ _ ?_ ?_;kernel_rfl)|(exact zX (by omega))|skip
       all_goals clear hE E
       all_goals(refine hK _ ?_;clear hK K)
       have hgi:gq (zu (nxL ps (gq (stQ (usA a) (rcR ps) ⟨s,zW ps.length⟩ i) i).record (gq (stQ (usA a) (rcR ps) ⟨s,zW ps.length⟩ i) i).at_) (gl a.next (gq (stQ (usA a) (rcR ps) ⟨s,zW ps.length⟩ i) i).at_.toNat) (stQ (usA a) (rcR ps) ⟨s,zW ps.length⟩ i) (gl a.next (gq (stQ (usA a) (rcR ps) ⟨s,zW ps.length⟩ i) i).at_.toNat).length).1 i=(gq (stQ (usA a) (rcR ps) ⟨s,zW ps.length⟩ i) i):=jj (by omega) (Nat.le_refl _)
       have hPq:Fn Tryz.prog tyT 47 [.c (.lst 64 (dII (ilv ps))), .c (DI (List.take (gq (stQ (usA a) (rcR ps) ⟨s,zW ps.length⟩ i) i).record.length (gq (zu (nxL ps (gq (stQ (usA a) (rcR ps) ⟨s,zW ps.length⟩ i) i).record (gq (stQ (usA a) (rcR ps) ⟨s,zW ps.length⟩ i) i).at_) (gl a.next (gq (stQ (usA a) (rcR ps) ⟨s,zW ps.length⟩ i) i).at_.toNat) (stQ (usA a) (rcR ps) ⟨s,zW ps.length⟩ i) (gl a.next (gq (stQ (usA a) (rcR ps) ⟨s,zW ps.length⟩ i) i).at_.toNat).length).1 i).record)), .c (.int .i64 (gq (stQ (usA a) (rcR ps) ⟨s,zW ps.length⟩ i) i).at_)] [.c (.int .i64 (vl ps (gq (stQ (usA a) (rcR ps) ⟨s,zW ps.length⟩ i) i).record (gq (stQ (usA a) (rcR ps) ⟨s,zW ps.length⟩ i) i).at_))]:=by rw [hgi,List.take_length];exact zES ps hp _ _ hP.2.2
       refine zx false zO zN ya ?_ rfl ?_
       ·kernel_rfl
       intro E hE
       all_goals refine yb 8 (by decide) fun K9 hK9=> ?_
       all_goals push_cast [↓zK,↓zJ]
       all_goals repeat'(first|(apply zP<;>(intro hg;(try push_cast at hg)))|(refine⟨_,hPq,?_⟩;push_cast [↓zK,↓zJ])|apply And.intro|(intro hg;(try push_cast at hg)))
       all_goals first|exact gA|(exact zX (by omega))|skip
       all_goals(refine hK9 _ _ ?_;clear hK9 K9)
       all_goals push_cast [↓zK,↓zJ]
       all_goals repeat'(first|(apply zP<;>(intro hg;(try push_cast at hg)))|(refine⟨_,hPq,?_⟩;push_cast [↓zK,↓zJ])|apply And.intro|(intro hg;(try push_cast at hg)))
       all_goals first|exact gA|(refine hE _ _ ?_ ?_;kernel_rfl)|(exact zX (by omega))|skip
       all_goals clear hE E
       refine hK7 _ ?_
       refine qE [.sl 2, .sl 22, .sl 2] 13 ?_
       push_cast [↓zK,↓zJ]
       refine θB ?_
       have hst:(stQ (usA a) (rcR ps) ⟨s,zW ps.length⟩ (i+1))=(zu (nxL ps (gq (stQ (usA a) (rcR ps) ⟨s,zW ps.length⟩ i) i).record (gq (stQ (usA a) (rcR ps) ⟨s,zW ps.length⟩ i) i).at_) (gl a.next (gq (stQ (usA a) (rcR ps) ⟨s,zW ps.length⟩ i) i).at_.toNat) (stQ (usA a) (rcR ps) ⟨s,zW ps.length⟩ i) (gl a.next (gq (stQ (usA a) (rcR ps) ⟨s,zW ps.length⟩ i) i).at_.toNat).length).1:=XP (by omega)
       refine hL1 _ ⟨i+1,⟨by omega,(by rw [hst];omega),(by rw [hst];omega)⟩,by omega,?_⟩
       (try rw [List.take_of_length_le (l:=qC a (rcR ps) ⟨s,zW ps.length⟩ i) (by omega)])
       (try rw [List.take_of_length_le (l:=nxG a (rcR ps) ⟨s,zW ps.length⟩ i) (by omega)])
       (try rw [List.take_of_length_le (l:=prG a (rcR ps) (prR ps) ⟨s,zW ps.length⟩ i) (by omega)])
       rw [hst,zH1,zKa,zKd,show plQ (usA a) (rcR ps) ⟨s,zW ps.length⟩ i=(gq (stQ (usA a) (rcR ps) ⟨s,zW ps.length⟩ i) i)from rfl,show nxQ (usA a) (rcR ps) ⟨s,zW ps.length⟩ i=yZ (zu (nxL ps (gq (stQ (usA a) (rcR ps) ⟨s,zW ps.length⟩ i) i).record (gq (stQ (usA a) (rcR ps) ⟨s,zW ps.length⟩ i) i).at_) (gl a.next (gq (stQ (usA a) (rcR ps) ⟨s,zW ps.length⟩ i) i).at_.toNat) (stQ (usA a) (rcR ps) ⟨s,zW ps.length⟩ i) (gl a.next (gq (stQ (usA a) (rcR ps) ⟨s,zW ps.length⟩ i) i).at_.toNat).length).2 from rfl,show prR ps (gq (stQ (usA a) (rcR ps) ⟨s,zW ps.length⟩ i) i)=(vl ps (gq (stQ (usA a) (rcR ps) ⟨s,zW ps.length⟩ i) i).record (gq (stQ (usA a) (rcR ps) ⟨s,zW ps.length⟩ i) i).at_)from rfl]
       exact θX
       all_goals first|rfl|exact⟨rfl,rfl,rfl,rfl⟩|skip
    ·
     refine zh (hK5 _ ?_)
     refine θA ?_
     refine zZ ⟨Or.inl rfl,?_⟩
     push_cast [zd,zo,yA,↓zK,↓zJ]
     obtain⟨e1,e2,e3⟩:=zFE (a:=a) (rc:=rcR ps) (pr:=prR ps) (p0:=⟨s,zW ps.length⟩) (i:=i) hC hi (by omega) hil
     unfold rgG rgP rgB
     rw [e1,e2,e3]
     simp only [gmA,ho1,ho2,ho3]
     all_goals first|rfl|exact⟨⟨⟨rfl,rfl⟩,⟨rfl,rfl⟩,⟨rfl,rfl⟩⟩,rfl,rfl⟩|exact⟨rfl,rfl⟩|(simp;done)
end Go.Proofs.YtcleaokoimhedaaGreat
