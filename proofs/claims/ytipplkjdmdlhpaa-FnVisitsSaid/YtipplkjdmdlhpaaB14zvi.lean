/- all parts of a few names, and the other family: both sides -/
import Derived.Test.YtipplkjdmdlhpaaB11zvi
import Derived.Test.YtipplkjdmdlhpaaB13zvi
import Derived.Test.YtipplkjdmdlhpaaVazvi
namespace Go.Proofs.Ytipplkjdmdlhpaa
open Nat renaming reduceMod → zA, reduceMul → zB, reduceDiv → zC, reduceAdd → zD, reduceSub → zE, reduceEqDiff → zF, reduceBEq → zG, reduceLT → zH, reduceLeDiff → zI
open Go.RowKit
set_option linter.unusedVariables false
set_option linter.unusedSimpArgs false
def qP :List Int→Nat→List Int
 | [],_=> []
 |x::xs,b=>if b%2=1 then x::qP xs (b / 2)else qP xs (b / 2)
theorem KC : ∀(xs:List Int) (b:Nat),(qP xs b).length≤xs.length
 | [],_=>Nat.le_refl _
 |x::xs,b=>by
  have :=KC xs (b / 2)
  unfold qP
  split<;>simp only [List.length_cons]<;>omega
theorem VC : ∀(xs:List Int) (x:Int) (b:Nat),qP (xs++ [x]) b=qP xs b++(if b / 2^xs.length%2=1 then [x]else [])
 | [],x,b=>by
  simp only [List.nil_append,qP,List.length_nil,Nat.pow_zero,Nat.div_one]
 |y::xs,x,b=>by
  have h:=VC xs x (b / 2)
  rw [Nat.div_div_eq_div_mul,show 2*2^xs.length=2^(xs.length+1)from by rw [Nat.pow_succ,Nat.mul_comm]]at h
  simp only [List.cons_append,qP,List.length_cons]
  rw [h]
  split<;>simp
theorem zAd {xs:List Int}{x:Int}{b:Nat}(h:b<2^xs.length):qP (xs++ [x]) b=qP xs b:=by
 rw [VC,Nat.div_eq_of_lt h]
 simp
theorem uM : ∀(xs:List Int) (j:Nat),qP xs (2^xs.length+j)=qP xs j
 | [],j=>rfl
 |x::xs,j=>by
  have h:=uM xs (j / 2)
  have e1:(2^(xs.length+1)+j)%2=j%2:=by rw [Nat.pow_succ];omega
  have e2:(2^(xs.length+1)+j) / 2=2^xs.length+j / 2:=by rw [Nat.pow_succ];omega
  simp only [qP,List.length_cons,e1,e2,h]
theorem zFy {xs:List Int}{x:Int}{j:Nat}(h:j<2^xs.length):qP (xs++ [x]) (2^xs.length+j)=qP xs j++ [x]:=by
 have hp:0<2^xs.length:=Nat.two_pow_pos _
 rw [VC,uM,Nat.add_div_left _ hp,Nat.div_eq_of_lt h]
 rfl
def qg (xs:List Int)(k:Nat):List (List Int):=(List.range k).map (qP xs)
theorem xp (xs:List Int)(k:Nat):(qg xs k).length=k:=by simp [qg]
theorem zHk (xs:List Int)(k:Nat):qg xs (k+1)=qg xs k++ [qP xs k]:=by simp [qg,List.range_succ]
theorem qM {xs:List Int}{k j:Nat}(h:j<k):gl (qg xs k) j=qP xs j:=by
 unfold gl qg
 rw [List.getD_eq_getElem?_getD,List.getElem?_map,List.getElem?_range h]
 rfl
theorem zGG {xs:List Int}{x:Int}:qg (xs++ [x]) (2^xs.length)=qg xs (2^xs.length):=by
 unfold qg
 refine List.map_congr_left fun j hj=> ?_
 exact zAd (List.mem_range.1 hj)
def xD (xs:List Int):List (List Int):=qg xs (2^xs.length)
theorem XB {n:Nat}(h:n≤4):2^n≤16:=Nat.pow_le_pow_right (by omega) h
theorem zHa {n:Nat}(h:n≤64):(2:Int)^(min n 64)=((2^n:Nat):Int):=by
 rw [Nat.min_eq_left h,Int.natCast_pow]
 rfl
def p2 (i:Nat):Nat:=2^i
theorem zI3 (i:Nat):0<p2 i:=Nat.two_pow_pos i
theorem p2_le {i:Nat}(h:i≤4):p2 i≤16:=XB h
theorem p2_s (i:Nat):p2 (i+1)=p2 i+p2 i:=by unfold p2;rw [Nat.pow_succ];omega
theorem xL {n:Nat}(h:n≤64):(2:Int)^(min n 64)=(p2 n:Int):=zHa h
theorem zBc {xs:List Int}{i:Nat}(h:i<xs.length):qg (xs.take (i+1)) (p2 i)=qg (xs.take i) (p2 i):=by
 unfold p2
 have hl:(xs.take i).length=i:=by rw [List.length_take];omega
 have :=zGG (xs:=xs.take i) (x:=gi xs i)
 rw [hl]at this
 rw [Zn h,this]
theorem zFz {xs:List Int}{i j:Nat}(h:i<xs.length)(hj:j<p2 i):qP (xs.take (i+1)) (p2 i+j)=qP (xs.take (i+1)) j++ [gi xs i]:=by
 unfold p2 at hj⊢
 have hl:(xs.take i).length=i:=by rw [List.length_take];omega
 have h1:=zFy (xs:=xs.take i) (x:=gi xs i) (j:=j) (by rw [hl];exact hj)
 have h2:=zAd (xs:=xs.take i) (x:=gi xs i) (b:=j) (by rw [hl];exact hj)
 rw [hl]at h1
 rw [Zn h,h1,h2]
def vf (p:List Int→Bool)(rows:List (List Int))(k:Nat):List D:=(rows.take k).map (fun r=>if p r then D.hole else .lst 2 (dI r))++dII (rows.drop k)
theorem zEN (p:List Int→Bool)(rows:List (List Int)):vf p rows 0=dII rows:=by simp [vf]
theorem Wp (p:List Int→Bool)(rows:List (List Int))(k:Nat):(vf p rows k)[k]? =(dII rows)[k]? :=by
 unfold vf dII
 rcases Nat.lt_or_ge k rows.length with h|h
 ·have hl:((rows.take k).map (fun r=>if p r then D.hole else .lst 2 (dI r))).length=k:=by simp;omega
  rw [List.getElem?_append_right (by omega),hl,Nat.sub_self,List.getElem?_map,List.getElem?_map,List.getElem?_drop]
  rfl
 ·rw [List.getElem?_eq_none (by simp;omega),List.getElem?_eq_none (by simp;omega)]
theorem zFk (p:List Int→Bool)(rows:List (List Int))(k:Nat):(vf p rows k).length=rows.length:=by simp [vf,dII];omega
theorem zEE (p:List Int→Bool)(rows:List (List Int))(k:Nat):xK (vf p rows k) k=dI (gl rows k):=by
 rw [←Jt]
 unfold xK
 rw [Wp]
theorem zp {p:List Int→Bool}{rows:List (List Int)}{k:Nat}(h:k<rows.length):qS (vf p rows k) k=2:=by
 rw [←zQ h]
 unfold qS
 rw [Wp]
theorem zDX (p:List Int→Bool)(rows:List (List Int))(k:Nat):xS (.sl 2) (vf p rows k) k=(k<rows.length):=by
 rw [←Jj]
 unfold xS
 rw [Wp]
theorem zBQ (p:List Int→Bool)(rows:List (List Int))(k:Nat):zm (vf p rows k) [k]=(k<rows.length):=by
 rw [←Qx]
 unfold zm
 rw [Wp]
theorem zAL {p:List Int→Bool}{rows:List (List Int)}{k:Nat}(h:k<rows.length)(hp:p (gl rows k)=true):(vf p rows k).set k .hole=vf p rows (k+1):=by
 have hl:((rows.take k).map (fun r=>if p r then D.hole else .lst 2 (dI r))).length=k:=by simp;omega
 unfold vf
 rw [List.set_append_right _ _ (by omega),hl,Nat.sub_self,VP h,List.map_append,List.append_assoc]
 congr 1
 have :rows.drop k=gl rows k::rows.drop (k+1):=by
  rw [List.drop_eq_getElem_cons h]
  congr 1
  unfold gl
  rw [List.getD_eq_getElem?_getD,List.getElem?_eq_getElem h]
  rfl
 rw [this]
 simp [dII,hp]
theorem ky {p:List Int→Bool}{rows:List (List Int)}{k:Nat}(h:k<rows.length)(hp:p (gl rows k)=false):vf p rows k=vf p rows (k+1):=by
 unfold vf
 rw [VP h,List.map_append,List.append_assoc]
 congr 1
 have :rows.drop k=gl rows k::rows.drop (k+1):=by
  rw [List.drop_eq_getElem_cons h]
  congr 1
  unfold gl
  rw [List.getD_eq_getElem?_getD,List.getElem?_eq_getElem h]
  rfl
 rw [this]
 simp [dII,hp]
attribute [push_cast] zFk zEE zDX zBQ
theorem kq {xs:List (List Int)}{p:List Int→Bool}{k:Nat}(h:k<xs.length)(hp:p (gl xs k)=true):(xs.take (k+1)).filter p=(xs.take k).filter p++ [gl xs k]:=by
 rw [VP h,List.filter_append];simp [hp]
theorem zAF {xs:List (List Int)}{p:List Int→Bool}{k:Nat}(h:k<xs.length)(hp:p (gl xs k)=false):(xs.take (k+1)).filter p=(xs.take k).filter p:=by
 rw [VP h,List.filter_append];simp [hp]
theorem uW (xs:List (List Int))(p:List Int→Bool)(k:Nat):((xs.take k).filter p).length≤xs.length:=Nat.le_trans (List.length_filter_le _ _) (by rw [List.length_take];omega)
def vv (f:Fm):Fm:=if xg f 256 then⟨f.names,(xD f.names).filter fun s=> !xU f.sets s⟩else⟨[],[]⟩
theorem zBI {f:Fm}(h:xg f 256=false):vv f=⟨[],[]⟩:=by unfold vv;rw [h];rfl
theorem zAA {f:Fm}(h:xg f 256=true):vv f=⟨f.names,(xD f.names).filter fun s=> !xU f.sets s⟩:=by unfold vv;rw [h];rfl
theorem Xd {xs:List Int}(k:Nat):(gl (xD xs) k).length≤xs.length:=by
 rcases Nat.lt_or_ge k (2^xs.length)with h|h
 ·unfold xD
  rw [qM h]
  exact KC _ _
 ·unfold gl xD qg
  rw [List.getD_eq_getElem?_getD,List.getElem?_eq_none (by simp;omega)]
  simp
theorem YH (xs:List Int):(xD xs).length=2^xs.length:=by simp [xD,qg]
theorem Uz {f:Fm}(h:f.Ln 1048576):(vv f).Ln 1048576:=by
 unfold vv
 split
 ·rename_i hok
  obtain⟨h1,h2,h3⟩:=qO hok
  have h4:=XB h2
  have h5:=YH f.names
  refine⟨h.names,⟨Nat.le_trans (List.length_filter_le _ _) (by omega),fun r hr=> ?_⟩⟩
  obtain⟨k,hk,rfl⟩:=WJ (List.mem_filter.1 hr).1
  have :=Xd (xs:=f.names) k
  omega
 ·exact⟨by unfold LnI;simp,by simp,by simp⟩
set_option maxRecDepth 20000 in
set_option maxHeartbeats 4000000 in
theorem JS (xs:List Int)(hx:xs.length≤4):Fn Try.prog tyT 53 [.c (DI xs)] [.c (DII (xD xs))]:=by
 have h16:=fun i (hi:i≤4)=>p2_le hi
 have h1:=fun i=>zI3 i
 refine yB (fn:=Try.f53) (ts:= [2]) Try.func53 (by kernel_rfl) rfl rfl (by rw [Try.ntmps53];exact Nat.le_of_ble_eq_true rfl) rfl (by simp only [szA,List.mem_cons,List.not_mem_nil,or_false,forall_eq_or_imp,forall_eq,VT.cells,szL];try decide) ?_
 rw [Try.ntmps53]
 simp only [push_cast,↓zK,↓zJ,↓reduceIte,zA,zB,zC,zD,zE,zF,zG,zH,zI,reduceCtorEq]
 refine zL fun K hK=> ?_
 refine zM zP zN [] rfl ?_
 all_goals simp only [push_cast,↓zK,↓zJ,↓reduceIte,zA,zB,zC,zD,zE,zF,zG,zH,zI,reduceCtorEq]
 all_goals repeat'(first|(apply zO<;>(intro hg;(try simp only [push_cast]at hg)))|apply And.intro|(intro hg;(try simp only [push_cast]at hg)))
 all_goals first|exact gA|(rw [e9,qM (by omega)];omega)|(have h9:=xL (n:=i) (by omega);have h8:=h16 i (by omega);omega)|(exact zQ (by have h9:=xL (n:=i) (by omega);simp only [xp];omega))|skip
 all_goals first|(refine hK _ ?_;clear hK K)|(simp only [push_cast];done)
 refine zL fun K hK=> ?_
 refine zd false zP zN ?_ rfl ?_
 ·kernel_rfl
 simp only [push_cast,↓zK,↓zJ,↓reduceIte,zA,zB,zC,zD,zE,zF,zG,zH,zI,reduceCtorEq]
 all_goals repeat'(first|(apply zO<;>(intro hg;(try simp only [push_cast]at hg)))|apply And.intro|(intro hg;(try simp only [push_cast]at hg)))
 all_goals first|exact gA|(rw [e9,qM (by omega)];omega)|(have h9:=xL (n:=i) (by omega);have h8:=h16 i (by omega);omega)|(exact zQ (by have h9:=xL (n:=i) (by omega);simp only [xp];omega))|skip
 all_goals first|(refine hK _ ?_;clear hK K)|(simp only [push_cast];done)
 refine qb 27 3 (Nat.le_of_ble_eq_true rfl) ?_
 simp only [push_cast,↓zK,↓zJ,↓reduceIte,zA,zB,zC,zD,zE,zF,zG,zH,zI,reduceCtorEq]
 refine zL fun K1 hK1=> ?_
 refine zL fun K hK=> ?_
 refine zM zP zN [] rfl ?_
 all_goals simp only [push_cast,↓zK,↓zJ,↓reduceIte,zA,zB,zC,zD,zE,zF,zG,zH,zI,reduceCtorEq]
 all_goals repeat'(first|(apply zO<;>(intro hg;(try simp only [push_cast]at hg)))|apply And.intro|(intro hg;(try simp only [push_cast]at hg)))
 all_goals first|exact gA|(rw [e9,qM (by omega)];omega)|(have h9:=xL (n:=i) (by omega);have h8:=h16 i (by omega);omega)|(exact zQ (by have h9:=xL (n:=i) (by omega);simp only [xp];omega))|skip
 all_goals first|(refine hK _ ?_;clear hK K)|(simp only [push_cast];done)
 refine zV ?_
 refine zh [3,4,5,6,9,10,11,12,13,14,15,16,17,18,19,20,21,22,23,24,25,26,27,28,29,30,31,32,33,34,35,36,37,38,39,40,41] [48] (fun(i:Nat)=> [(4, .int .i64 i),(3, .sl 48 [] 0 (p2 i) 27)]) (fun i=> []) (fun i=> [(48,⟨.ex,27,dII (qg (xs.take i) (p2 i)),none⟩)]) (fun i=>i≤xs.length) (fun i=>xs.length - i) 0 ?_ (by omega) ?_
 ·
  rw [show dII (qg (xs.take 0) (p2 0))= [D.lst 2 []]from rfl,show p2 0=1 from rfl]
  refine zY rfl ?_ ?_ ?_<;>simp only [zf,ze,push_cast,↓zK,↓zJ,↓reduceIte,zA,zB,zC,zD,zE,zF,zG,zH,zI,reduceCtorEq]
 ·rintro i hi KL0 hL0
  have hsl:=xp (xs.take i) (p2 i)
  have h1i:=h1 i
  simp only [push_cast,↓zK,↓zJ,↓reduceIte,zA,zB,zC,zD,zE,zF,zG,zH,zI,reduceCtorEq]
  refine zL fun K2 hK2=> ?_
  refine zL fun K hK=> ?_
  refine zM zP zN [] rfl ?_
  all_goals simp only [push_cast,↓zK,↓zJ,↓reduceIte,zA,zB,zC,zD,zE,zF,zG,zH,zI,reduceCtorEq]
  all_goals repeat'(first|(apply zO<;>(intro hg;(try simp only [push_cast]at hg)))|apply And.intro|(intro hg;(try simp only [push_cast]at hg)))
  all_goals first|exact gA|(rw [e9,qM (by omega)];omega)|(have h9:=xL (n:=i) (by omega);have h8:=h16 i (by omega);omega)|(exact zQ (by have h9:=xL (n:=i) (by omega);simp only [xp];omega))|skip
  all_goals first|(refine hK _ ?_;clear hK K)|(simp only [push_cast];done)
  refine zT rfl (fun hc=> ?_) (fun hc=> ?_)<;>(try simp only [push_cast]at hc)
  ·
   refine zU ?_
   (try simp only [zR,zS,reduceIte,zF]);refine hK2 _ ?_
   refine zL fun K3 hK3=> ?_
   refine zV ?_
   refine zL fun K hK=> ?_
   refine zM zP zN [] rfl ?_
   all_goals simp only [push_cast,↓zK,↓zJ,↓reduceIte,zA,zB,zC,zD,zE,zF,zG,zH,zI,reduceCtorEq]
   all_goals repeat'(first|(apply zO<;>(intro hg;(try simp only [push_cast]at hg)))|apply And.intro|(intro hg;(try simp only [push_cast]at hg)))
   all_goals first|exact gA|(rw [e9,qM (by omega)];omega)|(have h9:=xL (n:=i) (by omega);have h8:=h16 i (by omega);omega)|(exact zQ (by have h9:=xL (n:=i) (by omega);simp only [xp];omega))|skip
   all_goals first|(refine hK _ ?_;clear hK K)|(simp only [push_cast];done)
   refine zV ?_
   refine zh [3,5,6,15,17,18,19,20,21,22,23,24,25,26,27,28,29,30,31,32,33,34,35,36,37,38,39,40,41] [48] (fun(j:Nat)=> [(5, .int .i64 ((p2 i:Nat) - j)),(3, .sl 48 [] 0 (p2 i+j) 27)]) (fun j=> []) (fun j=> [(48,⟨.ex,27,dII (qg (xs.take (i+1)) (p2 i+j)),none⟩)]) (fun j=>j≤p2 i) (fun j=>p2 i - j) 0 ?_ (by omega) ?_
   ·
    rw [Nat.add_zero,zBc (by omega),show((p2 i:Int) - ((0:Nat):Int))=(p2 i:Int)from by omega]
    refine zY rfl ?_ ?_ ?_<;>simp only [zf,ze,push_cast,↓zK,↓zJ,↓reduceIte,zA,zB,zC,zD,zE,zF,zG,zH,zI,reduceCtorEq]
   ·rintro j hj KL1 hL1
    have hsj:=xp (xs.take (i+1)) (p2 i+j)
    have hpl:=KC (xs.take (i+1)) j
    rw [List.length_take]at hpl
    simp only [push_cast,↓zK,↓zJ,↓reduceIte,zA,zB,zC,zD,zE,zF,zG,zH,zI,reduceCtorEq]
    refine zL fun K4 hK4=> ?_
    refine zL fun K hK=> ?_
    refine zM zP zN [] rfl ?_
    all_goals simp only [push_cast,↓zK,↓zJ,↓reduceIte,zA,zB,zC,zD,zE,zF,zG,zH,zI,reduceCtorEq]
    all_goals repeat'(first|(apply zO<;>(intro hg;(try simp only [push_cast]at hg)))|apply And.intro|(intro hg;(try simp only [push_cast]at hg)))
    all_goals first|exact gA|(rw [e9,qM (by omega)];omega)|(have h9:=xL (n:=i) (by omega);have h8:=h16 i (by omega);omega)|(exact zQ (by have h9:=xL (n:=i) (by omega);simp only [xp];omega))|skip
    all_goals first|(refine hK _ ?_;clear hK K)|(simp only [push_cast];done)
    refine zT rfl (fun hc=> ?_) (fun hc=> ?_)<;>(try simp only [push_cast]at hc)
    ·
     refine zU ?_
     (try simp only [zR,zS,reduceIte,zF]);refine hK4 _ ?_
     refine zL fun K5 hK5=> ?_
     refine zV ?_
     have e9:((p2 i:Int)+j - 1*2^(min i 64)).toNat=j:=by rw [xL (by omega)];omega
     refine zL fun K hK=> ?_
     refine zM zP zN [] rfl ?_
     all_goals simp only [push_cast,↓zK,↓zJ,↓reduceIte,zA,zB,zC,zD,zE,zF,zG,zH,zI,reduceCtorEq]
     all_goals repeat'(first|(apply zO<;>(intro hg;(try simp only [push_cast]at hg)))|apply And.intro|(intro hg;(try simp only [push_cast]at hg)))
     all_goals first|exact gA|(rw [e9,qM (by omega)];omega)|(have h9:=xL (n:=i) (by omega);have h8:=h16 i (by omega);omega)|(exact zQ (by have h9:=xL (n:=i) (by omega);simp only [xp];omega))|skip
     all_goals first|(refine hK _ ?_;clear hK K)|(simp only [push_cast];done)
     rw [e9,qM (by omega)]
     refine zd false zP zN ?_ rfl ?_
     ·kernel_rfl
     simp only [push_cast,↓zK,↓zJ,↓reduceIte,zA,zB,zC,zD,zE,zF,zG,zH,zI,reduceCtorEq]
     all_goals repeat'(first|(apply zO<;>(intro hg;(try simp only [push_cast]at hg)))|apply And.intro|(intro hg;(try simp only [push_cast]at hg)))
     all_goals first|exact gA|(rw [e9,qM (by omega)];omega)|(have h9:=xL (n:=i) (by omega);have h8:=h16 i (by omega);omega)|(exact zQ (by have h9:=xL (n:=i) (by omega);simp only [xp];omega))|skip
     (try simp only [zR,zS,reduceIte,zF]);refine hK5 _ ?_
     refine qb 27 3 (Nat.le_of_ble_eq_true rfl) ?_
     simp only [push_cast,↓zK,↓zJ,↓reduceIte,zA,zB,zC,zD,zE,zF,zG,zH,zI,reduceCtorEq]
     refine zM zP zN [] rfl ?_
     all_goals simp only [push_cast,↓zK,↓zJ,↓reduceIte,zA,zB,zC,zD,zE,zF,zG,zH,zI,reduceCtorEq]
     all_goals repeat'(first|(apply zO<;>(intro hg;(try simp only [push_cast]at hg)))|apply And.intro|(intro hg;(try simp only [push_cast]at hg)))
     all_goals first|exact gA|(rw [e9,qM (by omega)];omega)|(have h9:=xL (n:=i) (by omega);have h8:=h16 i (by omega);omega)|(exact zQ (by have h9:=xL (n:=i) (by omega);simp only [xp];omega))|skip
     refine hL1 _ ⟨j+1,by omega,by omega,?_⟩
     (try rw [List.take_of_length_le (l:=qP (xs.take (i+1)) j++ [gi xs i]) (by rw [List.length_append];exact Nat.le_refl _)])
     (try rw [List.take_of_length_le (l:=qg (xs.take (i+1)) (p2 i+j)) (by omega)])
     rw [show p2 i+(j+1)=p2 i+j+1 from rfl,zHk,zFz (by omega) (by omega)]
     refine zY rfl ?_ ?_ ?_<;>simp only [zf,ze,push_cast,↓zK,↓zJ,↓reduceIte,zA,zB,zC,zD,zE,zF,zG,zH,zI,reduceCtorEq]
     all_goals(try(refine congrArg (AV.int .i64) ?_;omega))
    ·
     refine zk ?_
     have hjj:j=p2 i:=by omega
     subst hjj
     (try simp only [zR,zS,reduceIte,zF]);refine hK3 _ ?_
     refine zM zP zN [] rfl ?_
     all_goals simp only [push_cast,↓zK,↓zJ,↓reduceIte,zA,zB,zC,zD,zE,zF,zG,zH,zI,reduceCtorEq]
     all_goals repeat'(first|(apply zO<;>(intro hg;(try simp only [push_cast]at hg)))|apply And.intro|(intro hg;(try simp only [push_cast]at hg)))
     all_goals first|exact gA|(rw [e9,qM (by omega)];omega)|(have h9:=xL (n:=i) (by omega);have h8:=h16 i (by omega);omega)|(exact zQ (by have h9:=xL (n:=i) (by omega);simp only [xp];omega))|skip
     refine hL0 _ ⟨i+1,by omega,by omega,?_⟩
     rw [show p2 (i+1)=p2 i+p2 i from p2_s i]
     refine zY rfl ?_ ?_ ?_<;>simp only [zf,ze,push_cast,↓zK,↓zJ,↓reduceIte,zA,zB,zC,zD,zE,zF,zG,zH,zI,reduceCtorEq]
  ·
   refine zk ?_
   have hii:i=xs.length:=by omega
   subst hii
   rw [List.take_length]
   (try simp only [zR,zS,reduceIte,zF]);refine hK1 _ ?_
   refine zL fun K hK=> ?_
   refine zM zP zN [] rfl ?_
   all_goals simp only [push_cast,↓zK,↓zJ,↓reduceIte,zA,zB,zC,zD,zE,zF,zG,zH,zI,reduceCtorEq]
   all_goals repeat'(first|(apply zO<;>(intro hg;(try simp only [push_cast]at hg)))|apply And.intro|(intro hg;(try simp only [push_cast]at hg)))
   all_goals first|exact gA|(rw [e9,qM (by omega)];omega)|(have h9:=xL (n:=i) (by omega);have h8:=h16 i (by omega);omega)|(exact zQ (by have h9:=xL (n:=i) (by omega);simp only [xp];omega))|skip
   all_goals first|(refine hK _ ?_;clear hK K)|(simp only [push_cast];done)
   refine zX ?_
   (try simp only [zR,zS])
   refine⟨Or.inl rfl,?_⟩
   simp only [zb,push_cast,↓zK,↓zJ,↓reduceIte,zA,zB,zC,zD,zE,zF,zG,zH,zI,reduceCtorEq]
   exact⟨rfl,(YH xs).symm⟩
set_option maxRecDepth 20000 in
set_option maxHeartbeats 4000000 in
theorem KO (f:Fm)(hf:f.Ln 1048576):Fn Try.prog tyT 22 [.agg (dFm f)] [.agg (dFm (vv f))]:=by
 have h1:=hf.names
 have h2:=hf.sets.1
 unfold LnI at h1
 have hr: ∀v,(gl f.sets v).length≤1048576:=fun v=>qt hf.sets v
 have hA:=VZ f hf 256
 rw [zFW]at hA
 have hS:=fun h=>JS f.names h
 have hH:=fun t ht=>uE f h2 hr t ht
 unfold dFm at hA hH
 unfold dFm
 refine Ym (fn:=Try.f22) (rs:= [.cell 2 52]) zP zN Try.func22 (by kernel_rfl) rfl rfl (by rw [Try.ntmps22];exact Nat.le_of_ble_eq_true rfl) rfl (by simp only [szA,List.mem_cons,List.not_mem_nil,or_false,forall_eq_or_imp,forall_eq,VT.cells,szL];try decide) ?_
 rw [Try.ntmps22]
 simp only [push_cast,↓zK,↓zJ,↓reduceIte,zA,zB,zC,zD,zE,zF,zG,zH,zI,reduceCtorEq]
 refine zL fun K hK=> ?_
 refine zM zP zN [] rfl ?_
 all_goals simp only [push_cast,↓zK,↓zJ,↓reduceIte,zA,zB,zC,zD,zE,zF,zG,zH,zI,reduceCtorEq]
 all_goals repeat'(first|(apply zO<;>(intro hg;(try simp only [push_cast]at hg)))|apply And.intro|(intro hg;(try simp only [push_cast]at hg)))
 all_goals first|exact gA|(exact zp (by omega))|(exact zQ (by omega))|skip
 all_goals first|(refine hK _ ?_;clear hK K)|(simp only [push_cast];done)
 refine zL fun K1 hK1=> ?_
 refine zL fun K hK=> ?_
 refine zM zP zN [] rfl ?_
 all_goals refine zx 2 fun K9 hK9=> ?_
 all_goals simp only [push_cast,↓zK,↓zJ,↓reduceIte,zA,zB,zC,zD,zE,zF,zG,zH,zI,reduceCtorEq]
 all_goals repeat'(first|(apply zO<;>(intro hg;(try simp only [push_cast]at hg)))|(refine⟨_,hA,?_⟩;simp only [push_cast,↓zK,↓zJ,↓reduceIte,zA,zB,zC,zD,zE,zF,zG,zH,zI,reduceCtorEq])|apply And.intro|(intro hg;(try simp only [push_cast]at hg)))
 all_goals first|exact gA|(exact zp (by omega))|(exact zQ (by omega))|skip
 all_goals first|(refine hK9 _ ?_;clear hK9 K9)|(simp only [push_cast];done)
 all_goals simp only [push_cast,↓zK,↓zJ,↓reduceIte,zA,zB,zC,zD,zE,zF,zG,zH,zI,reduceCtorEq]
 all_goals repeat'(first|(apply zO<;>(intro hg;(try simp only [push_cast]at hg)))|(refine⟨_,hA,?_⟩;simp only [push_cast,↓zK,↓zJ,↓reduceIte,zA,zB,zC,zD,zE,zF,zG,zH,zI,reduceCtorEq])|apply And.intro|(intro hg;(try simp only [push_cast]at hg)))
 all_goals first|exact gA|(exact zp (by omega))|(exact zQ (by omega))|skip
 all_goals first|(refine hK _ ?_;clear hK K)|(simp only [push_cast];done)
 refine zT rfl (fun hc=> ?_) (fun hc=> ?_)<;>(try simp only [push_cast]at hc)
 ·
  refine zL fun K hK=> ?_
  refine zM zP zN [] rfl ?_
  all_goals simp only [push_cast,↓zK,↓zJ,↓reduceIte,zA,zB,zC,zD,zE,zF,zG,zH,zI,reduceCtorEq]
  all_goals repeat'(first|(apply zO<;>(intro hg;(try simp only [push_cast]at hg)))|apply And.intro|(intro hg;(try simp only [push_cast]at hg)))
  all_goals first|exact gA|(exact zp (by omega))|(exact zQ (by omega))|skip
  all_goals first|(refine hK _ ?_;clear hK K)|(simp only [push_cast];done)
  refine zX ?_
  (try simp only [zR,zS])
  refine⟨Or.inl rfl,?_⟩
  simp only [zb,yD,yV,push_cast,↓zK,↓zJ,↓reduceIte,zA,zB,zC,zD,zE,zF,zG,zH,zI,reduceCtorEq]
  rw [zBI (by with_reducible assumption)]
  all_goals first|exact⟨rfl,rfl⟩|(simp [dI,dII];done)
 ·
  refine zU ?_
  (try simp only [zR,zS,reduceIte,zF]);refine hK1 _ ?_
  have hok:xg f 256=true:=by with_reducible assumption
  obtain⟨hn1,hn4,hn5⟩:=qO hok
  have hsl:=YH f.names
  have h16:=XB hn4
  refine zL fun K hK=> ?_
  refine zM zP zN [] rfl ?_
  all_goals simp only [push_cast,↓zK,↓zJ,↓reduceIte,zA,zB,zC,zD,zE,zF,zG,zH,zI,reduceCtorEq]
  all_goals repeat'(first|(apply zO<;>(intro hg;(try simp only [push_cast]at hg)))|apply And.intro|(intro hg;(try simp only [push_cast]at hg)))
  all_goals first|exact gA|(exact zp (by omega))|(exact zQ (by omega))|skip
  all_goals first|(refine hK _ ?_;clear hK K)|(simp only [push_cast];done)
  refine zL fun K hK=> ?_
  refine zM zP zN [] rfl ?_
  all_goals refine zx 3 fun K9 hK9=> ?_
  all_goals simp only [push_cast,↓zK,↓zJ,↓reduceIte,zA,zB,zC,zD,zE,zF,zG,zH,zI,reduceCtorEq]
  all_goals repeat'(first|(apply zO<;>(intro hg;(try simp only [push_cast]at hg)))|(refine⟨_,hS hn4,?_⟩;simp only [push_cast,↓zK,↓zJ,↓reduceIte,zA,zB,zC,zD,zE,zF,zG,zH,zI,reduceCtorEq])|apply And.intro|(intro hg;(try simp only [push_cast]at hg)))
  all_goals first|exact gA|(exact zp (by omega))|(exact zQ (by omega))|skip
  all_goals first|(refine hK9 _ ?_;clear hK9 K9)|(simp only [push_cast];done)
  all_goals simp only [push_cast,↓zK,↓zJ,↓reduceIte,zA,zB,zC,zD,zE,zF,zG,zH,zI,reduceCtorEq]
  all_goals repeat'(first|(apply zO<;>(intro hg;(try simp only [push_cast]at hg)))|(refine⟨_,hS hn4,?_⟩;simp only [push_cast,↓zK,↓zJ,↓reduceIte,zA,zB,zC,zD,zE,zF,zG,zH,zI,reduceCtorEq])|apply And.intro|(intro hg;(try simp only [push_cast]at hg)))
  all_goals first|exact gA|(exact zp (by omega))|(exact zQ (by omega))|skip
  all_goals first|(refine hK _ ?_;clear hK K)|(simp only [push_cast];done)
  refine zL fun K2 hK2=> ?_
  refine zL fun K hK=> ?_
  refine zM zP zN [] rfl ?_
  all_goals simp only [push_cast,↓zK,↓zJ,↓reduceIte,zA,zB,zC,zD,zE,zF,zG,zH,zI,reduceCtorEq]
  all_goals repeat'(first|(apply zO<;>(intro hg;(try simp only [push_cast]at hg)))|apply And.intro|(intro hg;(try simp only [push_cast]at hg)))
  all_goals first|exact gA|(exact zp (by omega))|(exact zQ (by omega))|skip
  all_goals first|(refine hK _ ?_;clear hK K)|(simp only [push_cast];done)
  refine zV ?_
  refine zh [3,5,18,19,20,21,22,23,24,25,26,27,28,29,30,31,32,33,34,35,36,37,38,39] [64] (fun(u:Nat×List (List Int))=> [(5, .int .i64 u.1),(3, .bp 3 0),(4, .sl 64 [] 0 (xD f.names).length 27)]) (fun u=> [(3,[.sl 48 [] 0 f.names.length 2, .sl 49 [] 0 u.2.length 27])]) (fun u=> [(48,⟨.ex,2,dI f.names,none⟩),(49,⟨.ex,27,dII u.2,none⟩),(64,⟨.ex,27,vf (fun s=> !xU f.sets s) (xD f.names) u.1,none⟩)]) (fun u=>u.1≤(xD f.names).length∧u.2=((xD f.names).take u.1).filter (fun s=> !xU f.sets s)) (fun u=>(xD f.names).length - u.1) (0,[]) ?_ ⟨by omega,rfl⟩ ?_
  ·
   simp only [zEN,show dII ([]:List (List Int))= []from rfl]
   refine zY rfl ?_ ?_ ?_<;>simp only [zf,ze,push_cast,↓zK,↓zJ,↓reduceIte,zA,zB,zC,zD,zE,zF,zG,zH,zI,reduceCtorEq]
  ·rintro⟨k,o⟩ ⟨hk,ho⟩ KL0 hL0
   simp only at hk ho
   have hol:o.length≤(xD f.names).length:=by rw [ho];exact uW _ _ _
   have hrk:=Xd (xs:=f.names) k
   simp only [push_cast,↓zK,↓zJ,↓reduceIte,zA,zB,zC,zD,zE,zF,zG,zH,zI,reduceCtorEq]
   refine zL fun K3 hK3=> ?_
   refine zL fun K hK=> ?_
   refine zM zP zN [] rfl ?_
   all_goals simp only [push_cast,↓zK,↓zJ,↓reduceIte,zA,zB,zC,zD,zE,zF,zG,zH,zI,reduceCtorEq]
   all_goals repeat'(first|(apply zO<;>(intro hg;(try simp only [push_cast]at hg)))|apply And.intro|(intro hg;(try simp only [push_cast]at hg)))
   all_goals first|exact gA|(exact zp (by omega))|(exact zQ (by omega))|skip
   all_goals first|(refine hK _ ?_;clear hK K)|(simp only [push_cast];done)
   refine zT rfl (fun hc=> ?_) (fun hc=> ?_)<;>(try simp only [push_cast]at hc)
   ·
    refine zU ?_
    (try simp only [zR,zS,reduceIte,zF]);refine hK3 _ ?_
    refine zL fun K4 hK4=> ?_
    refine zV ?_
    refine zL fun K hK=> ?_
    refine zw false zP zN yj ?_ rfl ?_
    ·kernel_rfl
    intro E hE
    all_goals refine yJ 6 (by decide) fun K9 hK9=> ?_
    all_goals simp only [push_cast,↓zK,↓zJ,↓reduceIte,zA,zB,zC,zD,zE,zF,zG,zH,zI,reduceCtorEq]
    all_goals repeat'(first|(apply zO<;>(intro hg;(try simp only [push_cast]at hg)))|(refine⟨_,hH (gl (xD f.names) k) (by omega),?_⟩;simp only [push_cast,↓zK,↓zJ,↓reduceIte,zA,zB,zC,zD,zE,zF,zG,zH,zI,reduceCtorEq])|apply And.intro|(intro hg;(try simp only [push_cast]at hg)))
    all_goals first|exact gA|(exact zp (by omega))|(exact zQ (by omega))|skip
    all_goals first|(refine hK9 _ _ ?_;clear hK9 K9)|(simp only [push_cast];done)
    all_goals simp only [push_cast,↓zK,↓zJ,↓reduceIte,zA,zB,zC,zD,zE,zF,zG,zH,zI,reduceCtorEq]
    all_goals repeat'(first|(apply zO<;>(intro hg;(try simp only [push_cast]at hg)))|(refine⟨_,hH (gl (xD f.names) k) (by omega),?_⟩;simp only [push_cast,↓zK,↓zJ,↓reduceIte,zA,zB,zC,zD,zE,zF,zG,zH,zI,reduceCtorEq])|apply And.intro|(intro hg;(try simp only [push_cast]at hg)))
    all_goals first|exact gA|(refine hE _ _ ?_ ?_;kernel_rfl)|(exact zp (by omega))|(exact zQ (by omega))|skip
    all_goals clear hE E
    all_goals first|(refine hK _ ?_;clear hK K)|(simp only [push_cast];done)
    refine zT rfl (fun hc=> ?_) (fun hc=> ?_)<;>(try simp only [push_cast]at hc)
    ·
     refine zw false zP zN yj ?_ rfl ?_
     ·kernel_rfl
     intro E hE
     all_goals simp only [push_cast,↓zK,↓zJ,↓reduceIte,zA,zB,zC,zD,zE,zF,zG,zH,zI,reduceCtorEq]
     all_goals repeat'(first|(apply zO<;>(intro hg;(try simp only [push_cast]at hg)))|apply And.intro|(intro hg;(try simp only [push_cast]at hg)))
     all_goals first|exact gA|(refine hE _ _ ?_ ?_;kernel_rfl)|(exact zp (by omega))|(exact zQ (by omega))|skip
     all_goals clear hE E
     (try simp only [zR,zS,reduceIte,zF]);refine hK4 _ ?_
     refine yv [.sl 2, .sl 27] 3 ?_
     simp only [push_cast,↓zK,↓zJ,↓reduceIte,zA,zB,zC,zD,zE,zF,zG,zH,zI,reduceCtorEq]
     refine zM zP zN [] rfl ?_
     all_goals simp only [push_cast,↓zK,↓zJ,↓reduceIte,zA,zB,zC,zD,zE,zF,zG,zH,zI,reduceCtorEq]
     all_goals repeat'(first|(apply zO<;>(intro hg;(try simp only [push_cast]at hg)))|apply And.intro|(intro hg;(try simp only [push_cast]at hg)))
     all_goals first|exact gA|(exact zp (by omega))|(exact zQ (by omega))|skip
     refine hL0 _ ⟨(k+1,o++ [gl (xD f.names) k]),⟨by simp only;omega,by simp only;rw [kq (by omega) (by simp only [hc,Bool.not_false,Bool.not_true]),←ho]⟩,by simp only;omega,?_⟩
     (try rw [List.take_of_length_le (l:=gl (xD f.names) k) (by omega)])
     (try rw [List.take_of_length_le (l:=o) (by omega)])
     (try rw [zAL (by omega) (by simp only [hc,Bool.not_false,Bool.not_true])])
     simp only
     refine zY rfl ?_ ?_ ?_<;>simp only [zf,ze,push_cast,↓zK,↓zJ,↓reduceIte,zA,zB,zC,zD,zE,zF,zG,zH,zI,reduceCtorEq]
     all_goals(try(rw [List.length_append];rfl))
    ·
     refine zU ?_
     (try simp only [zR,zS,reduceIte,zF]);refine hK4 _ ?_
     refine yv [.sl 2, .sl 27] 3 ?_
     simp only [push_cast,↓zK,↓zJ,↓reduceIte,zA,zB,zC,zD,zE,zF,zG,zH,zI,reduceCtorEq]
     refine zM zP zN [] rfl ?_
     all_goals simp only [push_cast,↓zK,↓zJ,↓reduceIte,zA,zB,zC,zD,zE,zF,zG,zH,zI,reduceCtorEq]
     all_goals repeat'(first|(apply zO<;>(intro hg;(try simp only [push_cast]at hg)))|apply And.intro|(intro hg;(try simp only [push_cast]at hg)))
     all_goals first|exact gA|(exact zp (by omega))|(exact zQ (by omega))|skip
     refine hL0 _ ⟨(k+1,o),⟨by simp only;omega,by simp only;rw [zAF (by omega) (by simp only [hc,Bool.not_false,Bool.not_true]),←ho]⟩,by simp only;omega,?_⟩
     rw [ky (by omega) (by simp only [hc,Bool.not_false,Bool.not_true])]
     simp only
     refine zY rfl ?_ ?_ ?_<;>simp only [zf,ze,push_cast,↓zK,↓zJ,↓reduceIte,zA,zB,zC,zD,zE,zF,zG,zH,zI,reduceCtorEq]
     all_goals(try(rw [List.length_append];rfl))
   ·
    refine zk ?_
    have hkk:k=(xD f.names).length:=by omega
    subst hkk
    rw [List.take_length]at ho
    (try simp only [zR,zS,reduceIte,zF]);refine hK2 _ ?_
    refine zL fun K hK=> ?_
    refine zM zP zN [] rfl ?_
    all_goals simp only [push_cast,↓zK,↓zJ,↓reduceIte,zA,zB,zC,zD,zE,zF,zG,zH,zI,reduceCtorEq]
    all_goals repeat'(first|(apply zO<;>(intro hg;(try simp only [push_cast]at hg)))|apply And.intro|(intro hg;(try simp only [push_cast]at hg)))
    all_goals first|exact gA|(exact zp (by omega))|(exact zQ (by omega))|skip
    all_goals first|(refine hK _ ?_;clear hK K)|(simp only [push_cast];done)
    refine zX ?_
    (try simp only [zR,zS])
    refine⟨Or.inl rfl,?_⟩
    simp only [zb,yD,yV,push_cast,↓zK,↓zJ,↓reduceIte,zA,zB,zC,zD,zE,zF,zG,zH,zI,reduceCtorEq]
    rw [zAA hok]
    subst ho
    all_goals first|rfl|exact⟨rfl,rfl⟩|(simp;done)
def inP (ps:List Pr)(v:Int):Bool:=ps.any fun p=>zq p.ask v||zq p.give v
def unP (ps:List Pr)(N:Nat):List Int:=((List.range N).map fun(i:Nat)=>(i:Int)).filter (inP ps)
theorem unP_0 (ps:List Pr):unP ps 0= []:=rfl
theorem zHq {ps:List Pr}{N:Nat}(h:inP ps N=true):unP ps (N+1)=unP ps N++ [(N:Int)]:=by unfold unP;rw [List.range_succ,List.map_append,List.filter_append];simp [h]
theorem zJC {ps:List Pr}{N:Nat}(h:inP ps N=false):unP ps (N+1)=unP ps N:=by unfold unP;rw [List.range_succ,List.map_append,List.filter_append];simp [h]
theorem zE2 (ps:List Pr)(N:Nat):(unP ps N).length≤N:=by unfold unP;exact Nat.le_trans (List.length_filter_le _ _) (by simp)
theorem zHI {ps:List Pr}{v:Int}{i:Nat}(hi:i<ps.length)(h:zq (gp ps i).ask v=true∨zq (gp ps i).give v=true):inP ps v=true:=by
 unfold inP
 rw [List.any_eq_true]
 exact⟨_,zEJ hi,by rw [Bool.or_eq_true];exact h⟩
theorem zIy {ps:List Pr}{p:Pr}(h:p∈ps): ∃k,k<ps.length∧gp ps k=p:=by
 obtain⟨k,hk,rfl⟩:=List.mem_iff_getElem.1 h
 exact⟨k,hk,by have :=zGX hk;rw [List.getElem?_eq_getElem hk]at this;exact(Option.some.inj this).symm⟩
theorem zIm {ps:List Pr}{v:Int}(h: ∀j,j<ps.length→zq (gp ps j).ask v=false∧zq (gp ps j).give v=false):inP ps v=false:=by
 unfold inP
 rw [List.any_eq_false]
 intro p hp
 obtain⟨k,hk,rfl⟩:=zIy hp
 rw [(h k hk).1,(h k hk).2];simp
theorem zHg {b:List Int}{n:Int}(hs:zz b n=true){x:Int}(hx:x∈b):0≤x∧x<n:=by
 obtain⟨k,hk,rfl⟩:=jD hx
 have h2:=xz hs hk
 unfold xx at h2
 have h3:=of_decide_eq_true h2
 exact⟨h3.1,h3.2.1⟩
def xH (ps:List Pr)(n:Int):List Int:=unP ps n.toNat
theorem zFY (ps:List Pr)(n:Int):(xH ps n).length≤n.toNat:=zE2 _ _
def jk (ps:List Pr)(s:List Int):Bool:=decide ((bkN ps s ps.length).length=0)
def vC (ps:List Pr)(n:Int):Bool:=Zj ps n&&decide ((xH ps n).length≤4)
def YC (ps:List Pr)(n:Int):Fm:=if vC ps n then⟨xH ps n,(xD (xH ps n)).filter (jk ps)⟩else⟨[],[]⟩
theorem zD1 {ps:List Pr}{n:Int}(h:Zj ps n=false):vC ps n=false:=by unfold vC;rw [h];rfl
theorem zD2 {ps:List Pr}{n:Int}(h: ¬(xH ps n).length≤4):vC ps n=false:=by unfold vC;rw [decide_eq_false h,Bool.and_false]
theorem zD3 {ps:List Pr}{n:Int}(h:Zj ps n=true)(h2:(xH ps n).length≤4):vC ps n=true:=by unfold vC;rw [h,decide_eq_true h2];rfl
theorem ko {ps:List Pr}{n:Int}(h:vC ps n=false):YC ps n=⟨[],[]⟩:=by unfold YC;rw [h];rfl
theorem zCp {ps:List Pr}{n:Int}(h:vC ps n=true):YC ps n=⟨xH ps n,(xD (xH ps n)).filter (jk ps)⟩:=by unfold YC;rw [h];rfl
theorem zD0 (ps:List Pr)(n:Int):(YC ps n).Ln 1048576:=by
 unfold YC
 split
 ·rename_i h
  unfold vC at h
  rw [Bool.and_eq_true,decide_eq_true_eq]at h
  have h4:=XB h.2
  have h5:=YH (xH ps n)
  refine⟨by unfold LnI;show(xH ps n).length≤_;omega,⟨Nat.le_trans (List.length_filter_le _ _) (by omega),fun r hr=> ?_⟩⟩
  obtain⟨k,hk,rfl⟩:=WJ (List.mem_filter.1 hr).1
  have :=Xd (xs:=xH ps n) k
  omega
 ·exact⟨by unfold LnI;simp,by simp,by simp⟩
set_option maxRecDepth 20000 in
set_option maxHeartbeats 8000000 in
theorem UF (ps:List Pr)(ha:PLn 1048576 ps)(n:Int):Fn Try.prog tyT 20 [.c (.lst 64 (dII (ilv ps))), .c (.int .i64 n)] [.agg (dFm (YC ps n)), .c (.bool (vC ps n))]:=by
 have hl:=ha.1
 have hg:=fun k=>zCr ha k
 have hga: ∀k,(gp ps k).ask.length≤1048576:=fun k=>(hg k).ask
 have hgg: ∀k,(gp ps k).give.length≤1048576:=fun k=>(hg k).give
 have hli:=Zh ps
 have hA:=zA4 ps ha n
 have hS:=fun h=>JS (xH ps n) h
 unfold dFm
 refine Ym (fn:=Try.f20) (rs:= [.cell 4 52, .tmp 5]) zP zN Try.func20 (by kernel_rfl) rfl rfl (by rw [Try.ntmps20];exact Nat.le_of_ble_eq_true rfl) rfl (by simp only [szA,List.mem_cons,List.not_mem_nil,or_false,forall_eq_or_imp,forall_eq,VT.cells,szL];try decide) ?_
 rw [Try.ntmps20]
 simp only [push_cast,↓zK,↓zJ,↓reduceIte,zA,zB,zC,zD,zE,zF,zG,zH,zI,reduceCtorEq]
 refine zL fun K hK=> ?_
 refine zM zP zN [] rfl ?_
 all_goals simp only [push_cast,↓zK,↓zJ,↓reduceIte,zA,zB,zC,zD,zE,zF,zG,zH,zI,reduceCtorEq]
 all_goals repeat'(first|(apply zO<;>(intro hg;(try simp only [push_cast]at hg)))|apply And.intro|(intro hg;(try simp only [push_cast]at hg)))
 all_goals first|exact gA|(exact zp (by omega))|(exact zQ (by simp only [push_cast];omega))|(exact zQ (by omega))|skip
 all_goals first|(refine hK _ ?_;clear hK K)|(simp only [push_cast];done)
 refine zL fun K hK=> ?_
 refine zM zP zN [] rfl ?_
 all_goals simp only [push_cast,↓zK,↓zJ,↓reduceIte,zA,zB,zC,zD,zE,zF,zG,zH,zI,reduceCtorEq]
 all_goals repeat'(first|(apply zO<;>(intro hg;(try simp only [push_cast]at hg)))|apply And.intro|(intro hg;(try simp only [push_cast]at hg)))
 all_goals first|exact gA|(exact zp (by omega))|(exact zQ (by simp only [push_cast];omega))|(exact zQ (by omega))|skip
 all_goals first|(refine hK _ ?_;clear hK K)|(simp only [push_cast];done)
 refine zL fun K1 hK1=> ?_
 refine zL fun K hK=> ?_
 refine zM zP zN [] rfl ?_
 all_goals refine zx 3 fun K9 hK9=> ?_
 all_goals simp only [push_cast,↓zK,↓zJ,↓reduceIte,zA,zB,zC,zD,zE,zF,zG,zH,zI,reduceCtorEq]
 all_goals repeat'(first|(apply zO<;>(intro hg;(try simp only [push_cast]at hg)))|(refine⟨_,hA,?_⟩;simp only [push_cast,↓zK,↓zJ,↓reduceIte,zA,zB,zC,zD,zE,zF,zG,zH,zI,reduceCtorEq])|apply And.intro|(intro hg;(try simp only [push_cast]at hg)))
 all_goals first|exact gA|(exact zp (by omega))|(exact zQ (by simp only [push_cast];omega))|(exact zQ (by omega))|skip
 all_goals first|(refine hK9 _ ?_;clear hK9 K9)|(simp only [push_cast];done)
 all_goals simp only [push_cast,↓zK,↓zJ,↓reduceIte,zA,zB,zC,zD,zE,zF,zG,zH,zI,reduceCtorEq]
 all_goals repeat'(first|(apply zO<;>(intro hg;(try simp only [push_cast]at hg)))|(refine⟨_,hA,?_⟩;simp only [push_cast,↓zK,↓zJ,↓reduceIte,zA,zB,zC,zD,zE,zF,zG,zH,zI,reduceCtorEq])|apply And.intro|(intro hg;(try simp only [push_cast]at hg)))
 all_goals first|exact gA|(exact zp (by omega))|(exact zQ (by simp only [push_cast];omega))|(exact zQ (by omega))|skip
 all_goals first|(refine hK _ ?_;clear hK K)|(simp only [push_cast];done)
 refine zT rfl (fun hc=> ?_) (fun hc=> ?_)<;>(try simp only [push_cast]at hc)
 ·
  refine zL fun K hK=> ?_
  refine zM zP zN [] rfl ?_
  all_goals simp only [push_cast,↓zK,↓zJ,↓reduceIte,zA,zB,zC,zD,zE,zF,zG,zH,zI,reduceCtorEq]
  all_goals repeat'(first|(apply zO<;>(intro hg;(try simp only [push_cast]at hg)))|apply And.intro|(intro hg;(try simp only [push_cast]at hg)))
  all_goals first|exact gA|(exact zp (by omega))|(exact zQ (by simp only [push_cast];omega))|(exact zQ (by omega))|skip
  all_goals first|(refine hK _ ?_;clear hK K)|(simp only [push_cast];done)
  refine zX ?_
  (try simp only [zR,zS])
  refine⟨Or.inl rfl,?_⟩
  simp only [zb,yD,yV,push_cast,↓zK,↓zJ,↓reduceIte,zA,zB,zC,zD,zE,zF,zG,zH,zI,reduceCtorEq]
  have h9:vC ps n=false:=zD1 (by with_reducible assumption)
  rw [ko h9,h9]
  all_goals first|exact⟨rfl,rfl⟩|rfl|(simp [dI,dII];done)
 ·
  refine zU ?_
  (try simp only [zR,zS,reduceIte,zF]);refine hK1 _ ?_
  refine zL fun K2 hK2=> ?_
  have hok:Zj ps n=true:=by with_reducible assumption
  obtain⟨hn,hl4,hst⟩:=zEm hok
  have hnl:=zFY ps n
  refine zL fun K hK=> ?_
  refine zM zP zN [] rfl ?_
  all_goals simp only [push_cast,↓zK,↓zJ,↓reduceIte,zA,zB,zC,zD,zE,zF,zG,zH,zI,reduceCtorEq]
  all_goals repeat'(first|(apply zO<;>(intro hg;(try simp only [push_cast]at hg)))|apply And.intro|(intro hg;(try simp only [push_cast]at hg)))
  all_goals first|exact gA|(exact zp (by omega))|(exact zQ (by simp only [push_cast];omega))|(exact zQ (by omega))|skip
  all_goals first|(refine hK _ ?_;clear hK K)|(simp only [push_cast];done)
  refine zV ?_
  refine zh [6,7,8,17,18,19,20,21,22,23,24,25,26,27,28,29,30,31,32,33,34,35,36,37,38,39,40,41,42,43,44,45,46,47,48,49] [] (fun(v:Nat)=> [(7, .int .i64 v),(6, .bp 6 0)]) (fun v=> [(6,[.sl 96 [] 0 (unP ps v).length 2, .sl 97 [] 0 0 27])]) (fun v=> [(96,⟨.ex,2,dI (unP ps v),none⟩),(97,⟨.ex,27,[],none⟩)]) (fun v=>v≤n.toNat) (fun v=>n.toNat - v) 0 ?_ (by omega) ?_
  ·
   rw [unP_0,show dI ([]:List Int)= []from rfl]
   refine zY rfl ?_ ?_ ?_<;>simp only [zf,ze,push_cast,↓zK,↓zJ,↓reduceIte,zA,zB,zC,zD,zE,zF,zG,zH,zI,reduceCtorEq]
  ·rintro v hv KL0 hL0
   have hul:=zE2 ps v
   simp only [push_cast,↓zK,↓zJ,↓reduceIte,zA,zB,zC,zD,zE,zF,zG,zH,zI,reduceCtorEq]
   refine zL fun K3 hK3=> ?_
   refine zL fun K hK=> ?_
   refine zM zP zN [] rfl ?_
   all_goals simp only [push_cast,↓zK,↓zJ,↓reduceIte,zA,zB,zC,zD,zE,zF,zG,zH,zI,reduceCtorEq]
   all_goals repeat'(first|(apply zO<;>(intro hg;(try simp only [push_cast]at hg)))|apply And.intro|(intro hg;(try simp only [push_cast]at hg)))
   all_goals first|exact gA|(exact zp (by omega))|(exact zQ (by simp only [push_cast];omega))|(exact zQ (by omega))|skip
   all_goals first|(refine hK _ ?_;clear hK K)|(simp only [push_cast];done)
   refine zT rfl (fun hc=> ?_) (fun hc=> ?_)<;>(try simp only [push_cast]at hc)
   ·
    refine zU ?_
    (try simp only [zR,zS,reduceIte,zF]);refine hK3 _ ?_
    refine zL fun K4 hK4=> ?_
    refine zV ?_
    refine zL fun K hK=> ?_
    refine zM zP zN [] rfl ?_
    all_goals simp only [push_cast,↓zK,↓zJ,↓reduceIte,zA,zB,zC,zD,zE,zF,zG,zH,zI,reduceCtorEq]
    all_goals repeat'(first|(apply zO<;>(intro hg;(try simp only [push_cast]at hg)))|apply And.intro|(intro hg;(try simp only [push_cast]at hg)))
    all_goals first|exact gA|(exact zp (by omega))|(exact zQ (by simp only [push_cast];omega))|(exact zQ (by omega))|skip
    all_goals first|(refine hK _ ?_;clear hK K)|(simp only [push_cast];done)
    refine zV ?_
    refine zh [8,22,23,24,25,26,27,28,29,30,31,32,33,34,35,36,37,38,39,40,41,42,43,44,45,46,47,48,49] [] (fun(i:Nat)=> [(8, .int .i64 i)]) (fun i=> []) (fun i=> []) (fun i=>i≤ps.length∧∀j,j<i→zq (gp ps j).ask v=false∧zq (gp ps j).give v=false) (fun i=>ps.length - i) 0 ?_ ⟨by omega,fun j hj=>by omega⟩ ?_
    ·
     refine zY rfl ?_ ?_ ?_<;>simp only [zf,ze,push_cast,↓zK,↓zJ,↓reduceIte,zA,zB,zC,zD,zE,zF,zG,zH,zI,reduceCtorEq]
    ·rintro i ⟨hi,hall⟩ KL1 hL1
     simp only [push_cast,↓zK,↓zJ,↓reduceIte,zA,zB,zC,zD,zE,zF,zG,zH,zI,reduceCtorEq]
     refine zL fun K5 hK5=> ?_
     refine zL fun K hK=> ?_
     refine zM zP zN [] rfl ?_
     all_goals simp only [push_cast,↓zK,↓zJ,↓reduceIte,zA,zB,zC,zD,zE,zF,zG,zH,zI,reduceCtorEq]
     all_goals repeat'(first|(apply zO<;>(intro hg;(try simp only [push_cast]at hg)))|apply And.intro|(intro hg;(try simp only [push_cast]at hg)))
     all_goals first|exact gA|(exact zp (by omega))|(exact zQ (by simp only [push_cast];omega))|(exact zQ (by omega))|skip
     all_goals first|(refine hK _ ?_;clear hK K)|(simp only [push_cast];done)
     refine zT rfl (fun hc=> ?_) (fun hc=> ?_)<;>(try simp only [push_cast]at hc)
     ·
      refine zU ?_
      (try simp only [zR,zS,reduceIte,zF]);refine hK5 _ ?_
      refine zL fun K6 hK6=> ?_
      refine zV ?_
      refine zL fun K hK=> ?_
      refine zd false zP zN ?_ rfl ?_
      ·kernel_rfl
      all_goals refine zj 7 fun K9 hK9=> ?_
      all_goals simp only [push_cast,↓zK,↓zJ,↓reduceIte,zA,zB,zC,zD,zE,zF,zG,zH,zI,reduceCtorEq]
      all_goals repeat'(first|(apply zO<;>(intro hg;(try simp only [push_cast]at hg)))|(refine⟨_,xY (gp ps i).ask v (hga i),?_⟩;simp only [push_cast,↓zK,↓zJ,↓reduceIte,zA,zB,zC,zD,zE,zF,zG,zH,zI,reduceCtorEq])|(refine⟨_,xY (gp ps i).give v (hgg i),?_⟩;simp only [push_cast,↓zK,↓zJ,↓reduceIte,zA,zB,zC,zD,zE,zF,zG,zH,zI,reduceCtorEq])|apply And.intro|(intro hg;(try simp only [push_cast]at hg)))
      all_goals first|exact gA|(exact zp (by omega))|(exact zQ (by simp only [push_cast];omega))|(exact zQ (by omega))|skip
      all_goals first|(refine hK9 _ ?_;clear hK9 K9)|(simp only [push_cast];done)
      all_goals refine zj 8 fun K9 hK9=> ?_
      all_goals simp only [push_cast,↓zK,↓zJ,↓reduceIte,zA,zB,zC,zD,zE,zF,zG,zH,zI,reduceCtorEq]
      all_goals repeat'(first|(apply zO<;>(intro hg;(try simp only [push_cast]at hg)))|(refine⟨_,xY (gp ps i).ask v (hga i),?_⟩;simp only [push_cast,↓zK,↓zJ,↓reduceIte,zA,zB,zC,zD,zE,zF,zG,zH,zI,reduceCtorEq])|(refine⟨_,xY (gp ps i).give v (hgg i),?_⟩;simp only [push_cast,↓zK,↓zJ,↓reduceIte,zA,zB,zC,zD,zE,zF,zG,zH,zI,reduceCtorEq])|apply And.intro|(intro hg;(try simp only [push_cast]at hg)))
      all_goals first|exact gA|(exact zp (by omega))|(exact zQ (by simp only [push_cast];omega))|(exact zQ (by omega))|skip
      all_goals first|(refine hK9 _ ?_;clear hK9 K9)|(simp only [push_cast];done)
      all_goals simp only [push_cast,↓zK,↓zJ,↓reduceIte,zA,zB,zC,zD,zE,zF,zG,zH,zI,reduceCtorEq]
      all_goals repeat'(first|(apply zO<;>(intro hg;(try simp only [push_cast]at hg)))|(refine⟨_,xY (gp ps i).ask v (hga i),?_⟩;simp only [push_cast,↓zK,↓zJ,↓reduceIte,zA,zB,zC,zD,zE,zF,zG,zH,zI,reduceCtorEq])|(refine⟨_,xY (gp ps i).give v (hgg i),?_⟩;simp only [push_cast,↓zK,↓zJ,↓reduceIte,zA,zB,zC,zD,zE,zF,zG,zH,zI,reduceCtorEq])|apply And.intro|(intro hg;(try simp only [push_cast]at hg)))
      all_goals first|exact gA|(exact zp (by omega))|(exact zQ (by simp only [push_cast];omega))|(exact zQ (by omega))|skip
      all_goals first|(refine hK _ ?_;clear hK K)|(simp only [push_cast];done)
      all_goals refine zT rfl (fun hc=> ?_) (fun hc=> ?_)
      all_goals(first|(cases hc;done)|skip)
      all_goals(try simp only [push_cast]at hc)
      all_goals try(
        refine zL fun K hK=> ?_
        refine zM zP zN [] rfl ?_
        all_goals simp only [push_cast,↓zK,↓zJ,↓reduceIte,zA,zB,zC,zD,zE,zF,zG,zH,zI,reduceCtorEq]
        all_goals repeat'(first|(apply zO<;>(intro hg;(try simp only [push_cast]at hg)))|apply And.intro|(intro hg;(try simp only [push_cast]at hg)))
        all_goals first|exact gA|(exact zp (by omega))|(exact zQ (by simp only [push_cast];omega))|(exact zQ (by omega))|skip
        all_goals first|(refine hK _ ?_;clear hK K)|(simp only [push_cast];done)
        refine zk ?_
        (try simp only [zR,zS,reduceIte,zF]);refine hK4 _ ?_
        refine zM zP zN [] rfl ?_
        all_goals simp only [push_cast,↓zK,↓zJ,↓reduceIte,zA,zB,zC,zD,zE,zF,zG,zH,zI,reduceCtorEq]
        all_goals repeat'(first|(apply zO<;>(intro hg;(try simp only [push_cast]at hg)))|apply And.intro|(intro hg;(try simp only [push_cast]at hg)))
        all_goals first|exact gA|(exact zp (by omega))|(exact zQ (by simp only [push_cast];omega))|(exact zQ (by omega))|skip
        refine hL0 _ ⟨v+1,by omega,by omega,?_⟩
        (try rw [List.take_of_length_le (l:=unP ps v) (by omega)])
        rw [zHq (zHI (i:=i) (by omega) (by first|exact .inl (by with_reducible assumption)|exact .inr (by with_reducible assumption)))]
        refine zY rfl ?_ ?_ ?_<;>simp only [zf,ze,push_cast,↓zK,↓zJ,↓reduceIte,zA,zB,zC,zD,zE,zF,zG,zH,zI,reduceCtorEq]
        all_goals(try(rw [List.length_append];rfl))
        done)
      refine zU ?_
      (try simp only [zR,zS,reduceIte,zF]);refine hK6 _ ?_
      refine zM zP zN [] rfl ?_
      all_goals simp only [push_cast,↓zK,↓zJ,↓reduceIte,zA,zB,zC,zD,zE,zF,zG,zH,zI,reduceCtorEq]
      all_goals repeat'(first|(apply zO<;>(intro hg;(try simp only [push_cast]at hg)))|apply And.intro|(intro hg;(try simp only [push_cast]at hg)))
      all_goals first|exact gA|(exact zp (by omega))|(exact zQ (by simp only [push_cast];omega))|(exact zQ (by omega))|skip
      refine hL1 _ ⟨i+1,⟨by omega,fun j hj=>(by
        by_cases hjk:j=i
        ·subst hjk;exact⟨by with_reducible assumption,by with_reducible assumption⟩
        ·exact hall j (by omega))⟩,by omega,?_⟩
      refine zY rfl ?_ ?_ ?_<;>simp only [zf,ze,push_cast,↓zK,↓zJ,↓reduceIte,zA,zB,zC,zD,zE,zF,zG,zH,zI,reduceCtorEq]
     ·
      refine zk ?_
      (try simp only [zR,zS,reduceIte,zF]);refine hK4 _ ?_
      refine zM zP zN [] rfl ?_
      all_goals simp only [push_cast,↓zK,↓zJ,↓reduceIte,zA,zB,zC,zD,zE,zF,zG,zH,zI,reduceCtorEq]
      all_goals repeat'(first|(apply zO<;>(intro hg;(try simp only [push_cast]at hg)))|apply And.intro|(intro hg;(try simp only [push_cast]at hg)))
      all_goals first|exact gA|(exact zp (by omega))|(exact zQ (by simp only [push_cast];omega))|(exact zQ (by omega))|skip
      refine hL0 _ ⟨v+1,by omega,by omega,?_⟩
      rw [zJC (zIm fun j hj=>hall j (by omega))]
      refine zY rfl ?_ ?_ ?_<;>simp only [zf,ze,push_cast,↓zK,↓zJ,↓reduceIte,zA,zB,zC,zD,zE,zF,zG,zH,zI,reduceCtorEq]
      all_goals(try(rw [List.length_append];rfl))
   ·
    refine zk ?_
    have hkv:v=n.toNat:=by omega
    subst hkv
    rw [show unP ps n.toNat=xH ps n from rfl]
    (try simp only [zR,zS,reduceIte,zF]);refine hK2 _ ?_
    refine zL fun K7 hK7=> ?_
    refine zL fun K hK=> ?_
    refine zM zP zN [] rfl ?_
    all_goals simp only [push_cast,↓zK,↓zJ,↓reduceIte,zA,zB,zC,zD,zE,zF,zG,zH,zI,reduceCtorEq]
    all_goals repeat'(first|(apply zO<;>(intro hg;(try simp only [push_cast]at hg)))|apply And.intro|(intro hg;(try simp only [push_cast]at hg)))
    all_goals first|exact gA|(exact zp (by omega))|(exact zQ (by simp only [push_cast];omega))|(exact zQ (by omega))|skip
    all_goals first|(refine hK _ ?_;clear hK K)|(simp only [push_cast];done)
    refine zT rfl (fun hc=> ?_) (fun hc=> ?_)<;>(try simp only [push_cast]at hc)
    ·
     refine zL fun K hK=> ?_
     refine zM zP zN [] rfl ?_
     all_goals simp only [push_cast,↓zK,↓zJ,↓reduceIte,zA,zB,zC,zD,zE,zF,zG,zH,zI,reduceCtorEq]
     all_goals repeat'(first|(apply zO<;>(intro hg;(try simp only [push_cast]at hg)))|apply And.intro|(intro hg;(try simp only [push_cast]at hg)))
     all_goals first|exact gA|(exact zp (by omega))|(exact zQ (by simp only [push_cast];omega))|(exact zQ (by omega))|skip
     all_goals first|(refine hK _ ?_;clear hK K)|(simp only [push_cast];done)
     refine zX ?_
     (try simp only [zR,zS])
     refine⟨Or.inl rfl,?_⟩
     simp only [zb,yD,yV,push_cast,↓zK,↓zJ,↓reduceIte,zA,zB,zC,zD,zE,zF,zG,zH,zI,reduceCtorEq]
     have h9:vC ps n=false:=zD2 (by omega)
     rw [ko h9,h9]
     all_goals first|exact⟨rfl,rfl⟩|rfl|(simp [dI,dII];done)
    ·
     refine zU ?_
     (try simp only [zR,zS,reduceIte,zF]);refine hK7 _ ?_
     have hn4:(xH ps n).length≤4:=by omega
     have hyes:=zD3 hok hn4
     have hsl:=YH (xH ps n)
     have h16:=XB hn4
     refine zL fun K hK=> ?_
     refine zM zP zN [] rfl ?_
     all_goals refine zx 3 fun K9 hK9=> ?_
     all_goals simp only [push_cast,↓zK,↓zJ,↓reduceIte,zA,zB,zC,zD,zE,zF,zG,zH,zI,reduceCtorEq]
     all_goals repeat'(first|(apply zO<;>(intro hg;(try simp only [push_cast]at hg)))|(refine⟨_,hS hn4,?_⟩;simp only [push_cast,↓zK,↓zJ,↓reduceIte,zA,zB,zC,zD,zE,zF,zG,zH,zI,reduceCtorEq])|apply And.intro|(intro hg;(try simp only [push_cast]at hg)))
     all_goals first|exact gA|(exact zp (by omega))|(exact zQ (by simp only [push_cast];omega))|(exact zQ (by omega))|skip
     all_goals first|(refine hK9 _ ?_;clear hK9 K9)|(simp only [push_cast];done)
     all_goals simp only [push_cast,↓zK,↓zJ,↓reduceIte,zA,zB,zC,zD,zE,zF,zG,zH,zI,reduceCtorEq]
     all_goals repeat'(first|(apply zO<;>(intro hg;(try simp only [push_cast]at hg)))|(refine⟨_,hS hn4,?_⟩;simp only [push_cast,↓zK,↓zJ,↓reduceIte,zA,zB,zC,zD,zE,zF,zG,zH,zI,reduceCtorEq])|apply And.intro|(intro hg;(try simp only [push_cast]at hg)))
     all_goals first|exact gA|(exact zp (by omega))|(exact zQ (by simp only [push_cast];omega))|(exact zQ (by omega))|skip
     all_goals first|(refine hK _ ?_;clear hK K)|(simp only [push_cast];done)
     refine zL fun K8 hK8=> ?_
     refine zL fun K hK=> ?_
     refine zM zP zN [] rfl ?_
     all_goals simp only [push_cast,↓zK,↓zJ,↓reduceIte,zA,zB,zC,zD,zE,zF,zG,zH,zI,reduceCtorEq]
     all_goals repeat'(first|(apply zO<;>(intro hg;(try simp only [push_cast]at hg)))|apply And.intro|(intro hg;(try simp only [push_cast]at hg)))
     all_goals first|exact gA|(exact zp (by omega))|(exact zQ (by simp only [push_cast];omega))|(exact zQ (by omega))|skip
     all_goals first|(refine hK _ ?_;clear hK K)|(simp only [push_cast];done)
     refine zV ?_
     refine zh [6,10,35,58,59,60,61,62,63,64,65,66,67,68,69,70,71,72,73,74,75,76,77,78,79,80] [144] (fun(u:Nat×List (List Int))=> [(10, .int .i64 u.1),(6, .bp 6 0),(0, .sl 0 [] 0 ps.length 64)]) (fun u=> [(6,[.sl 96 [] 0 (xH ps n).length 2, .sl 97 [] 0 u.2.length 27])]) (fun u=> [(96,⟨.ex,2,dI (xH ps n),none⟩),(97,⟨.ex,27,dII u.2,none⟩),(144,⟨.ex,27,vf (jk ps) (xD (xH ps n)) u.1,none⟩)]) (fun u=>u.1≤(xD (xH ps n)).length∧u.2=((xD (xH ps n)).take u.1).filter (jk ps)) (fun u=>(xD (xH ps n)).length - u.1) (0,[]) ?_ ⟨by omega,rfl⟩ ?_
     ·
      simp only [zEN,show dII ([]:List (List Int))= []from rfl]
      refine zY rfl ?_ ?_ ?_<;>simp only [zf,ze,push_cast,↓zK,↓zJ,↓reduceIte,zA,zB,zC,zD,zE,zF,zG,zH,zI,reduceCtorEq]
     ·rintro⟨k,o⟩ ⟨hk,ho⟩ KL2 hL2
      simp only at hk ho
      have hol:o.length≤(xD (xH ps n)).length:=by rw [ho];exact uW _ _ _
      have hrk:=Xd (xs:=(xH ps n)) k
      simp only [push_cast,↓zK,↓zJ,↓reduceIte,zA,zB,zC,zD,zE,zF,zG,zH,zI,reduceCtorEq]
      refine zL fun K9 hK9=> ?_
      refine zL fun K hK=> ?_
      refine zM zP zN [] rfl ?_
      all_goals simp only [push_cast,↓zK,↓zJ,↓reduceIte,zA,zB,zC,zD,zE,zF,zG,zH,zI,reduceCtorEq]
      all_goals repeat'(first|(apply zO<;>(intro hg;(try simp only [push_cast]at hg)))|apply And.intro|(intro hg;(try simp only [push_cast]at hg)))
      all_goals first|exact gA|(exact zp (by omega))|(exact zQ (by simp only [push_cast];omega))|(exact zQ (by omega))|skip
      all_goals first|(refine hK _ ?_;clear hK K)|(simp only [push_cast];done)
      refine zT rfl (fun hc=> ?_) (fun hc=> ?_)<;>(try simp only [push_cast]at hc)
      ·
       refine zU ?_
       (try simp only [zR,zS,reduceIte,zF]);refine hK9 _ ?_
       refine zL fun K10 hK10=> ?_
       refine zV ?_
       refine zL fun K hK=> ?_
       refine zM zP zN [] rfl ?_
       all_goals refine zx 6 fun K9 hK9=> ?_
       all_goals simp only [push_cast,↓zK,↓zJ,↓reduceIte,zA,zB,zC,zD,zE,zF,zG,zH,zI,reduceCtorEq]
       all_goals repeat'(first|(apply zO<;>(intro hg;(try simp only [push_cast]at hg)))|(refine⟨_,WD ps ha (gl (xD (xH ps n)) k) (by omega),?_⟩;simp only [push_cast,↓zK,↓zJ,↓reduceIte,zA,zB,zC,zD,zE,zF,zG,zH,zI,reduceCtorEq])|apply And.intro|(intro hg;(try simp only [push_cast]at hg)))
       all_goals first|exact gA|(exact zp (by omega))|(exact zQ (by simp only [push_cast];omega))|(exact zQ (by omega))|skip
       all_goals first|(refine hK9 _ ?_;clear hK9 K9)|(simp only [push_cast];done)
       all_goals simp only [push_cast,↓zK,↓zJ,↓reduceIte,zA,zB,zC,zD,zE,zF,zG,zH,zI,reduceCtorEq]
       all_goals repeat'(first|(apply zO<;>(intro hg;(try simp only [push_cast]at hg)))|(refine⟨_,WD ps ha (gl (xD (xH ps n)) k) (by omega),?_⟩;simp only [push_cast,↓zK,↓zJ,↓reduceIte,zA,zB,zC,zD,zE,zF,zG,zH,zI,reduceCtorEq])|apply And.intro|(intro hg;(try simp only [push_cast]at hg)))
       all_goals first|exact gA|(exact zp (by omega))|(exact zQ (by simp only [push_cast];omega))|(exact zQ (by omega))|skip
       all_goals first|(refine hK _ ?_;clear hK K)|(simp only [push_cast];done)
       refine zT rfl (fun hc=> ?_) (fun hc=> ?_)<;>(try simp only [push_cast]at hc)
       ·
        refine zw false zP zN yj ?_ rfl ?_
        ·kernel_rfl
        intro E hE
        all_goals simp only [push_cast,↓zK,↓zJ,↓reduceIte,zA,zB,zC,zD,zE,zF,zG,zH,zI,reduceCtorEq]
        all_goals repeat'(first|(apply zO<;>(intro hg;(try simp only [push_cast]at hg)))|apply And.intro|(intro hg;(try simp only [push_cast]at hg)))
        all_goals first|exact gA|(refine hE _ _ ?_ ?_;kernel_rfl)|(exact zp (by omega))|(exact zQ (by simp only [push_cast];omega))|(exact zQ (by omega))|skip
        all_goals clear hE E
        (try simp only [zR,zS,reduceIte,zF]);refine hK10 _ ?_
        refine yv [.sl 2, .sl 27] 6 ?_
        simp only [push_cast,↓zK,↓zJ,↓reduceIte,zA,zB,zC,zD,zE,zF,zG,zH,zI,reduceCtorEq]
        refine zM zP zN [] rfl ?_
        all_goals simp only [push_cast,↓zK,↓zJ,↓reduceIte,zA,zB,zC,zD,zE,zF,zG,zH,zI,reduceCtorEq]
        all_goals repeat'(first|(apply zO<;>(intro hg;(try simp only [push_cast]at hg)))|apply And.intro|(intro hg;(try simp only [push_cast]at hg)))
        all_goals first|exact gA|(exact zp (by omega))|(exact zQ (by simp only [push_cast];omega))|(exact zQ (by omega))|skip
        refine hL2 _ ⟨(k+1,o++ [gl (xD (xH ps n)) k]),⟨by simp only;omega,by simp only;rw [kq (by omega) (decide_eq_true (by omega)),←ho]⟩,by simp only;omega,?_⟩
        (try rw [List.take_of_length_le (l:=gl (xD (xH ps n)) k) (by omega)])
        (try rw [List.take_of_length_le (l:=o) (by omega)])
        (try rw [zAL (p:=jk ps) (by omega) (decide_eq_true (by omega))])
        simp only
        refine zY rfl ?_ ?_ ?_<;>simp only [zf,ze,push_cast,↓zK,↓zJ,↓reduceIte,zA,zB,zC,zD,zE,zF,zG,zH,zI,reduceCtorEq]
        all_goals(try(rw [List.length_append];rfl))
       ·
        refine zU ?_
        (try simp only [zR,zS,reduceIte,zF]);refine hK10 _ ?_
        refine yv [.sl 2, .sl 27] 6 ?_
        simp only [push_cast,↓zK,↓zJ,↓reduceIte,zA,zB,zC,zD,zE,zF,zG,zH,zI,reduceCtorEq]
        refine zM zP zN [] rfl ?_
        all_goals simp only [push_cast,↓zK,↓zJ,↓reduceIte,zA,zB,zC,zD,zE,zF,zG,zH,zI,reduceCtorEq]
        all_goals repeat'(first|(apply zO<;>(intro hg;(try simp only [push_cast]at hg)))|apply And.intro|(intro hg;(try simp only [push_cast]at hg)))
        all_goals first|exact gA|(exact zp (by omega))|(exact zQ (by simp only [push_cast];omega))|(exact zQ (by omega))|skip
        refine hL2 _ ⟨(k+1,o),⟨by simp only;omega,by simp only;rw [zAF (by omega) (decide_eq_false (by omega)),←ho]⟩,by simp only;omega,?_⟩
        rw [ky (p:=jk ps) (by omega) (decide_eq_false (by omega))]
        simp only
        refine zY rfl ?_ ?_ ?_<;>simp only [zf,ze,push_cast,↓zK,↓zJ,↓reduceIte,zA,zB,zC,zD,zE,zF,zG,zH,zI,reduceCtorEq]
        all_goals(try(rw [List.length_append];rfl))
      ·
       refine zk ?_
       have hkk:k=(xD (xH ps n)).length:=by omega
       subst hkk
       rw [List.take_length]at ho
       (try simp only [zR,zS,reduceIte,zF]);refine hK8 _ ?_
       refine zL fun K hK=> ?_
       refine zM zP zN [] rfl ?_
       all_goals simp only [push_cast,↓zK,↓zJ,↓reduceIte,zA,zB,zC,zD,zE,zF,zG,zH,zI,reduceCtorEq]
       all_goals repeat'(first|(apply zO<;>(intro hg;(try simp only [push_cast]at hg)))|apply And.intro|(intro hg;(try simp only [push_cast]at hg)))
       all_goals first|exact gA|(exact zp (by omega))|(exact zQ (by simp only [push_cast];omega))|(exact zQ (by omega))|skip
       all_goals first|(refine hK _ ?_;clear hK K)|(simp only [push_cast];done)
       refine zX ?_
       (try simp only [zR,zS])
       refine⟨Or.inl rfl,?_⟩
       simp only [zb,yD,yV,push_cast,↓zK,↓zJ,↓reduceIte,zA,zB,zC,zD,zE,zF,zG,zH,zI,reduceCtorEq]
       rw [zCp hyes,hyes]
       subst ho
       all_goals first|rfl|exact⟨rfl,rfl⟩|(simp;done)
theorem zF2 (f:Fm)(r:List Int)(v:Int):0≤yp f r v∧yp f r v≤2*r.length+2:=by
 unfold yp
 have :=zG9 r v
 split<;>split<;>omega
section
variable {a:Ar} {f:Fm} {s:Int}
theorem XP (h:fgB a f s=true):fgC a f s=true∧okQ (usA a) rcF ⟨s,f.names⟩=true:=by
 unfold fgB at h
 rw [Bool.and_eq_true]at h
 exact h
theorem Kl (h:fgB a f s=true):fgG a f s=gmA a rcF (prF f) ⟨s,f.names⟩ (plA a rcF ⟨s,f.names⟩).length∧fgP a f s=plA a rcF ⟨s,f.names⟩:=by
 obtain⟨h1,h2⟩:=XP h
 unfold fgG fgP gmR plR
 rw [h1,h2,Bool.and_self,if_pos rfl,if_pos rfl]
 unfold plA
 exact⟨Eq.refl _,Eq.refl _⟩
theorem zGT {p:Plc}(h:vh f p.record=true):0≤prF f p∧prF f p≤40:=by
 have h1:=(qj h).2.2.1
 have h2:=zF2 f p.record p.at_
 unfold prF
 omega
theorem zD6 (h:fgB a f s=true):qB (fgG a f s)=true:=by
 obtain⟨h1,h2⟩:=XP h
 obtain⟨k1,k2,k3⟩:=vw h1
 rw [(Kl h).1]
 exact zEI k1 k3 h2 fun p _ _ hp=>zGT hp
theorem zG8 (h:fgB a f s=true):QLn 256 (fgP a f s):=by
 obtain⟨h1,h2⟩:=XP h
 obtain⟨k1,k2,k3⟩:=vw h1
 rw [(Kl h).2]
 have h3:=(JA (n:=(plA a rcF ⟨s,f.names⟩).length) h2 rfl).1
 refine⟨h3,fun p hp=> ?_⟩
 have h4:=(wd k1 k3 257 p hp).2.2
 have :=(qj h4).2.2.1
 omega
theorem fgC_n (h:fgC a f s=true):xg f a.owner.length=true:=by
 unfold fgC at h
 rw [Bool.and_eq_true,Bool.and_eq_true]at h
 have h2:=h.2.1
 unfold Xm at h2
 rw [Bool.and_eq_true]at h2
 exact h2.2
theorem zDQ (h:fgB a f s=true){l:Ls}(hl:qG (fgG a f s).a l=true):
  ((∀j,j<l.stem.length→0≤gi l.stem j∧gi l.stem j<((fgP a f s).length:Int))∧∀j,j<l.loop.length→0≤gi l.loop j∧gi l.loop j<((fgP a f s).length:Int))∧
  qG a ⟨atL (fgP a f s) l.stem,atL (fgP a f s) l.loop⟩=true∧
  (Int.tmod (wD (fgG a f s) l.loop l.loop.length) 2=0↔ZP f (vV (atL (fgP a f s) l.loop) a.owner.length)=true):=by
 obtain⟨h1,h2⟩:=XP h
 obtain⟨k1,k2,k3⟩:=vw h1
 rw [(Kl h).1]at hl⊢
 rw [(Kl h).2]
 have hb:=zBF k1 k3 h2 hl
 obtain⟨g1,g2,g3⟩:=xP.1 hl
 rw [Vz]at g2
 have hall:=wd k1 k3 257
 have hw:=XF l
 have hst: ∀j,j<l.stem.length→gi (yQ l) j=gi l.stem j:=fun j hj=>by
  unfold yQ
  rw [List.append_assoc]
  unfold gi
  rw [List.getD_eq_getElem?_getD,List.getElem?_append_left hj,List.getD_eq_getElem?_getD]
 have hal:=(yT k1).2.1
 have hpr: ∀v,v<(plA a rcF ⟨s,f.names⟩).length→0≤prF f (gq (plA a rcF ⟨s,f.names⟩) v):=fun v hv=>(zGT (hall _ (vx hv)).2.2).1
 obtain⟨t0,t1,t2⟩:=zFo (pr:=prF f) h2 hpr hl
 have hpos:=g1.2.1
 have hlp: ∀t,gq (plA a rcF ⟨s,f.names⟩) (gi l.loop (t%l.loop.length)).toNat=plT (plA a rcF ⟨s,f.names⟩) l t:=fun t=>rfl
 have hin: ∀t,t<l.loop.length→0≤gi l.loop t∧gi l.loop t<((plA a rcF ⟨s,f.names⟩).length:Int):=fun t ht=>by
  have :=(Ws hl ht).1
  rw [Vz]at this
  exact this
 refine⟨⟨fun j hj=>by have :=g2 j (by omega);rw [hst j hj]at this;exact this,hin⟩,hb,?_⟩
 have hL:qN f l.loop.length (fun t=>(plT (plA a rcF ⟨s,f.names⟩) l t).record) (fun t=>(plT (plA a rcF ⟨s,f.names⟩) l t).at_):=by
  refine⟨by omega,fun t=> ?_,fun t=> ?_,fun t=>by show(plT _ l (t+l.loop.length)).record=_;rw [zCC],fun t=>by show(plT _ l (t+l.loop.length)).at_=_;rw [zCC]⟩
  ·have h9:=hin (t%l.loop.length) (Nat.mod_lt _ (by omega))
   exact(hall _ (vx (ps:=plA a rcF ⟨s,f.names⟩) (k:=(gi l.loop (t%l.loop.length)).toNat) (by omega))).2.2
  ·exact zEZ h2 hl t
 have hmem: ∀x:Int,zq (atL (plA a rcF ⟨s,f.names⟩) l.loop) x=true↔∃t,t<l.loop.length∧(plT (plA a rcF ⟨s,f.names⟩) l t).at_=x:=fun x=>by
  rw [yR]
  constructor
  ·intro hx
   obtain⟨t,ht,e⟩:=Kq hx
   rw [qk]at ht
   rw [QI ht]at e
   exact⟨t,ht,by unfold plT;rw [Nat.mod_eq_of_lt ht];exact e⟩
  ·rintro⟨t,ht,e⟩
   unfold plT at e
   rw [Nat.mod_eq_of_lt ht]at e
   rw [←e,←QI ht,Zu (by rw [qk];exact ht)]
   exact List.getElem_mem _
 have hnm:=fgC_n h1
 have hlaw:=hL.law (met:=vV (atL (plA a rcF ⟨s,f.names⟩) l.loop) a.owner.length) t1 t2 fun x hx=>by
  rw [Qu,←hmem]
  constructor
  ·exact fun h=>h.2
  ·intro h9
   refine⟨?_,h9⟩
   have hs:=(qO hnm).1
   have :=zHg hs hx
   omega
 rw [Kk k2 (zFp _ (by omega)),←hlaw]
 rw [Int.tmod_eq_emod_of_nonneg t0]
end
theorem zIA {a:Ar}(h:yC a=true):a.Ln 1048576:=by
 have hl:=yT h
 refine⟨by unfold LnI;omega,by omega,fun r hr=> ?_⟩
 obtain⟨v,hv,rfl⟩:=WJ hr
 have :=(vp h (v:=v) (by omega)).2.2.2.1
 omega
theorem zCM (code:List Int)(seed:Int)(n j:Nat): ∀t,∀p∈wpL code seed n j t,p.ask.length≤n∧p.give.length≤n
 |0,p,h=>by rw [zGk]at h;cases h
 |t+1,p,h=>by
  rw [zDU,List.mem_append,List.mem_singleton]at h
  rcases h with h|rfl
  ·exact zCM code seed n j t p h
  ·exact⟨XG _ _ _ _,XG _ _ _ _⟩
theorem zJE {code:List Int}(hby:xe code)(seed:Int)(j:Nat){n:Nat}(hn:n≤256){most:Int}(hm:0≤most∧most≤4):PLn 1048576 (wpP code seed n j most)∧(wpP code seed n j most).length≤most.toNat:=by
 have h1:=wM hby seed j (n:=most+1) (by omega)
 have h2:(wpP code seed n j most).length=wpK code seed j most:=kN ..
 have h3:wpK code seed j most≤most.toNat:=by unfold wpK;omega
 refine⟨⟨by omega,fun p hp=> ?_⟩,by omega⟩
 have :=zCM code seed n (j+1) _ p hp
 exact⟨by show p.ask.length≤_;omega,by show p.give.length≤_;omega⟩
def kpL (q:Nat→Bool)(rows:List (List Int))(k:Nat):List (List Int):=((List.range k).filter q).map (gl rows)
theorem kpL_0 (q:Nat→Bool)(rows:List (List Int)):kpL q rows 0= []:=rfl
theorem zHN {q:Nat→Bool}{rows:List (List Int)}{k:Nat}(h:q k=true):kpL q rows (k+1)=kpL q rows k++ [gl rows k]:=by unfold kpL;rw [List.range_succ,List.filter_append,List.map_append];simp [h]
theorem zIs {q:Nat→Bool}{rows:List (List Int)}{k:Nat}(h:q k=false):kpL q rows (k+1)=kpL q rows k:=by unfold kpL;rw [List.range_succ,List.filter_append];simp [h]
theorem zER (q:Nat→Bool)(rows:List (List Int))(k:Nat):(kpL q rows k).length≤k:=by unfold kpL;rw [List.length_map];exact Nat.le_trans (List.length_filter_le _ _) (by simp)
theorem zIr {q:Nat→Bool}{rows:List (List Int)}(h:ZD 1048576 rows){k:Nat}(hk:k≤1048576):ZD 1048576 (kpL q rows k):=by
 refine⟨Nat.le_trans (zER q rows k) hk,fun r hr=> ?_⟩
 unfold kpL at hr
 obtain⟨i,-,rfl⟩:=List.mem_map.1 hr
 exact qt h i
def vy (q:Nat→Bool)(rows:List (List Int))(k:Nat):List D:=(List.range k).map (fun i=>if q i then D.hole else .lst 2 (dI (gl rows i)))++dII (rows.drop k)
theorem zIl (q:Nat→Bool)(rows:List (List Int)):vy q rows 0=dII rows:=by simp [vy]
theorem zFj {q:Nat→Bool}{rows:List (List Int)}{k:Nat}(h:k≤rows.length):(vy q rows k).length=rows.length:=by simp [vy,dII];omega
theorem Wo (q:Nat→Bool)(rows:List (List Int))(k:Nat):(vy q rows k)[k]? =(dII rows)[k]? :=by
 unfold vy dII
 have hl:((List.range k).map (fun i=>if q i then D.hole else .lst 2 (dI (gl rows i)))).length=k:=by simp
 rw [List.getElem?_append_right (by omega),hl,Nat.sub_self,List.getElem?_map,List.getElem?_map,List.getElem?_drop]
 rfl
theorem zED (q:Nat→Bool)(rows:List (List Int))(k:Nat):xK (vy q rows k) k=dI (gl rows k):=by
 rw [←Jt]
 unfold xK
 rw [Wo]
theorem zl {q:Nat→Bool}{rows:List (List Int)}{k:Nat}(h:k<rows.length):qS (vy q rows k) k=2:=by
 rw [←zQ h]
 unfold qS
 rw [Wo]
theorem zDW (q:Nat→Bool)(rows:List (List Int))(k:Nat):xS (.sl 2) (vy q rows k) k=(k<rows.length):=by
 rw [←Jj]
 unfold xS
 rw [Wo]
theorem zBP (q:Nat→Bool)(rows:List (List Int))(k:Nat):zm (vy q rows k) [k]=(k<rows.length):=by
 rw [←Qx]
 unfold zm
 rw [Wo]
theorem Uu {rows:List (List Int)}{k:Nat}(h:k<rows.length):rows.drop k=gl rows k::rows.drop (k+1):=by
 rw [List.drop_eq_getElem_cons h]
 congr 1
 unfold gl
 rw [List.getD_eq_getElem?_getD,List.getElem?_eq_getElem h]
 rfl
theorem zFc {q:Nat→Bool}{rows:List (List Int)}{k:Nat}(h:k<rows.length)(hq:q k=true):(vy q rows k).set k .hole=vy q rows (k+1):=by
 have hl:((List.range k).map (fun i=>if q i then D.hole else .lst 2 (dI (gl rows i)))).length=k:=by simp
 unfold vy
 rw [List.set_append_right _ _ (by omega),hl,Nat.sub_self,List.range_succ,List.map_append,List.append_assoc,Uu h]
 simp [dII,hq]
theorem zEM {q:Nat→Bool}{rows:List (List Int)}{k:Nat}(h:k<rows.length)(hq:q k=false):vy q rows k=vy q rows (k+1):=by
 unfold vy
 rw [List.range_succ,List.map_append,List.append_assoc,Uu h]
 simp [dII,hq]
attribute [push_cast] zED zDW zBP
end Go.Proofs.Ytipplkjdmdlhpaa
