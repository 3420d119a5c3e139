/- slices.SortFunc with slices.Compare at rows of whole numbers: rows in the order of their words. -/
import Derived.Shelf.SlSortCmp.NoneTotal
import Derived.Shelf.SlicesG.Cmp
import Derived.Test.YtggpbepdeilpgaaB12zmt
import Derived.Test.YtggpbepdeilpgaaB9zmt
import Derived.Test.YtggpbepdeilpgaaGWzmt
import Derived.Test.YtggpbepdeilpgaaB11zmt
import Derived.Test.YtggpbepdeilpgaaB4zmt
namespace Go.Proofs.Ytggpbepdeilpgaa
open Go Go.RowKit Go.Sort Go.Shelf
set_option linter.unusedVariables false
set_option linter.unusedSimpArgs false
def yf :List Int→List Int→Int
 | [],[]=>0
 | [],_::_=> -1
 |_::_,[]=>1
 |x::xs,y::ys=>if x<y then -1 else if y<x then 1 else yf xs ys
theorem WG : ∀a,yf a a=0
 | []=>rfl
 |x::a=>by simp only [yf];rw [if_neg (by omega),if_neg (by omega)];exact WG a
theorem kH : ∀a b c,yf a b<0→yf b c<0→yf a c<0
 | [],[],c,h,_=>by simp [yf]at h
 | [],y::b,[],_,h=>by simp [yf]at h
 | [],y::b,z::c,_,_=>by simp [yf]
 |x::a,[],c,h,_=>by simp [yf]at h
 |x::a,y::b,[],_,h=>by simp [yf]at h
 |x::a,y::b,z::c,h1,h2=>by
  have ih:=kH a b c
  simp only [yf]at h1 h2⊢
  by_cases p1:x<y<;>by_cases p2:y<x<;>by_cases p3:y<z<;>by_cases p4:z<y<;>by_cases p5:x<z<;>by_cases p6:z<x<;>simp only [p1,p2,p3,p4,p5,p6,if_true,if_false]at h1 h2⊢ <;>first|omega|exact ih h1 h2
theorem KA : ∀a b c,¬yf a b<0→¬yf b c<0→¬yf a c<0
 | [],[],c,_,h=>h
 | [],y::b,c,h,_=>by simp [yf]at h
 |x::a,[],[],_,_=>by simp [yf]
 |x::a,[],z::c,_,h=>by simp [yf]at h
 |x::a,y::b,[],_,h=>by simp [yf]
 |x::a,y::b,z::c,h1,h2=>by
  have ih:=KA a b c
  simp only [yf]at h1 h2⊢
  by_cases p1:x<y<;>by_cases p2:y<x<;>by_cases p3:y<z<;>by_cases p4:z<y<;>by_cases p5:x<z<;>by_cases p6:z<x<;>simp only [p1,p2,p3,p4,p5,p6,if_true,if_false]at h1 h2⊢ <;>first|omega|exact ih h1 h2
theorem zCd : ∀a b,¬yf a b<0→¬yf b a<0→a=b
 | [],[],_,_=>rfl
 | [],y::b,h,_=>by simp [yf]at h
 |x::a,[],_,h=>by simp [yf]at h
 |x::a,y::b,h1,h2=>by
  simp only [yf]at h1 h2
  by_cases p1:x<y
  ·rw [if_pos p1]at h1;omega
  ·by_cases p2:y<x
   ·rw [if_pos p2]at h2;omega
   ·rw [if_neg p1,if_neg p2]at h1
    rw [if_neg p2,if_neg p1]at h2
    rw [zCd a b h1 h2,show x=y by omega]
theorem YN : ∀(k:Nat) (xs ys:List Int),k≤xs.length→k≤ys.length→(∀j,j<k→xs[j]! =ys[j]!)→yf xs ys=yf (xs.drop k) (ys.drop k)
 |0,_,_,_,_,_=>rfl
 |k+1,[],_,h,_,_=>by simp at h
 |k+1,_::_,[],_,h,_=>by simp at h
 |k+1,x::xs,y::ys,h1,h2,h=>by
  have h0:x=y:=h 0 (by omega)
  subst h0
  simp only [yf,List.drop_succ_cons]
  rw [if_neg (by omega),if_neg (by omega)]
  exact YN k xs ys (by simpa using h1) (by simpa using h2) (fun j hj=>by have :=h (j+1) (by omega);simpa using this)
theorem Ye {xs:List Int}{k:Nat}(h:k<xs.length):xs.drop k=xs[k]! ::xs.drop (k+1):=by
 rw [List.drop_eq_getElem_cons h,getElem!_pos xs k h]
theorem zIq {xs ys:List Int}{k:Nat}(h1:k<xs.length)(h2:k<ys.length)(h: ∀j,j<k→xs[j]! =ys[j]!)(hne: ¬xs[k]! =ys[k]!):yf xs ys=Lib.compareInt xs[k]! ys[k]! :=by
 rw [YN k xs ys (by omega) (by omega) h,Ye h1,Ye h2]
 generalize xs[k]! =x at hne⊢
 generalize ys[k]! =y at hne⊢
 simp only [yf]
 unfold Lib.compareInt
 by_cases p:x<y
 ·rw [if_pos p,if_pos p]
 ·have h9:y<x:=by omega
  rw [if_neg p,if_pos h9,if_neg p,if_pos h9]
theorem zEx {xs ys:List Int}{k:Nat}(h1:k<xs.length)(h2:k=ys.length)(h: ∀j,j<k→xs[j]! =ys[j]!):yf xs ys=1:=by
 rw [YN k xs ys (by omega) (by omega) h,Ye h1,show ys.drop k= []from List.drop_eq_nil_of_le (by omega)]
 rfl
theorem zDq {xs ys:List Int}(h2:xs.length<ys.length)(h: ∀j,j<xs.length→xs[j]! =ys[j]!):yf xs ys= -1:=by
 rw [YN xs.length xs ys (by omega) (by omega) h,Ye h2,show xs.drop xs.length= []from List.drop_eq_nil_of_le (by omega)]
 rfl
theorem zEy {xs ys:List Int}(h2:xs.length=ys.length)(h: ∀j,j<xs.length→xs[j]! =ys[j]!):yf xs ys=0:=by
 rw [YN xs.length xs ys (by omega) (by omega) h,show ys.drop xs.length= []from List.drop_eq_nil_of_le (by omega),show xs.drop xs.length= []from List.drop_eq_nil_of_le (by omega)]
 rfl
def leL (a b:List Int):Bool:= !decide (yf b a<0)
def vG (xs:List (List Int)):List (List Int):=xs.mergeSort leL
theorem Qf {a b:List Int}:leL a b=true↔¬yf b a<0:=by simp [leL]
theorem zKc (a b c:List Int)(h1:leL a b=true)(h2:leL b c=true):leL a c=true:=by
 rw [Qf]at*
 exact KA c b a h2 h1
theorem zJD (a b:List Int):(leL a b||leL b a)=true:=by
 rw [Bool.or_eq_true,Qf,Qf]
 by_cases h:yf b a<0
 ·right
  intro h2
  have :=kH a b a h2 h
  rw [WG]at this
  omega
 ·exact .inl h
theorem UA :vG []= []:=by simp [vG]
theorem Zi (xs:List (List Int)):(vG xs).Perm xs:=List.mergeSort_perm ..
theorem Xr (xs:List (List Int)):(vG xs).length=xs.length:=List.length_mergeSort ..
theorem zHe {xs ts:List (List Int)}(h1:ts.Perm xs)(h2:ts.Pairwise fun a b=>leL a b=true):ts=vG xs:=by
 refine List.Perm.eq_of_pairwise (le:=fun a b=>leL a b=true) (fun a b _ _ ha hb=> ?_) h2 (List.pairwise_mergeSort zKc zJD xs) (h1.trans (Zi xs).symm)
 rw [Qf]at ha hb
 exact zCd a b hb ha
theorem zDp (x y:Int)(W:World):Calls Try.prog 87 #[.int .i64 x, .int .i64 y] W fun e w'=>e= .returned (.int .i64 (Lib.compareInt x y))∧w'=W:=AnyG.cmp_Compare_int zIR x y W
theorem WH {x y:Int}:Lib.compareInt x y=0↔x=y:=by
 unfold Lib.compareInt
 by_cases h1:x<y
 ·simp [h1];omega
 ·by_cases h2:y<x
  ·simp [h1,h2];omega
  ·simp [h1,h2];omega
set_option maxHeartbeats 2000000 in
theorem UH (b1 o1 c b2 o2 d:Nat)(xs ys:List Int)(w:World)(hbx:xs.length≤1048576)(hby:ys.length≤1048576)(hc1: ∀j,j<xs.length→w.cell? ⟨b1,o1+j,none⟩=some (.int .i64 xs[j]!))(hc2: ∀j,j<ys.length→w.cell? ⟨b2,o2+j,none⟩=some (.int .i64 ys[j]!)):
  Calls Try.prog 75 #[.slice (some ⟨b1,o1,none⟩) xs.length c, .slice (some ⟨b2,o2,none⟩) ys.length d] w fun e w'=>e= .returned (.int .i64 (yf xs ys))∧∃q,w'=w.drewN q:=by
 obtain⟨n,hn⟩: ∃n,n=xs.length:=⟨_,rfl⟩
 obtain⟨m,hm⟩: ∃m,m=ys.length:=⟨_,rfl⟩
 have hn9:=Lib.hid hn
 have hm9:=Lib.hid hm
 rw [←hn]at hbx hc1
 rw [←hm]at hby hc2
 rw [←hn,←hm]
 obtain⟨r,hr⟩: ∃r,r=yf xs ys:=⟨_,rfl⟩
 rw [←hr]
 have hr9:=Lib.hid hr
 clear hn hm hr
 have hcal:=fun x y W=>zDp x y W
 go_enter Try.func75,Try.ntmps75
 go_wp2_with fail
 go_loop [11] (fun i=> ∃q:Nat,q≤n∧q≤m∧i= .int .i64 q∧Hid (∀j,j<q→xs[j]! =ys[j]!)) (fun i=>n - (intOf i).toNat)
 case atStart=>exact⟨0,by omega,by omega,rfl,fun j hj=>by omega⟩
 case round=>
  obtain⟨q,hq,hq2,rfl,hall⟩:=hrel
  by_cases hlt:q<n
  ·have g1:=hc1 q hlt
   by_cases hlm:q<m
   ·have g2:=hc2 q hlm
    clear hc1 hc2
    obtain⟨x,hx⟩: ∃x,x=xs[q]! :=⟨_,rfl⟩
    obtain⟨y,hy⟩: ∃y,y=ys[q]! :=⟨_,rfl⟩
    rw [←hx]at g1
    rw [←hy]at g2
    have hx9:=Lib.hid hx
    have hy9:=Lib.hid hy
    clear hx hy
    have hca:=hcal x y w
    by_cases he:x=y
    ·have e0:=WH.2 he
     rw [e0]at hca
     have he9:=Lib.hid he
     clear he e0
     go_wp2_with (go_at_call 87;refine hca.mono ?_;rintro e w' ⟨rfl,rfl⟩)
     go_round
     case rel=>exact⟨q+1,by omega,by omega,by go_num,fun j hj=>by
      by_cases hjk:j=q
      ·subst hjk;rw [←hx9.out,←hy9.out];exact he9.out
      ·exact hall.out j (by omega)⟩
     case measure=>simp [intOf];omega
    ·have hr:r=Lib.compareInt x y:=by
      rw [hr9.out,hx9.out,hy9.out]
      exact zIq (by rw [←hn9.out];exact hlt) (by rw [←hm9.out];exact hlm) hall.out (by rw [←hx9.out,←hy9.out];exact he)
     have e0: ¬Lib.compareInt x y=0:=fun h=>he (WH.1 h)
     rw [←hr]at hca e0
     have e1:(r==0)=false:=by simpa using e0
     clear he e0 hr
     go_wp2_with (go_at_call 87;refine hca.mono ?_;rintro e w' ⟨rfl,rfl⟩)
     go_ret
     exact⟨rfl,0,rfl⟩
   ·have hr:r=1:=by
     rw [hr9.out]
     exact zEx (k:=q) (by rw [←hn9.out];exact hlt) (by rw [←hm9.out];omega) hall.out
    have hqm:q=m:=by omega
    subst hqm
    clear hc1 hc2
    go_wp2_with fail
    go_ret
    exact⟨by first|rfl|(rw [hr];rfl),0,rfl⟩
  ·have hqn:q=n:=by omega
   subst hqn
   clear hc1 hc2
   by_cases hnm:q<m
   ·have hr:r= -1:=by
     rw [hr9.out]
     exact zDq (by rw [←hn9.out,←hm9.out];exact hnm) (fun j hj=>hall.out j (by rw [hn9.out];exact hj))
    go_wp2_with fail
    go_ret
    exact⟨by first|rfl|(rw [hr];rfl),0,rfl⟩
   ·have hr:r=0:=by
     rw [hr9.out]
     exact zEy (by rw [←hn9.out,←hm9.out];omega) (fun j hj=>hall.out j (by rw [hn9.out];exact hj))
    go_wp2_with fail
    go_ret
    exact⟨by first|rfl|(rw [hr];rfl),0,rfl⟩
section
variable {α:Type} [Inhabited α] (enc:α→Value)
theorem zCt {w:World}{g:Nat}{cur:Array Value}{e:TypeId}{ss:List α}(hb:w.heap[g]? =some (.cells cur e (0,0)))(ht:cur.toList.take ss.length=ss.map enc):Holds enc w g 0 ss.toArray:=fun j hj=>by
 have hj':j<ss.length:=by simpa using hj
 refine⟨?_,by simp [World.frozen?,hb]⟩
 have h1:=congrArg (fun l:List Value=>l[j]?) ht
 simp only [List.getElem?_take_of_lt hj',List.getElem?_map]at h1
 have h2:w.cell? ⟨g,0+j,none⟩=cur.toList[j]? :=by rw [Nat.zero_add,Array.getElem?_toList];simp [World.cell?,hb]
 rw [h2,h1]
 simp [hj']
theorem zKY {w:World}{g n:Nat}{os:Array Obj}{cur:Array Value}{e:TypeId}{fr:Nat×Nat}(d:Array α)(hb:w.heap[g]? =some (.cells cur e fr)):(sortWorld enc w g 0 n d os).heap[g]? =some (.cells (putCells enc 0 d cur) e fr):=by
 have hg:g<w.heap.size:=(Array.getElem?_eq_some_iff.1 hb).1
 unfold sortWorld
 rw [heap_grow_old _ _ (by simpa using hg)]
 simp [putRow,mapBlock,Sort.ahead,Array.getElem?_modify,hb,onCells]
theorem zCq {w:World}{g n:Nat}{os:Array Obj}(d:Array α):w.grownBy (sortWorld enc w g 0 n d os) (some g):=by
 unfold sortWorld
 refine⟨rfl,rfl,rfl,by simp,fun k hk hne=> ?_⟩
 rw [heap_grow_old _ _ (by simpa using hk)]
 have :g≠k:=fun e=>hne (by rw [e])
 simp [putRow,mapBlock,Sort.ahead,Array.getElem?_modify,this]
theorem zLD (cur:Array Value)(ts:List α)(h:ts.length≤cur.size):(putCells enc 0 ts.toArray cur).toList.take ts.length=ts.map enc:=by
 refine List.ext_getElem? fun j=> ?_
 by_cases hj:j<ts.length
 ·rw [List.getElem?_take_of_lt hj,Array.getElem?_toList]
  simp [putCells,hj,show j<cur.size by omega]
 ·rw [List.getElem?_take_eq_none (by omega),List.getElem?_eq_none (by simp;omega)]
end
theorem Kw {w w':World}{b:Nat}(h:w'.heap[b]? =w.heap[b]?)(o:Nat):w'.cell? ⟨b,o,none⟩=w.cell? ⟨b,o,none⟩:=by
 unfold World.cell?
 simp only [h]
def JS :List Nat→Nat→Nat
 | [],_=>0
 |a::l,k=>if a=k then 0 else JS l k+1
theorem zBI : ∀{l:List Nat} {j k:Nat},l.Nodup→l[j]? =some k→JS l k=j
 | [],j,k,_,h=>by simp at h
 |a::l,0,k,_,h=>by
  simp at h
  subst h
  simp [JS]
 |a::l,j+1,k,hn,h=>by
  rw [List.nodup_cons]at hn
  have h2:l[j]? =some k:=by simpa using h
  have :a≠k:=fun e=>hn.1 (by rw [e];exact List.mem_of_getElem? h2)
  simp only [JS,if_neg this,zBI hn.2 h2]
def zBC (ps:List Nat)(ow:Nat→Option Pl):Nat→Option Pl:=fun b=>match ow b with
 |some (.root d q)=>if d=0 then some (.root (YH 0) (match q with| []=> []|k::q=>JS ps k::q))else none
 |_=>none
theorem zF2 {lo:Nat}{w:World}{ow:Nat→Option Pl}{i:Nat}{r:List Int}{v:Value}(h:Rp (sz tyT) lo w ow (.ex 0 [i]) (DI r) v)(hr:1≤r.length): ∃b c,v= .slice (some ⟨b,0,none⟩) r.length c∧b<w.heap.size∧ow b=some (.root 0 [i])∧∀j,j<r.length→w.cell? ⟨b,0+j,none⟩=some (.int .i64 r[j]!):=by
 simp only [DI,Rp]at h
 obtain⟨us,⟨q1,n,q2,q3,q4⟩,q5⟩:=h
 have hs1:sz tyT 2=1:=rfl
 have hvs:=kJ q5
 rw [Qg,hs1,Nat.mul_one]at q2
 subst q2
 rw [hs1]at q3
 rcases q3.2 with⟨-,h0⟩|⟨g,cap,cur,rfl,hg,hb,hc1,hc2,hc3,htake⟩
 ·omega
 ·refine⟨g,cap,rfl,(Array.getElem?_eq_some_iff.1 hb).1,q4 g rfl,fun j hj=> ?_⟩
  rw [hvs,Nat.mul_one]at htake
  exact(zCt (Value.int .i64) hb htake j (by simpa using hj)).1.trans (by simp [hj])
theorem Jb :qz Try.prog 74:=⟨_,Try.func74,by decide+kernel,rfl⟩
theorem zHB (xs:List (List Int)):(List.finRange xs.length).map (fun i=>xs[i])=xs:=by
 refine List.ext_getElem (by simp) fun i h1 h2=> ?_
 simp
set_option maxHeartbeats 1000000 in
theorem zBq (xs:List (List Int))(hl:xs.length≤1048576)(hrow: ∀r∈xs,1≤r.length∧r.length≤1048576):FnG Try.prog tyT 74 [.c (DII xs), .fn 75 []] [0] [(0,22,dII (vG xs))] []:=by
 refine⟨Jb,fun lo w ow cargs hlo how hargs=> ?_⟩
 obtain⟨h1,h2⟩:=hargs
 obtain⟨v,f,rfl⟩: ∃v f,cargs= [v,f]:=by
  match cargs,h1 with
  | [v,f],_=>exact⟨v,f,rfl⟩
 obtain⟨cs,k1,k2,k3⟩:=h2 0 _ v rfl rfl
 have hv:Rp (sz tyT) lo w ow (.ex 0 []) (DII xs) v:=by
  rcases k3 with⟨d,c,e1,rfl,rfl⟩|⟨ds,e1,-⟩|⟨f,ds,e1,-⟩
  ·exact k2 0 _ _ rfl rfl
  ·cases e1
  ·cases e1
 have hf:f= .func (.func 75) #[] #[]:=by
  obtain⟨cs,k1,k2,k3⟩:=h2 1 _ f rfl rfl
  rcases k3 with⟨d,c,e1,-⟩|⟨ds,e1,-⟩|⟨f,ds,e1,e2⟩
  ·cases e1
  ·cases e1
  ·cases e1
   have :cs= []:=List.eq_nil_of_length_eq_zero k1
   subst this
   exact e2
 subst hf
 obtain⟨vs,hh,hk⟩:=(zw _ _).1 hv
 obtain⟨q1,n,q2,q3,q4⟩:=hh
 have hs1:sz tyT 22=1:=rfl
 rw [yw,hs1,Nat.mul_one]at q2
 subst q2
 rw [yw]at q1
 rw [hs1]at q3
 rcases q3.2 with⟨rfl,h0⟩|⟨g,cap,cur,rfl,hg,hb,hc1,hc2,hc3,htake⟩
 ·have hx:xs= []:=List.eq_nil_of_length_eq_zero h0
  subst hx
  refine(AnyF.slices_SortFunc_none {Vx with} none 0 _ w).mono fun e w' ⟨he,hw⟩=> ?_
  subst hw;subst he
  refine⟨[],fun b=>none,rfl,yu.start _,fun b _ _=>rfl,fun b p h=>(by cases h),by simp [vH],fun x hx=> ?_⟩
  simp only [List.mem_singleton]at hx
  subst hx
  simp only [UA,show dII ([]:List (List Int))= []from rfl]
  exact vV _ _ _
 ·rw [Nat.mul_one]at htake
  have hlt:g<w.heap.size:=(Array.getElem?_eq_some_iff.1 hb).1
  have hog:=q4 g rfl
  rcases Nat.eq_zero_or_pos xs.length with h0|h0
  ·have hx:xs= []:=List.eq_nil_of_length_eq_zero h0
   subst hx
   refine(AnyF.slices_SortFunc_none {Vx with} (some ⟨g,0,none⟩) cap _ w).mono fun e w' ⟨he,hw⟩=> ?_
   subst hw;subst he
   refine⟨[],fun b=>match ow b with|some (.root d q)=>if d=0 then some (.root (YH 0) q)else none|_=>none,rfl,yu.start _,fun b _ h=>by simp only [h],fun b p h=> ?_,by simp [vH],fun x hx=> ?_⟩
   ·simp only at h
    split at h
    ·rename_i d q ho
     split at h
     ·cases h
      have :=how b _ ho
      exact⟨this.1,this.2.1,_,_,rfl⟩
     ·cases h
    ·cases h
   ·simp only [List.mem_singleton]at hx
    subst hx
    simp only [UA,show dII ([]:List (List Int))= []from rfl]
    refine(zw _ _).2 ⟨vs,⟨q1,0,rfl,?_⟩,fun i x u hx hu=>by simp at hx⟩
    simp only
    rw [hs1]
    exact⟨q3,fun b hb'=>by
     have :b=g:=by simp [yQ,Value.ownBlock]at hb';exact hb'.symm
     subst this
     simp only [hog,if_true]⟩
  ·-- the rows
   have hrw: ∀i:Fin xs.length,Rp (sz tyT) lo w ow (.ex 0 [i.val]) (DI xs[i]) (vs.getD i.val undef):=fun i=>by
    have hi:=i.isLt
    refine hk i.val _ _ (by rw [dII,List.getElem?_map,List.getElem?_eq_getElem hi];rfl) ?_
    rw [List.getD_eq_getElem?_getD,List.getElem?_eq_getElem (by omega)]
    rfl
   have hrf:=fun i:Fin xs.length=>zF2 (hrw i) (hrow _ (List.getElem_mem i.isLt)).1
   haveI :Inhabited (Fin xs.length):=⟨⟨0,h0⟩⟩
   obtain⟨enc,henc⟩: ∃enc:Fin xs.length→Value,enc=fun i=>vs.getD i.val undef:=⟨_,rfl⟩
   have hfr:(List.finRange xs.length).map enc=vs:=by
    refine List.ext_getElem (by simp [q1]) fun i h1 h2=> ?_
    simp [henc,h2]
   have hone:OneCell enc:=fun i=>by
    obtain⟨b,c,e,-⟩:=hrf i
    rw [henc]
    simp only [e]
    rfl
   have hH:Holds enc w g 0 (List.finRange xs.length).toArray:=zCt enc hb (by rw [List.length_finRange,hfr];exact htake)
   have hO:SWO (ltOf fun i j:Fin xs.length=>yf xs[i] xs[j]):=by
    refine⟨fun x=> ?_,fun x y z h1 h2=> ?_,fun x y z h1 h2=> ?_⟩
    ·simp [ltOf,WG]
    ·simp only [ltOf,decide_eq_true_eq]at h1 h2⊢
     exact kH _ _ _ h1 h2
    ·simp only [ltOf,decide_eq_false_iff_not]at h1 h2⊢
     exact KA _ _ _ h1 h2
   have hcmp:CmpLays1 Try.prog 75 #[] enc (fun i j=>yf xs[i] xs[j]) g 0 (List.finRange xs.length).toArray.size w:=fun m os dk hdk x y=>by
    obtain⟨b1,c1,e1,l1,o1,r1⟩:=hrf x
    obtain⟨b2,c2,e2,l2,o2,r2⟩:=hrf y
    have ex:enc x= .slice (some ⟨b1,0,none⟩) xs[x].length c1:=by rw [henc];exact e1
    have ey:enc y= .slice (some ⟨b2,0,none⟩) xs[y].length c2:=by rw [henc];exact e2
    have hgr:=zCq enc (w:=w) (g:=g) (n:=m) (os:=os) dk
    have hne: ∀b k,ow b=some (.root 0 [k])→some g≠some b:=fun b k h e=>by
     cases e
     rw [hog]at h
     cases h
    rw [ex,ey]
    refine(UH b1 0 c1 b2 0 c2 xs[x] xs[y] _ (hrow _ (List.getElem_mem x.isLt)).2 (hrow _ (List.getElem_mem y.isLt)).2 (fun j hj=> ?_) (fun j hj=> ?_)).mono fun e w' ⟨he,q,hq⟩=>⟨he,q,#[],by rw [grow_empty];exact hq⟩
    ·rw [Kw (hgr.block b1 l1 (hne b1 _ o1).symm)];exact r1 j hj
    ·rw [Kw (hgr.block b2 l2 (hne b2 _ o2).symm)];exact r2 j hj
   have hsz:(List.finRange xs.length).toArray.size=xs.length:=by simp
   have hcl:=Any.slices_SortFunc Vx enc hone (fun i j=>yf xs[i] xs[j]) hO 75 #[] g 0 cap (List.finRange xs.length).toArray w (enters_of Try.func75 (by kernel_rfl) rfl) hcmp hH hlt (by rw [hsz];omega)
   rw [hsz]at hcl
   refine Calls.mono hcl fun e w' ⟨he,d',n,os,hp,hso,hw⟩=> ?_
   subst he
   obtain⟨p1,-,p3⟩:=hp
   rw [hsz]at p1
   have p4:d'.toList.Perm (List.finRange xs.length):=by
    have e1:d'.extract 0 xs.length=d':=by
     have :=Array.extract_size (xs:=d')
     rwa [p1]at this
    have e2:(List.finRange xs.length).toArray.extract 0 xs.length=(List.finRange xs.length).toArray:=by
     have :=Array.extract_size (xs:=(List.finRange xs.length).toArray)
     rwa [hsz]at this
    rw [e1,e2]at p3
    exact p3
   have hts:d'.toList.map (fun i=>xs[i])=vG xs:=by
    refine zHe ?_ ?_
    ·have :=p4.map (fun i=>xs[i])
     rwa [zHB]at this
    ·rw [List.pairwise_map,List.pairwise_iff_getElem]
     intro i j hi hj hij
     have :=hso i j (Nat.zero_le _) hij (by rw [←p1];simpa using hj)
     rw [getElem!_pos d' i (by simpa using hi),getElem!_pos d' j (by simpa using hj)]at this
     simp only [ltOf,decide_eq_false_iff_not]at this
     rw [Qf]
     exact this
   have hlen:d'.toList.length=xs.length:=by simpa using p1
   obtain⟨ps,hps⟩: ∃ps:List Nat,ps=d'.toList.map Fin.val:=⟨_,rfl⟩
   have hpn:ps.Nodup:=by
    rw [hps]
    unfold List.Nodup
    rw [List.pairwise_map]
    exact(p4.nodup_iff.2 (List.nodup_finRange _)).imp fun h e=>h (Fin.ext e)
   have hgr:=zCq enc (w:=w) (g:=g) (n:=n) (os:=os) d'
   rw [←hw]at hgr
   have hhp:=zKY enc (w:=w) (g:=g) (n:=n) (os:=os) d' hb
   rw [←hw]at hhp
   have hdt:d'=d'.toList.toArray:=by simp
   refine⟨[],zBC ps ow,rfl,⟨hgr.os,hgr.tape,hgr.output,hgr.size,fun b hb' hk=>hgr.block b hb' (fun e=> ?_)⟩,fun b _ h=>by simp only [zBC,h],fun b p h=> ?_,by simp [vH],fun x hx=> ?_⟩
   ·simp only [Option.some.injEq]at e
    subst e
    simp only at hk
    rw [hog]at hk;cases hk
   ·simp only [zBC]at h
    split at h
    ·rename_i d q ho
     split at h
     ·cases h
      have :=how b _ ho
      exact⟨Nat.lt_of_lt_of_le this.1 hgr.size,this.2.1,_,_,rfl⟩
     ·cases h
    ·cases h
   ·simp only [List.mem_singleton]at hx
    subst hx
    simp only
    refine(zw _ _).2 ⟨d'.toList.map enc,⟨by rw [List.length_map,yw,Xr,hlen],xs.length,by rw [yw,hs1,Xr,Nat.mul_one],?_⟩,fun i x u hx hu=> ?_⟩
    ·simp only
     rw [hs1]
     refine⟨⟨by rw [List.length_map,hlen,Nat.mul_one], .inr ⟨g,cap,_,rfl,hg,hhp,hc1,hc2,by simp [putCells,hc3],?_⟩⟩,fun b hb'=> ?_⟩
     ·rw [Nat.mul_one]
      have h9:=zLD enc cur d'.toList (by rw [hlen];omega)
      rw [hlen,←hdt]at h9
      exact h9
     ·have :b=g:=by simp [yQ,Value.ownBlock]at hb';exact hb'.symm
      subst this
      simp only [zBC,hog,if_true]
    ·rw [←hts,dII,List.map_map,List.getElem?_map]at hx
     rw [List.getElem?_map]at hu
     cases hk9:d'.toList[i]? with
     |none=>rw [hk9]at hx;cases hx
     |some j=>
      rw [hk9]at hx hu
      cases hx;cases hu
      have hr:=hrw j
      have hpi:JS ps j.val=i:=zBI hpn (by rw [hps,List.getElem?_map,hk9];rfl)
      have hr2:Rp (sz tyT) lo w' ow (.ex 0 [j.val]) (DI xs[j]) (enc j):=by
       rw [henc]
       refine yE _ _ hgr.size _ _ _ (fun b hb' hrl=>⟨hgr.block b hb' (fun e=> ?_),rfl⟩) hr
       cases e
       obtain⟨q,hq⟩:=hrl
       rw [hog]at hq
       cases hq
      exact qW _ _ _ 0 (YH 0) [j.val] [i] _ (fun b q hb' ho=>by simp only [zBC,ho,List.singleton_append,if_true,hpi]) hr2
open Nat renaming reduceMod → zA, reduceMul → zB, reduceDiv → zC, reduceAdd → zD, reduceSub → zE, reduceEqDiff → zF, reduceBEq → zG, reduceLT → zH, reduceLeDiff → zI
open Go.RowKit
def bkK (next:List (List Int))(win:List Bool)(v k:Nat):List (List Int):=((gl next v).take k).foldl (bkR win v) (bkA next win next.length v)
theorem bkK_0 (next:List (List Int))(win:List Bool)(v:Nat):bkK next win v 0=bkA next win next.length v:=rfl
theorem zH0 {next:List (List Int)}{win:List Bool}{v k:Nat}(hk:k<(gl next v).length):bkK next win v (k+1)=bkR win v (bkK next win v k) (gi (gl next v) k):=by
 unfold bkK
 rw [List.take_add_one,List.foldl_append]
 have e:(gl next v)[k]? =some (gi (gl next v) k):=by unfold gi;rw [List.getD_eq_getElem?_getD,List.getElem?_eq_getElem hk];rfl
 rw [e]
 rfl
theorem zCa {next:List (List Int)}{win:List Bool}{v k:Nat}(hk:k<(gl next v).length)(h:gb win v=true∧gb win (gi (gl next v) k).toNat=true):(bkK next win v k).set (gi (gl next v) k).toNat (gl (bkK next win v k) (gi (gl next v) k).toNat++ [(v:Int)])=bkK next win v (k+1):=by
 rw [zH0 hk]
 unfold bkR
 rw [if_pos (by rw [h.1,h.2];rfl)]
theorem zEt {next:List (List Int)}{win:List Bool}{v k:Nat}(hk:k<(gl next v).length)(h: ¬(gb win v=true∧gb win (gi (gl next v) k).toNat=true)):bkK next win v (k+1)=bkK next win v k:=by
 rw [zH0 hk]
 unfold bkR
 rw [if_neg (by rw [Bool.and_eq_true];exact h)]
theorem kE {win:List Bool}{v:Nat}: ∀(us:List Int) (B:List (List Int)),(us.foldl (bkR win v) B).length=B.length
 | [],B=>rfl
 |u::us,B=>by rw [List.foldl_cons,kE us];exact kG
theorem kC (next:List (List Int))(win:List Bool)(n:Nat): ∀v,(bkA next win n v).length=n
 |0=>by simp [bkA]
 |v+1=>by simp only [bkA];rw [kE,kC next win n v]
theorem zIj (next:List (List Int))(win:List Bool)(v k:Nat):(bkK next win v k).length=next.length:=by unfold bkK;rw [kE,kC]
theorem zIm {win:List Bool}{v m:Nat}{B:List (List Int)}{u:Int}(h: ∀x,(gl B x).length≤m): ∀x,(gl (bkR win v B u) x).length≤m+1:=fun x=>by
 unfold bkR
 split
 ·rcases Nat.lt_or_ge u.toNat B.length with h1|h1
  ·rw [zCp h1]
   split
   ·rw [List.length_append];exact Nat.add_le_add_right (h _) 1
   ·exact Nat.le_succ_of_le (h x)
  ·rw [List.set_eq_of_length_le h1];exact Nat.le_succ_of_le (h x)
 ·exact Nat.le_succ_of_le (h x)
theorem kF {win:List Bool}{v:Nat}: ∀(us:List Int) {m:Nat} {B:List (List Int)},(∀x,(gl B x).length≤m)→∀x,(gl (us.foldl (bkR win v) B) x).length≤m+us.length
 | [],m,B,h,x=>h x
 |u::us,m,B,h,x=>by
  have :=kF (win:=win) (v:=v) us (zIm (win:=win) (v:=v) (u:=u) h) x
  rw [List.foldl_cons,List.length_cons]
  omega
theorem kD {next:List (List Int)}{win:List Bool}{n:Nat}(h: ∀v,(gl next v).length≤16): ∀v x,(gl (bkA next win n v) x).length≤16*v
 |0,x=>by simp only [bkA,zCo];exact Nat.le_refl _
 |v+1,x=>by
  have :=kF (win:=win) (v:=v) (gl next v) (kD (win:=win) (n:=n) h v) x
  have :=h v
  simp only [bkA]
  omega
theorem zIk {next:List (List Int)}{win:List Bool}(h: ∀v,(gl next v).length≤16)(v k x:Nat):(gl (bkK next win v k) x).length≤16*v+k:=by
 have h1:=kF (win:=win) (v:=v) ((gl next v).take k) (kD (win:=win) (n:=next.length) h v) x
 have h2:((gl next v).take k).length≤k:=List.length_take_le _ _
 unfold bkK
 omega
theorem zIi {next:List (List Int)}{win:List Bool}{v:Nat}:bkK next win v (gl next v).length=bkA next win next.length (v+1):=by unfold bkK;rw [List.take_length];rfl
theorem zBM {P:List (List Int)}{u m:Nat}{r:List Int}(hu:u<P.length)(hm:r.length≤m):List.take u ((dII P).set u D.hole)++ [D.lst 2 (dI (List.take m r))]++List.drop (u+1) ((dII P).set u D.hole)=dII (P.set u r):=by
 have e:dII (P.set u r)=(dII P).set u (D.lst 2 (dI r)):=by unfold dII;rw [List.map_set]
 have hl:u<(dII P).length:=by rw [yw];exact hu
 rw [e,List.take_of_length_le hm,List.take_set,List.set_eq_of_length_le (by simp;omega),List.drop_set_of_lt (by omega),List.set_eq_take_append_cons_drop,if_pos hl]
 simp
theorem cksFT :cks tyT 106= []:=rfl
theorem nilsE (t j:Nat)(vs:List AV):ZA t j [] vs= []:=by cases vs<;>rfl
theorem fixE (t j:Nat)(vs:List AV):qe t j [] vs=vs:=by cases vs<;>rfl
attribute [push_cast] cksFT nilsE fixE
theorem zAU {n:Nat}{to:List (List Int)}{win:List Bool}{done:List Bool}(h:done.length=n):vU to win n (fun x=>gb done x=true) done []:=
 ⟨h,fun x=>(by simp),fun i hi=>(by cases hi),fun x hx=>(by cases hx),fun x y hx=>(by cases hx),List.nodup_nil,fun x _ hx=>(by cases hx),fun A B u w he=>(by cases A<;>simp at he)⟩
theorem zHP {next back:List (List Int)}{win:List Bool}{n j:Nat}{ord:List Int}{sd:List Bool}{so:List (List Int)}{u:Int}(hP:ph2 next back win n ord j=(sd,so))(hu:gi ord (ord.length - 1 - j)=u)(h:gb sd u.toNat=true):ph2 next back win n ord (j+1)=(sd,so):=by
 simp only [ph2]
 rw [hP,hu]
 simp only [h,if_true]
theorem zJQ {next back:List (List Int)}{win:List Bool}{n j:Nat}{ord:List Int}{sd:List Bool}{so:List (List Int)}{u:Int}(hP:ph2 next back win n ord j=(sd,so))(hu:gi ord (ord.length - 1 - j)=u)(h0:((u.toNat:Nat):Int)=u)(h:gb sd u.toNat=false)(hc:1<(vis back win n u.toNat (sd,[])).2.length∨zn (gl next u.toNat) u=true):ph2 next back win n ord (j+1)=((vis back win n u.toNat (sd,[])).1,so++ [qw (vis back win n u.toNat (sd,[])).2]):=by
 simp only [ph2]
 rw [hP,hu,h0,if_neg (by simp only [h];decide),if_pos (by rw [Bool.or_eq_true,decide_eq_true_eq];exact hc)]
theorem zFu {next back:List (List Int)}{win:List Bool}{n j:Nat}{ord:List Int}{sd:List Bool}{so:List (List Int)}{u:Int}(hP:ph2 next back win n ord j=(sd,so))(hu:gi ord (ord.length - 1 - j)=u)(h0:((u.toNat:Nat):Int)=u)(h:gb sd u.toNat=false)(hc: ¬(1<(vis back win n u.toNat (sd,[])).2.length∨zn (gl next u.toNat) u=true)):ph2 next back win n ord (j+1)=((vis back win n u.toNat (sd,[])).1,so):=by
 simp only [ph2]
 rw [hP,hu,h0,if_neg (by simp only [h];decide),if_neg (by rw [Bool.or_eq_true,decide_eq_true_eq];exact hc)]
attribute [-push_cast] rm
attribute [local irreducible] wj
set_option maxRecDepth 20000 in
set_option maxHeartbeats 8000000 in
theorem zD5 (next:List (List Int))(win:List Bool)(hn:next.length≤6144)(hgr:Gr next.length next win)(hR: ∀v,(gl next v).length≤16):Fn Try.prog tyT 48 [.c (DII next), .c (.lst 4 (dB win))] [.c (DII (vG (Zw next win)))]:=by
 have hVis:=kr next.length next win 71 hgr (by omega) (fun x=>by have :=hR x;omega) zHp next.length
 have hwl:=hgr.wl
 have hbl:=fun v k=>zIj next win v k
 have hrow:=fun v k x=>zIk (win:=win) hR v k x
 obtain⟨hgb,hrev⟩:=zH1 hgr
 have hp1:=zBF hgr
 refine yK (fn:=Try.f48) (ts:= [4]) Try.func48 (by kernel_rfl) rfl rfl (by rw [Try.ntmps48];exact Nat.le_of_ble_eq_true rfl) rfl (by simp only [szA,List.mem_cons,List.not_mem_nil,or_false,forall_eq_or_imp,forall_eq,VT.cells,szL];try decide) ?_
 rw [Try.ntmps48]
 simp only [push_cast,↓zK,↓zJ,↓reduceIte,zA,zB,zC,zD,zE,zF,zG,zH,zI,reduceCtorEq]
 refine zL fun K hK=> ?_
 refine zM zQ zO [] rfl ?_
 all_goals simp only [push_cast,↓zK,↓zJ,↓reduceIte,zA,zB,zC,zD,zE,zF,zG,zH,zI,reduceCtorEq]
 all_goals repeat'(first|(apply zP<;>(intro hg;(try simp only [push_cast]at hg)))|apply And.intro|(intro hg;(try simp only [push_cast]at hg)))
 all_goals first|exact gA|(exact zN (by omega))|skip
 all_goals first|(refine hK _ ?_;clear hK K)|(simp only [push_cast];done)
 (try rw [hwl])
 refine zL fun K hK=> ?_
 refine zM zQ zO [] rfl ?_
 all_goals simp only [push_cast,↓zK,↓zJ,↓reduceIte,zA,zB,zC,zD,zE,zF,zG,zH,zI,reduceCtorEq]
 all_goals repeat'(first|(apply zP<;>(intro hg;(try simp only [push_cast]at hg)))|apply And.intro|(intro hg;(try simp only [push_cast]at hg)))
 all_goals first|exact gA|(exact zN (by omega))|skip
 all_goals first|(refine hK _ ?_;clear hK K)|(simp only [push_cast];done)
 refine zL fun K1 hK1=> ?_
 refine zL fun K hK=> ?_
 refine zM zQ zO [] rfl ?_
 all_goals simp only [push_cast,↓zK,↓zJ,↓reduceIte,zA,zB,zC,zD,zE,zF,zG,zH,zI,reduceCtorEq]
 all_goals repeat'(first|(apply zP<;>(intro hg;(try simp only [push_cast]at hg)))|apply And.intro|(intro hg;(try simp only [push_cast]at hg)))
 all_goals first|exact gA|(exact zN (by omega))|skip
 all_goals first|(refine hK _ ?_;clear hK K)|(simp only [push_cast];done)
 refine zT ?_
 refine zh [6,7,9,23,24,25,26,27,28,29,30,31,32,33,34,35,36,37,38,39,40,41,42,43,44,45,46,47,48,49,50,51,52,53,54,55] [80] (fun(v:Nat)=> [(23, .int .i64 v),(5, .sl 80 [] 0 next.length 22)]) (fun v=> []) (fun v=> [(80,⟨.ex,22,dII (bkA next win next.length v),none⟩)]) (fun v=>v≤next.length) (fun v=>next.length - v) 0 ?_ (by omega) ?_
 ·
  rw [show bkA next win next.length 0=List.replicate next.length []from rfl]
  refine zX rfl ?_ ?_ ?_<;>simp only [zg,zf,push_cast,↓zK,↓zJ,↓reduceIte,zA,zB,zC,zD,zE,zF,zG,zH,zI,reduceCtorEq]
  all_goals first|(simp [dII,dI];done)
 ·rintro v hv KL0 hL0
  have hal:=kC next win next.length v
  rw [←bkK_0]
  simp only [push_cast,↓zK,↓zJ,↓reduceIte,zA,zB,zC,zD,zE,zF,zG,zH,zI,reduceCtorEq]
  refine zL fun K hK=> ?_
  refine zM zQ zO [] rfl ?_
  all_goals simp only [push_cast,↓zK,↓zJ,↓reduceIte,zA,zB,zC,zD,zE,zF,zG,zH,zI,reduceCtorEq]
  all_goals repeat'(first|(apply zP<;>(intro hg;(try simp only [push_cast]at hg)))|apply And.intro|(intro hg;(try simp only [push_cast]at hg)))
  all_goals first|exact gA|(exact zN (by omega))|skip
  all_goals first|(refine hK _ ?_;clear hK K)|(simp only [push_cast];done)
  refine zL fun K2 hK2=> ?_
  refine zU rfl (fun hc=> ?_) (fun hc=> ?_)<;>(try simp only [push_cast]at hc)
  ·
   refine zV ?_
   (try simp only [zR,zS,reduceIte,zF]);refine hK2 _ ?_
   refine zL fun K3 hK3=> ?_
   refine zT ?_
   refine zL fun K hK=> ?_
   refine zM zQ zO [] rfl ?_
   all_goals simp only [push_cast,↓zK,↓zJ,↓reduceIte,zA,zB,zC,zD,zE,zF,zG,zH,zI,reduceCtorEq]
   all_goals repeat'(first|(apply zP<;>(intro hg;(try simp only [push_cast]at hg)))|apply And.intro|(intro hg;(try simp only [push_cast]at hg)))
   all_goals first|exact gA|(exact zN (by omega))|skip
   all_goals first|(refine hK _ ?_;clear hK K)|(simp only [push_cast];done)
   refine zL fun K hK=> ?_
   refine zM zQ zO [] rfl ?_
   all_goals simp only [push_cast,↓zK,↓zJ,↓reduceIte,zA,zB,zC,zD,zE,zF,zG,zH,zI,reduceCtorEq]
   all_goals repeat'(first|(apply zP<;>(intro hg;(try simp only [push_cast]at hg)))|apply And.intro|(intro hg;(try simp only [push_cast]at hg)))
   all_goals first|exact gA|(exact zN (by omega))|skip
   all_goals first|(refine hK _ ?_;clear hK K)|(simp only [push_cast];done)
   refine zT ?_
   refine zh [9,30,31,32,33,34,35,36,37,38,39,40,41,42,43,44,45,46,47,48,49,50,51,52,53,54] [80] (fun(k:Nat)=> [(30, .int .i64 k),(5, .sl 80 [] 0 next.length 22)]) (fun k=> []) (fun k=> [(80,⟨.ex,22,dII (bkK next win v k),none⟩)]) (fun k=>k≤(gl next v).length) (fun k=>(gl next v).length - k) 0 ?_ (by omega) ?_
   ·
    refine zX rfl ?_ ?_ ?_<;>simp only [zg,zf,push_cast,↓zK,↓zJ,↓reduceIte,zA,zB,zC,zD,zE,zF,zG,zH,zI,reduceCtorEq]
   ·rintro k hk KL1 hL1
    have hbk:=hbl v k
    have hrv9:=hR v
    simp only [push_cast,↓zK,↓zJ,↓reduceIte,zA,zB,zC,zD,zE,zF,zG,zH,zI,reduceCtorEq]
    refine zL fun K hK=> ?_
    refine zM zQ zO [] rfl ?_
    all_goals simp only [push_cast,↓zK,↓zJ,↓reduceIte,zA,zB,zC,zD,zE,zF,zG,zH,zI,reduceCtorEq]
    all_goals repeat'(first|(apply zP<;>(intro hg;(try simp only [push_cast]at hg)))|apply And.intro|(intro hg;(try simp only [push_cast]at hg)))
    all_goals first|exact gA|(exact zN (by omega))|skip
    all_goals first|(refine hK _ ?_;clear hK K)|(simp only [push_cast];done)
    refine zL fun K4 hK4=> ?_
    refine zU rfl (fun hc=> ?_) (fun hc=> ?_)<;>(try simp only [push_cast]at hc)
    ·
     refine zV ?_
     (try simp only [zR,zS,reduceIte,zF]);refine hK4 _ ?_
     refine zL fun K5 hK5=> ?_
     refine zT ?_
     refine zL fun K hK=> ?_
     refine zM zQ zO [] rfl ?_
     all_goals simp only [push_cast,↓zK,↓zJ,↓reduceIte,zA,zB,zC,zD,zE,zF,zG,zH,zI,reduceCtorEq]
     all_goals repeat'(first|(apply zP<;>(intro hg;(try simp only [push_cast]at hg)))|apply And.intro|(intro hg;(try simp only [push_cast]at hg)))
     all_goals first|exact gA|(exact zN (by omega))|skip
     all_goals first|(refine hK _ ?_;clear hK K)|(simp only [push_cast];done)
     obtain⟨hu0,hu1⟩:=hgr.rng v (gi (gl next v) k) (Qc (by omega))
     by_cases hq:gb win v=true∧gb win (gi (gl next v) k).toNat=true
     ·
      refine zL fun K hK=> ?_
      refine za false zQ zO ?_ rfl ?_
      ·kernel_rfl
      all_goals simp only [push_cast,↓zK,↓zJ,↓reduceIte,zA,zB,zC,zD,zE,zF,zG,zH,zI,reduceCtorEq]
      all_goals repeat'(first|(apply zP<;>(intro hg;(try simp only [push_cast]at hg)))|apply And.intro|(intro hg;(try simp only [push_cast]at hg)))
      all_goals first|exact gA|(exact zN (by omega))|skip
      all_goals first|(refine hK _ ?_;clear hK K)|(simp only [push_cast];done)
      all_goals first|exact absurd (hq.1.symm.trans hg) (by decide)|skip
      all_goals(
        refine zU rfl (fun hc=> ?_) (fun hc=> ?_)
        rotate_left
        ·exfalso;first|(cases hc;done)|(simp [hq.2]at hc;done)
        have hrw9:=hrow v k (gi (gl next v) k).toNat
        have hrv9:=hR v
        have hbk9:=hbl v k
        refine za true zQ zO ?_ rfl ?_
        ·kernel_rfl
        simp only [push_cast,↓zK,↓zJ,↓reduceIte,zA,zB,zC,zD,zE,zF,zG,zH,zI,reduceCtorEq]
        all_goals repeat'(first|(apply zP<;>(intro hg;(try simp only [push_cast]at hg)))|apply And.intro|(intro hg;(try simp only [push_cast]at hg)))
        all_goals first|exact gA|(rw [List.length_set,yw];omega)|(exact zN (by omega))|skip
        (try simp only [zR,zS,reduceIte,zF]);refine hK5 _ ?_
        refine zM zQ zO [] rfl ?_
        all_goals simp only [push_cast,↓zK,↓zJ,↓reduceIte,zA,zB,zC,zD,zE,zF,zG,zH,zI,reduceCtorEq]
        all_goals repeat'(first|(apply zP<;>(intro hg;(try simp only [push_cast]at hg)))|apply And.intro|(intro hg;(try simp only [push_cast]at hg)))
        all_goals first|exact gA|(exact zN (by omega))|skip
        refine hL1 _ ⟨k+1,by omega,by omega,?_⟩
        refine zX rfl ?_ ?_ ?_<;>simp only [zg,zf,push_cast,↓zK,↓zJ,↓reduceIte,zA,zB,zC,zD,zE,zF,zG,zH,zI,reduceCtorEq]
        all_goals first|(rw [zBM (by omega) (by rw [List.length_append];exact Nat.le_refl _),zCa (by omega) hq];done)|(rw [zEt (by omega) hq];done))
     ·
      refine zL fun K hK=> ?_
      refine za false zQ zO ?_ rfl ?_
      ·kernel_rfl
      all_goals simp only [push_cast,↓zK,↓zJ,↓reduceIte,zA,zB,zC,zD,zE,zF,zG,zH,zI,reduceCtorEq]
      all_goals repeat'(first|(apply zP<;>(intro hg;(try simp only [push_cast]at hg)))|apply And.intro|(intro hg;(try simp only [push_cast]at hg)))
      all_goals first|exact gA|(exact zN (by omega))|skip
      all_goals first|(refine hK _ ?_;clear hK K)|(simp only [push_cast];done)
      all_goals(
        refine zU rfl (fun hc=> ?_) (fun hc=> ?_)
        skip
        ·exfalso;first|(cases hc;done)|(exact hq ⟨hg,by simpa using hc⟩)
        refine zV ?_
        (try simp only [zR,zS,reduceIte,zF]);refine hK5 _ ?_
        refine zM zQ zO [] rfl ?_
        all_goals simp only [push_cast,↓zK,↓zJ,↓reduceIte,zA,zB,zC,zD,zE,zF,zG,zH,zI,reduceCtorEq]
        all_goals repeat'(first|(apply zP<;>(intro hg;(try simp only [push_cast]at hg)))|apply And.intro|(intro hg;(try simp only [push_cast]at hg)))
        all_goals first|exact gA|(exact zN (by omega))|skip
        refine hL1 _ ⟨k+1,by omega,by omega,?_⟩
        refine zX rfl ?_ ?_ ?_<;>simp only [zg,zf,push_cast,↓zK,↓zJ,↓reduceIte,zA,zB,zC,zD,zE,zF,zG,zH,zI,reduceCtorEq]
        all_goals first|(rw [zBM (by omega) (by rw [List.length_append];exact Nat.le_refl _),zCa (by omega) hq];done)|(rw [zEt (by omega) hq];done))
    ·
     refine zm ?_
     have hkk:k=(gl next v).length:=by omega
     subst hkk
     rw [zIi]
     (try simp only [zR,zS,reduceIte,zF]);refine hK3 _ ?_
     refine zM zQ zO [] rfl ?_
     all_goals simp only [push_cast,↓zK,↓zJ,↓reduceIte,zA,zB,zC,zD,zE,zF,zG,zH,zI,reduceCtorEq]
     all_goals repeat'(first|(apply zP<;>(intro hg;(try simp only [push_cast]at hg)))|apply And.intro|(intro hg;(try simp only [push_cast]at hg)))
     all_goals first|exact gA|(exact zN (by omega))|skip
     refine hL0 _ ⟨v+1,by omega,by omega,?_⟩
     refine zX rfl ?_ ?_ ?_<;>simp only [zg,zf,push_cast,↓zK,↓zJ,↓reduceIte,zA,zB,zC,zD,zE,zF,zG,zH,zI,reduceCtorEq]
     all_goals trace_state
  ·
   refine zm ?_
   have hvv:v=next.length:=by omega
   subst hvv
   (try simp only [zR,zS,reduceIte,zF]);refine hK1 _ ?_
   refine zEp 80 (R:=⟨.ex,22,dII (bkA next win next.length next.length),none⟩) (by rfl) rfl ?_
   simp only [push_cast,↓zK,↓zJ,↓reduceIte,zA,zB,zC,zD,zE,zF,zG,zH,zI,reduceCtorEq]
   have hbr:=kD (win:=win) (n:=next.length) hR next.length
   have hBB: ∃B,bkA next win next.length next.length=B:=⟨_,rfl⟩
   obtain⟨B,hBB⟩:=hBB
   rw [hBB]at hgb hrev hbr⊢
   refine zL fun K hK=> ?_
   refine zM zQ zO [] rfl ?_
   all_goals simp only [push_cast,↓zK,↓zJ,↓reduceIte,zA,zB,zC,zD,zE,zF,zG,zH,zI,reduceCtorEq]
   all_goals repeat'(first|(apply zP<;>(intro hg;(try simp only [push_cast]at hg)))|apply And.intro|(intro hg;(try simp only [push_cast]at hg)))
   all_goals first|exact gA|(exact zN (by omega))|skip
   all_goals first|(refine hK _ ?_;clear hK K)|(simp only [push_cast];done)
   refine zL fun K hK=> ?_
   refine zM zQ zO [] rfl ?_
   all_goals simp only [push_cast,↓zK,↓zJ,↓reduceIte,zA,zB,zC,zD,zE,zF,zG,zH,zI,reduceCtorEq]
   all_goals repeat'(first|(apply zP<;>(intro hg;(try simp only [push_cast]at hg)))|apply And.intro|(intro hg;(try simp only [push_cast]at hg)))
   all_goals first|exact gA|(exact zN (by omega))|skip
   all_goals first|(refine hK _ ?_;clear hK K)|(simp only [push_cast];done)
   refine zL fun K hK=> ?_
   refine vk 106 (by kernel_rfl) (fun _ _ _=>False) (fun _ _ h _=>h.elim) 999999 zQ zO [] rfl ?_
   all_goals simp only [push_cast,↓zK,↓zJ,↓reduceIte,zA,zB,zC,zD,zE,zF,zG,zH,zI,reduceCtorEq]
   all_goals repeat'(first|(apply zP<;>(intro hg;(try simp only [push_cast]at hg)))|apply And.intro|(intro hg;(try simp only [push_cast]at hg)))
   all_goals first|exact gA|(exact zN (by omega))|skip
   all_goals first|(refine hK _ ?_;clear hK K)|(simp only [push_cast];done)
   refine zL fun K hK=> ?_
   refine vk 106 (by kernel_rfl) (fun _ _ _=>False) (fun _ _ h _=>h.elim) 999999 zQ zO [] rfl ?_
   all_goals simp only [push_cast,↓zK,↓zJ,↓reduceIte,zA,zB,zC,zD,zE,zF,zG,zH,zI,reduceCtorEq]
   all_goals repeat'(first|(apply zP<;>(intro hg;(try simp only [push_cast]at hg)))|apply And.intro|(intro hg;(try simp only [push_cast]at hg)))
   all_goals first|exact gA|(exact zN (by omega))|skip
   all_goals first|(refine hK _ ?_;clear hK K)|(simp only [push_cast];done)
   refine zL fun K6 hK6=> ?_
   refine zL fun K hK=> ?_
   refine zM zQ zO [] rfl ?_
   all_goals simp only [push_cast,↓zK,↓zJ,↓reduceIte,zA,zB,zC,zD,zE,zF,zG,zH,zI,reduceCtorEq]
   all_goals repeat'(first|(apply zP<;>(intro hg;(try simp only [push_cast]at hg)))|apply And.intro|(intro hg;(try simp only [push_cast]at hg)))
   all_goals first|exact gA|(exact zN (by omega))|skip
   all_goals first|(refine hK _ ?_;clear hK K)|(simp only [push_cast];done)
   refine zT ?_
   refine zh [10,11,12,13,38,58,59,63,64,65,66,67,68,69,70,71,72,73,74,75,76,77,78,79,80,81,82] [160,176] (fun(v:Nat)=> [(63, .int .i64 v),(10, .bp 10 0),(11, .bp 11 0),(12, .bp 12 0)]) (fun v=> [(10,[.sl 160 [] 0 next.length 4]),(11,[.sl 176 [] 0 (ph1 next win next.length v).2.length 2]),(12,[.fn 70 [.bp 10 0, .bp 3 0, .bp 12 0]])]) (fun v=> [(160,⟨.ex,4,dB (ph1 next win next.length v).1,none⟩),(176,⟨.ex,2,dI (ph1 next win next.length v).2,none⟩)]) (fun v=>v≤next.length) (fun v=>next.length - v) 0 ?_ (by omega) ?_
   ·
    refine zX rfl ?_ ?_ ?_<;>simp only [zg,zf,push_cast,↓zK,↓zJ,↓reduceIte,zA,zB,zC,zD,zE,zF,zG,zH,zI,reduceCtorEq]
    all_goals first|rfl|exact⟨rfl,rfl⟩|exact⟨rfl,rfl,rfl⟩|exact⟨rfl,rfl,rfl,rfl⟩
   ·rintro v hv KL2 hL2
    simp only [push_cast,↓zK,↓zJ,↓reduceIte,zA,zB,zC,zD,zE,zF,zG,zH,zI,reduceCtorEq]
    refine zL fun K hK=> ?_
    refine zM zQ zO [] rfl ?_
    all_goals simp only [push_cast,↓zK,↓zJ,↓reduceIte,zA,zB,zC,zD,zE,zF,zG,zH,zI,reduceCtorEq]
    all_goals repeat'(first|(apply zP<;>(intro hg;(try simp only [push_cast]at hg)))|apply And.intro|(intro hg;(try simp only [push_cast]at hg)))
    all_goals first|exact gA|(exact zN (by omega))|skip
    all_goals first|(refine hK _ ?_;clear hK K)|(simp only [push_cast];done)
    refine zL fun K7 hK7=> ?_
    refine zU rfl (fun hc=> ?_) (fun hc=> ?_)<;>(try simp only [push_cast]at hc)
    ·
     refine zV ?_
     (try simp only [zR,zS,reduceIte,zF]);refine hK7 _ ?_
     refine zL fun K8 hK8=> ?_
     refine zT ?_
     refine zL fun K hK=> ?_
     refine zM zQ zO [] rfl ?_
     all_goals simp only [push_cast,↓zK,↓zJ,↓reduceIte,zA,zB,zC,zD,zE,zF,zG,zH,zI,reduceCtorEq]
     all_goals repeat'(first|(apply zP<;>(intro hg;(try simp only [push_cast]at hg)))|apply And.intro|(intro hg;(try simp only [push_cast]at hg)))
     all_goals first|exact gA|(exact zN (by omega))|skip
     all_goals first|(refine hK _ ?_;clear hK K)|(simp only [push_cast];done)
     obtain⟨hI1,hr1,hd1⟩:=hp1 v (by omega)
     have hdl1:=hI1.len
     by_cases hq:gb win v=true∧gb (ph1 next win next.length v).1 v=false
     ·
      refine zL fun K hK=> ?_
      refine za false zQ zO ?_ rfl ?_
      ·kernel_rfl
      all_goals simp only [push_cast,↓zK,↓zJ,↓reduceIte,zA,zB,zC,zD,zE,zF,zG,zH,zI,reduceCtorEq]
      all_goals repeat'(first|(apply zP<;>(intro hg;(try simp only [push_cast]at hg)))|apply And.intro|(intro hg;(try simp only [push_cast]at hg)))
      all_goals first|exact gA|(exact zN (by omega))|skip
      all_goals first|(refine hK _ ?_;clear hK K)|(simp only [push_cast];done)
      all_goals first|exact absurd (hq.1.symm.trans hg) (by decide)|skip
      all_goals(
        refine zU rfl (fun hc=> ?_) (fun hc=> ?_)
        rotate_left
        ·exfalso;first|(cases hc;done)|(simp [hq.2]at hc;done)
        refine vk 106 (by kernel_rfl) (wj Try.prog tyT [(0,0),(16,2),(160,16000000),(176,16000048)] [(10,1000000),(3,1000001),(12,1000002),(11,1000003)] [160,176]) (ZQ zQ zO) 81 zQ zO [] rfl ?_
        all_goals simp only [push_cast,↓zK,↓zJ,↓reduceIte,zA,zB,zC,zD,zE,zF,zG,zH,zI,reduceCtorEq]
        all_goals repeat'(first|(apply zP<;>(intro hg;(try simp only [push_cast]at hg)))|apply And.intro|(intro hg;(try simp only [push_cast]at hg)))
        all_goals first|exact gA|(exact zN (by omega))|skip
        refine XR (fn:=Try.f70) rfl (by kernel_rfl) Try.func70 (by kernel_rfl) rfl rfl (by rw [Try.ntmps70];exact Nat.le_of_ble_eq_true rfl) ?_
        rw [Try.ntmps70]
        simp only [push_cast,↓zK,↓zJ,↓reduceIte,zA,zB,zC,zD,zE,zF,zG,zH,zI,reduceCtorEq]
        (try rw [hwl])
        have hV:=fun K=>hVis v (fun _=>False) (ph1 next win next.length v) K hI1 (by omega) hq.1 hq.2 (by omega) (by omega)
        refine hV _ fun st hP=> ?_
        obtain⟨p1,p2,p3,p4,p5,p6,p7,p8⟩:=hP
        simp only [p1,p2,p3,p4,p5,p6,p7,p8]
        simp only [push_cast,↓zK,↓zJ,↓reduceIte,zA,zB,zC,zD,zE,zF,zG,zH,zI,reduceCtorEq]
        first|refine⟨⟨⟨rfl,rfl⟩,⟨rfl,rfl⟩,rfl,rfl⟩,?_⟩|skip
        (try simp only [zR,zS,reduceIte,zF]);refine hK8 _ ?_
        refine zM zQ zO [] rfl ?_
        all_goals simp only [push_cast,↓zK,↓zJ,↓reduceIte,zA,zB,zC,zD,zE,zF,zG,zH,zI,reduceCtorEq]
        all_goals repeat'(first|(apply zP<;>(intro hg;(try simp only [push_cast]at hg)))|apply And.intro|(intro hg;(try simp only [push_cast]at hg)))
        all_goals first|exact gA|(exact zN (by omega))|skip
        have hS1:ph1 next win next.length (v+1)=vis next win next.length v (ph1 next win next.length v):=by rw [show ph1 next win next.length (v+1)=stV next win next.length (ph1 next win next.length v) (v:Int)from rfl,Yu (by rw [Int.toNat_natCast];exact hq.1) (by rw [Int.toNat_natCast];exact hq.2),Int.toNat_natCast]
        refine hL2 _ ⟨v+1,by omega,by omega,?_⟩
        refine zX rfl ?_ ?_ ?_<;>simp only [zg,zf,push_cast,↓zK,↓zJ,↓reduceIte,zA,zB,zC,zD,zE,zF,zG,zH,zI,reduceCtorEq]
        all_goals first|(rw [hS1];done)|(rw [hS1];exact⟨rfl,rfl⟩)|(rw [hS1];exact⟨rfl,rfl,rfl⟩))
     ·
      refine zL fun K hK=> ?_
      refine za false zQ zO ?_ rfl ?_
      ·kernel_rfl
      all_goals simp only [push_cast,↓zK,↓zJ,↓reduceIte,zA,zB,zC,zD,zE,zF,zG,zH,zI,reduceCtorEq]
      all_goals repeat'(first|(apply zP<;>(intro hg;(try simp only [push_cast]at hg)))|apply And.intro|(intro hg;(try simp only [push_cast]at hg)))
      all_goals first|exact gA|(exact zN (by omega))|skip
      all_goals first|(refine hK _ ?_;clear hK K)|(simp only [push_cast];done)
      all_goals(
        refine zU rfl (fun hc=> ?_) (fun hc=> ?_)
        skip
        ·exfalso;first|(cases hc;done)|(exact hq ⟨hg,by simpa using hc⟩)
        refine zV ?_
        (try simp only [zR,zS,reduceIte,zF]);refine hK8 _ ?_
        refine zM zQ zO [] rfl ?_
        all_goals simp only [push_cast,↓zK,↓zJ,↓reduceIte,zA,zB,zC,zD,zE,zF,zG,zH,zI,reduceCtorEq]
        all_goals repeat'(first|(apply zP<;>(intro hg;(try simp only [push_cast]at hg)))|apply And.intro|(intro hg;(try simp only [push_cast]at hg)))
        all_goals first|exact gA|(exact zN (by omega))|skip
        have hS1:ph1 next win next.length (v+1)=(ph1 next win next.length v):=by rw [show ph1 next win next.length (v+1)=stV next win next.length (ph1 next win next.length v) (v:Int)from rfl,Qp (by rw [Int.toNat_natCast];exact hq)]
        refine hL2 _ ⟨v+1,by omega,by omega,?_⟩
        refine zX rfl ?_ ?_ ?_<;>simp only [zg,zf,push_cast,↓zK,↓zJ,↓reduceIte,zA,zB,zC,zD,zE,zF,zG,zH,zI,reduceCtorEq]
        all_goals first|(rw [hS1];done)|(rw [hS1];exact⟨rfl,rfl⟩)|(rw [hS1];exact⟨rfl,rfl,rfl⟩))
    ·
     refine zm ?_
     have hvv:v=next.length:=by omega
     subst hvv
     (try simp only [zR,zS,reduceIte,zF]);refine hK6 _ ?_
     obtain⟨hI9,hr9,hd9⟩:=hp1 next.length (Nat.le_refl _)
     have hlp:Zw next win=(ph2 next B win next.length (ph1 next win next.length next.length).2 (ph1 next win next.length next.length).2.length).2:=by rw [←hBB];rfl
     have hP2:=zBG hgr hgb hrev hI9 hd9
     have hOr:=hI9.rng
     have hOw:=hI9.wi
     rw [hlp]
     clear hlp hI9 hd9
     generalize (ph1 next win next.length next.length).2=O at*
     have hVis3:=kr next.length B win 72 hgb (by omega) (fun x=>by have :=hbr x;omega) zHq next.length
     refine zL fun K hK=> ?_
     refine zM zQ zO [] rfl ?_
     all_goals simp only [push_cast,↓zK,↓zJ,↓reduceIte,zA,zB,zC,zD,zE,zF,zG,zH,zI,reduceCtorEq]
     all_goals repeat'(first|(apply zP<;>(intro hg;(try simp only [push_cast]at hg)))|apply And.intro|(intro hg;(try simp only [push_cast]at hg)))
     all_goals first|exact gA|(exact zN (by omega))|skip
     all_goals first|(refine hK _ ?_;clear hK K)|(simp only [push_cast];done)
     refine zL fun K hK=> ?_
     refine za false zQ zO ?_ rfl ?_
     ·kernel_rfl
     simp only [push_cast,↓zK,↓zJ,↓reduceIte,zA,zB,zC,zD,zE,zF,zG,zH,zI,reduceCtorEq]
     all_goals repeat'(first|(apply zP<;>(intro hg;(try simp only [push_cast]at hg)))|apply And.intro|(intro hg;(try simp only [push_cast]at hg)))
     all_goals first|exact gA|(exact zN (by omega))|skip
     all_goals first|(refine hK _ ?_;clear hK K)|(simp only [push_cast];done)
     refine zL fun K9 hK9=> ?_
     refine qq 22 14 (Nat.le_of_ble_eq_true rfl) ?_
     simp only [push_cast,↓zK,↓zJ,↓reduceIte,zA,zB,zC,zD,zE,zF,zG,zH,zI,reduceCtorEq]
     refine zL fun K hK=> ?_
     refine zM zQ zO [] rfl ?_
     all_goals simp only [push_cast,↓zK,↓zJ,↓reduceIte,zA,zB,zC,zD,zE,zF,zG,zH,zI,reduceCtorEq]
     all_goals repeat'(first|(apply zP<;>(intro hg;(try simp only [push_cast]at hg)))|apply And.intro|(intro hg;(try simp only [push_cast]at hg)))
     all_goals first|exact gA|(exact zN (by omega))|skip
     all_goals first|(refine hK _ ?_;clear hK K)|(simp only [push_cast];done)
     refine zT ?_
     refine zh [10,14,15,16,17,38,70,85,90,91,92,93,94,95,96,97,98,99,100,101,102,103,104,105,106,107,108,109,110,111,112,113,114,115,116,117,118,119,120,121,122,123,124] [160,224] (fun(j:Nat)=> [(15, .int .i64 ((O.length:Int) - 1 - j)),(14, .sl 224 [] 0 (ph2 next B win next.length O j).2.length 22),(10, .bp 10 0)]) (fun j=> [(10,[.sl 160 [] 0 next.length 4])]) (fun j=> [(160,⟨.ex,4,dB (ph2 next B win next.length O j).1,none⟩),(224,⟨.ex,22,dII (ph2 next B win next.length O j).2,none⟩)]) (fun j=>j≤O.length) (fun j=>O.length - j) 0 ?_ (by omega) ?_
     ·
      refine zX rfl ?_ ?_ ?_<;>simp only [zg,zf,push_cast,↓zK,↓zJ,↓reduceIte,zA,zB,zC,zD,zE,zF,zG,zH,zI,reduceCtorEq]
      all_goals first|rfl|exact⟨rfl,rfl⟩|exact⟨rfl,rfl,rfl⟩|exact⟨congrArg (AV.int .i64) (by omega),rfl⟩
     ·rintro j hj KL3 hL3
      obtain⟨acc,h2⟩:=hP2 j (by omega)
      have hcn:=h2.cnt
      have hrm:=h2.room
      have hdl:=h2.dfs.len
      have hrw2:=h2.rows
      clear h2
      have hPP: ∃s2,ph2 next B win next.length O j=s2:=⟨_,rfl⟩
      obtain⟨⟨sd,so⟩,hPP⟩:=hPP
      rw [hPP]at hcn hrm hdl hrw2⊢
      simp only at hcn hrm hdl hrw2
      have hix:0≤(O.length:Int) - 1 - j→((O.length:Int) - 1 - j).toNat=O.length - 1 - j:=fun _=>by omega
      simp only [push_cast,↓zK,↓zJ,↓reduceIte,zA,zB,zC,zD,zE,zF,zG,zH,zI,reduceCtorEq]
      refine zL fun K10 hK10=> ?_
      refine zL fun K hK=> ?_
      refine zM zQ zO [] rfl ?_
      all_goals simp only [push_cast,↓zK,↓zJ,↓reduceIte,zA,zB,zC,zD,zE,zF,zG,zH,zI,reduceCtorEq]
      all_goals repeat'(first|(apply zP<;>(intro hg;(try simp only [push_cast]at hg)))|apply And.intro|(intro hg;(try simp only [push_cast]at hg)))
      all_goals first|exact gA|(exact zN (by omega))|skip
      all_goals first|(refine hK _ ?_;clear hK K)|(simp only [push_cast];done)
      refine zU rfl (fun hc=> ?_) (fun hc=> ?_)<;>(try simp only [push_cast]at hc)
      ·
       refine zV ?_
       (try simp only [zR,zS,reduceIte,zF]);refine hK10 _ ?_
       refine zL fun K11 hK11=> ?_
       refine zT ?_
       refine zL fun K hK=> ?_
       refine zM zQ zO [] rfl ?_
       all_goals simp only [push_cast,↓zK,↓zJ,↓reduceIte,zA,zB,zC,zD,zE,zF,zG,zH,zI,reduceCtorEq]
       all_goals repeat'(first|(apply zP<;>(intro hg;(try simp only [push_cast]at hg)))|apply And.intro|(intro hg;(try simp only [push_cast]at hg)))
       all_goals first|exact gA|(exact zN (by omega))|skip
       all_goals first|(refine hK _ ?_;clear hK K)|(simp only [push_cast];done)
       refine zL fun K12 hK12=> ?_
       rw [hix (by omega)]
       have hum:gi O (O.length - 1 - j)∈O:=Qc (by omega)
       obtain⟨hu0,hu1⟩:=hOr _ hum
       have hcu:(((gi O (O.length - 1 - j)).toNat:Nat):Int)=gi O (O.length - 1 - j):=Int.toNat_of_nonneg hu0
       have huw:=hOw (gi O (O.length - 1 - j)).toNat (by rw [hcu];exact hum)
       obtain⟨u,hu⟩: ∃u,gi O (O.length - 1 - j)=u:=⟨_,rfl⟩
       rw [hu]at hum hu0 hu1 hcu huw⊢
       refine zL fun K hK=> ?_
       refine zM zQ zO [] rfl ?_
       all_goals simp only [push_cast,↓zK,↓zJ,↓reduceIte,zA,zB,zC,zD,zE,zF,zG,zH,zI,reduceCtorEq]
       all_goals repeat'(first|(apply zP<;>(intro hg;(try simp only [push_cast]at hg)))|apply And.intro|(intro hg;(try simp only [push_cast]at hg)))
       all_goals first|exact gA|(exact zN (by omega))|skip
       all_goals first|(refine hK _ ?_;clear hK K)|(simp only [push_cast];done)
       refine zU rfl (fun hc=> ?_) (fun hc=> ?_)<;>(try simp only [push_cast]at hc)
       ·
        refine zm ?_
        (try simp only [zR,zS,reduceIte,zF]);refine hK11 _ ?_
        refine zM zQ zO [] rfl ?_
        all_goals simp only [push_cast,↓zK,↓zJ,↓reduceIte,zA,zB,zC,zD,zE,zF,zG,zH,zI,reduceCtorEq]
        all_goals repeat'(first|(apply zP<;>(intro hg;(try simp only [push_cast]at hg)))|apply And.intro|(intro hg;(try simp only [push_cast]at hg)))
        all_goals first|exact gA|(exact zN (by omega))|skip
        have hS1:=zHP hPP hu (by first|with_reducible assumption|simpa using hc)
        refine hL3 _ ⟨j+1,by omega,by omega,?_⟩
        refine zX rfl ?_ ?_ ?_<;>simp only [zg,zf,push_cast,↓zK,↓zJ,↓reduceIte,zA,zB,zC,zD,zE,zF,zG,zH,zI,reduceCtorEq]
        all_goals first|(refine congrArg (AV.int .i64) ?_;omega)|exact⟨congrArg (AV.int .i64) (by omega),by first|(rw [hS1];done)|(rw [hS1];simp only [List.length_append,List.length_cons,List.length_nil,Nat.zero_add])⟩|(rw [hS1,htk];exact⟨rfl,rfl⟩)|(rw [hS1];done)|(rw [hS1];exact⟨rfl,rfl⟩)|(rw [hS1];exact⟨rfl,rfl,rfl⟩)
       ·
        refine zV ?_
        (try simp only [zR,zS,reduceIte,zF]);refine hK12 _ ?_
        have hdu:gb sd u.toNat=false:=by first|with_reducible assumption|simpa using hc
        have hvo:=Wp hgb next.length u.toNat _ (sd,[]) (zAU hdl) (by omega) huw hdu (by simp only;omega)
        have hvl:=hvo.2.1.room
        simp only [List.length_nil]at hvl
        have hvd:=hvo.1.len
        clear hvo
        refine zL fun K hK=> ?_
        refine zM zQ zO [] rfl ?_
        all_goals simp only [push_cast,↓zK,↓zJ,↓reduceIte,zA,zB,zC,zD,zE,zF,zG,zH,zI,reduceCtorEq]
        all_goals repeat'(first|(apply zP<;>(intro hg;(try simp only [push_cast]at hg)))|apply And.intro|(intro hg;(try simp only [push_cast]at hg)))
        all_goals first|exact gA|(exact zN (by omega))|skip
        all_goals first|(refine hK _ ?_;clear hK K)|(simp only [push_cast];done)
        refine zL fun K hK=> ?_
        refine vk 106 (by kernel_rfl) (wj Try.prog tyT [(80,0),(16,2),(160,16000000),(272,16000048)] [(10,1000000),(3,1000001),(12,1000002),(17,1000003)] [160,272]) (ZQ zQ zO) 107 zQ zO [] rfl ?_
        all_goals simp only [push_cast,↓zK,↓zJ,↓reduceIte,zA,zB,zC,zD,zE,zF,zG,zH,zI,reduceCtorEq]
        all_goals repeat'(first|(apply zP<;>(intro hg;(try simp only [push_cast]at hg)))|apply And.intro|(intro hg;(try simp only [push_cast]at hg)))
        all_goals first|exact gA|(exact zN (by omega))|skip
        refine XR (fn:=Try.f70) rfl (by kernel_rfl) Try.func70 (by kernel_rfl) rfl rfl (by rw [Try.ntmps70];exact Nat.le_of_ble_eq_true rfl) ?_
        rw [Try.ntmps70]
        simp only [push_cast,↓zK,↓zJ,↓reduceIte,zA,zB,zC,zD,zE,zF,zG,zH,zI,reduceCtorEq]
        (try rw [hwl])
        have hV:=fun K=>hVis3 u.toNat _ (sd,[]) K (zAU hdl) (by omega) huw hdu (by simp only;omega) (by simp only [List.length_nil];omega)
        simp only [hcu]at hV
        refine hV _ fun st hP=> ?_
        obtain⟨p1,p2,p3,p4,p5,p6,p7,p8⟩:=hP
        simp only [p1,p2,p3,p4,p5,p6,p7,p8]
        simp only [push_cast,↓zK,↓zJ,↓reduceIte,zA,zB,zC,zD,zE,zF,zG,zH,zI,reduceCtorEq]
        first|refine⟨⟨⟨rfl,rfl⟩,⟨rfl,rfl⟩,rfl,rfl⟩,?_⟩|skip
        all_goals first|(refine hK _ ?_;clear hK K)|(simp only [push_cast];done)
        refine zL fun K hK=> ?_
        refine Jd 109 [0] [(0,2,dI (qw (vis B win next.length u.toNat (sd,[])).2))] zQ zO [] rfl ?_
        simp only [push_cast,↓zK,↓zJ,↓reduceIte,zA,zB,zC,zD,zE,zF,zG,zH,zI,reduceCtorEq]
        all_goals repeat'(first|(apply zP<;>(intro hg;(try simp only [push_cast]at hg)))|(refine⟨_,zIZ (vis B win next.length u.toNat (sd,[])).2 (by omega),?_⟩;simp only [push_cast,↓zK,↓zJ,↓reduceIte,zA,zB,zC,zD,zE,zF,zG,zH,zI,reduceCtorEq])|apply And.intro|(intro hg;(try simp only [push_cast]at hg)))
        all_goals first|exact gA|(exact zN (by omega))|skip
        all_goals first|(refine hK _ ?_;clear hK K)|(simp only [push_cast];done)
        by_cases hq:1<(vis B win next.length u.toNat (sd,[])).2.length∨zn (gl next u.toNat) u=true
        ·
         refine zL fun K hK=> ?_
         refine za false zQ zO ?_ rfl ?_
         ·kernel_rfl
         all_goals refine zo 10 fun K9 hK9=> ?_
         all_goals simp only [push_cast,↓zK,↓zJ,↓reduceIte,zA,zB,zC,zD,zE,zF,zG,zH,zI,reduceCtorEq]
         all_goals repeat'(first|(apply zP<;>(intro hg;(try simp only [push_cast]at hg)))|(refine⟨_,yH (gl next u.toNat) u (by have :=hR u.toNat;omega),?_⟩;simp only [push_cast,↓zK,↓zJ,↓reduceIte,zA,zB,zC,zD,zE,zF,zG,zH,zI,reduceCtorEq])|apply And.intro|(intro hg;(try simp only [push_cast]at hg)))
         all_goals first|exact gA|(exact zN (by omega))|skip
         all_goals first|(refine hK9 _ ?_;clear hK9 K9)|(simp only [push_cast];done)
         all_goals simp only [push_cast,↓zK,↓zJ,↓reduceIte,zA,zB,zC,zD,zE,zF,zG,zH,zI,reduceCtorEq]
         all_goals repeat'(first|(apply zP<;>(intro hg;(try simp only [push_cast]at hg)))|(refine⟨_,yH (gl next u.toNat) u (by have :=hR u.toNat;omega),?_⟩;simp only [push_cast,↓zK,↓zJ,↓reduceIte,zA,zB,zC,zD,zE,zF,zG,zH,zI,reduceCtorEq])|apply And.intro|(intro hg;(try simp only [push_cast]at hg)))
         all_goals first|exact gA|(exact zN (by omega))|skip
         all_goals first|(refine hK _ ?_;clear hK K)|(simp only [push_cast];done)
         all_goals(
           refine zU rfl (fun hc=> ?_) (fun hc=> ?_)
           rotate_left
           ·exfalso;first|(cases hc;done)|(rcases hq with h9|h9<;>first|omega|(rw [h9]at hc;cases hc))
           refine za false zQ zO ?_ rfl ?_
           ·kernel_rfl
           simp only [push_cast,↓zK,↓zJ,↓reduceIte,zA,zB,zC,zD,zE,zF,zG,zH,zI,reduceCtorEq]
           all_goals repeat'(first|(apply zP<;>(intro hg;(try simp only [push_cast]at hg)))|apply And.intro|(intro hg;(try simp only [push_cast]at hg)))
           all_goals first|exact gA|(exact zN (by omega))|skip
           (try simp only [zR,zS,reduceIte,zF]);refine hK11 _ ?_
           refine qq 22 14 (Nat.le_of_ble_eq_true rfl) ?_
           simp only [push_cast,↓zK,↓zJ,↓reduceIte,zA,zB,zC,zD,zE,zF,zG,zH,zI,reduceCtorEq]
           refine zM zQ zO [] rfl ?_
           all_goals simp only [push_cast,↓zK,↓zJ,↓reduceIte,zA,zB,zC,zD,zE,zF,zG,zH,zI,reduceCtorEq]
           all_goals repeat'(first|(apply zP<;>(intro hg;(try simp only [push_cast]at hg)))|apply And.intro|(intro hg;(try simp only [push_cast]at hg)))
           all_goals first|exact gA|(exact zN (by omega))|skip
           have hS1:=zJQ hPP hu hcu hdu hq
           have htk:List.take (vis B win next.length u.toNat (sd,[])).2.length (qw (vis B win next.length u.toNat (sd,[])).2)=qw (vis B win next.length u.toNat (sd,[])).2:=List.take_of_length_le (by rw [Xq];exact Nat.le_refl _)
           refine hL3 _ ⟨j+1,by omega,by omega,?_⟩
           refine zX rfl ?_ ?_ ?_<;>simp only [zg,zf,push_cast,↓zK,↓zJ,↓reduceIte,zA,zB,zC,zD,zE,zF,zG,zH,zI,reduceCtorEq]
           all_goals first|(refine congrArg (AV.int .i64) ?_;omega)|exact⟨congrArg (AV.int .i64) (by omega),by first|(rw [hS1];done)|(rw [hS1];simp only [List.length_append,List.length_cons,List.length_nil,Nat.zero_add])⟩|(rw [hS1,htk];exact⟨rfl,rfl⟩)|(rw [hS1];done)|(rw [hS1];exact⟨rfl,rfl⟩)|(rw [hS1];exact⟨rfl,rfl,rfl⟩))
        ·
         refine zL fun K hK=> ?_
         refine za false zQ zO ?_ rfl ?_
         ·kernel_rfl
         all_goals refine zo 10 fun K9 hK9=> ?_
         all_goals simp only [push_cast,↓zK,↓zJ,↓reduceIte,zA,zB,zC,zD,zE,zF,zG,zH,zI,reduceCtorEq]
         all_goals repeat'(first|(apply zP<;>(intro hg;(try simp only [push_cast]at hg)))|(refine⟨_,yH (gl next u.toNat) u (by have :=hR u.toNat;omega),?_⟩;simp only [push_cast,↓zK,↓zJ,↓reduceIte,zA,zB,zC,zD,zE,zF,zG,zH,zI,reduceCtorEq])|apply And.intro|(intro hg;(try simp only [push_cast]at hg)))
         all_goals first|exact gA|(exact zN (by omega))|skip
         all_goals first|(refine hK9 _ ?_;clear hK9 K9)|(simp only [push_cast];done)
         all_goals simp only [push_cast,↓zK,↓zJ,↓reduceIte,zA,zB,zC,zD,zE,zF,zG,zH,zI,reduceCtorEq]
         all_goals repeat'(first|(apply zP<;>(intro hg;(try simp only [push_cast]at hg)))|(refine⟨_,yH (gl next u.toNat) u (by have :=hR u.toNat;omega),?_⟩;simp only [push_cast,↓zK,↓zJ,↓reduceIte,zA,zB,zC,zD,zE,zF,zG,zH,zI,reduceCtorEq])|apply And.intro|(intro hg;(try simp only [push_cast]at hg)))
         all_goals first|exact gA|(exact zN (by omega))|skip
         all_goals first|(refine hK _ ?_;clear hK K)|(simp only [push_cast];done)
         all_goals(
           refine zU rfl (fun hc=> ?_) (fun hc=> ?_)
           skip
           ·exfalso;first|(cases hc;done)|exact hq (.inl (by omega))|exact hq (.inr hc)
           refine zV ?_
           (try simp only [zR,zS,reduceIte,zF]);refine hK11 _ ?_
           refine zM zQ zO [] rfl ?_
           all_goals simp only [push_cast,↓zK,↓zJ,↓reduceIte,zA,zB,zC,zD,zE,zF,zG,zH,zI,reduceCtorEq]
           all_goals repeat'(first|(apply zP<;>(intro hg;(try simp only [push_cast]at hg)))|apply And.intro|(intro hg;(try simp only [push_cast]at hg)))
           all_goals first|exact gA|(exact zN (by omega))|skip
           have hS1:=zFu hPP hu hcu hdu hq
           refine hL3 _ ⟨j+1,by omega,by omega,?_⟩
           refine zX rfl ?_ ?_ ?_<;>simp only [zg,zf,push_cast,↓zK,↓zJ,↓reduceIte,zA,zB,zC,zD,zE,zF,zG,zH,zI,reduceCtorEq]
           all_goals first|(refine congrArg (AV.int .i64) ?_;omega)|exact⟨congrArg (AV.int .i64) (by omega),by first|(rw [hS1];done)|(rw [hS1];simp only [List.length_append,List.length_cons,List.length_nil,Nat.zero_add])⟩|(rw [hS1,htk];exact⟨rfl,rfl⟩)|(rw [hS1];done)|(rw [hS1];exact⟨rfl,rfl⟩)|(rw [hS1];exact⟨rfl,rfl,rfl⟩))
      ·
       refine zm ?_
       have hjj:j=O.length:=by omega
       subst hjj
       (try simp only [zR,zS,reduceIte,zF]);refine hK9 _ ?_
       rw [hPP]
       have hsf:=zBq so (by omega) (fun r hr=>⟨(hrw2 r hr).1,Nat.le_trans (hrw2 r hr).2 (by omega)⟩)
       refine zL fun K hK=> ?_
       refine Jd 126 [0] [(0,22,dII (vG so))] zQ zO [] rfl ?_
       simp only [push_cast,↓zK,↓zJ,↓reduceIte,zA,zB,zC,zD,zE,zF,zG,zH,zI,reduceCtorEq]
       all_goals repeat'(first|(apply zP<;>(intro hg;(try simp only [push_cast]at hg)))|(refine⟨_,hsf,?_⟩;simp only [push_cast,↓zK,↓zJ,↓reduceIte,zA,zB,zC,zD,zE,zF,zG,zH,zI,reduceCtorEq])|apply And.intro|(intro hg;(try simp only [push_cast]at hg)))
       all_goals first|exact gA|(exact zN (by omega))|skip
       all_goals first|(refine hK _ ?_;clear hK K)|(simp only [push_cast];done)
       refine zL fun K hK=> ?_
       refine zM zQ zO [] rfl ?_
       all_goals simp only [push_cast,↓zK,↓zJ,↓reduceIte,zA,zB,zC,zD,zE,zF,zG,zH,zI,reduceCtorEq]
       all_goals repeat'(first|(apply zP<;>(intro hg;(try simp only [push_cast]at hg)))|apply And.intro|(intro hg;(try simp only [push_cast]at hg)))
       all_goals first|exact gA|(exact zN (by omega))|skip
       all_goals first|(refine hK _ ?_;clear hK K)|(simp only [push_cast];done)
       refine zc ?_
       (try simp only [zR,zS])
       refine⟨Or.inl rfl,?_⟩
       simp only [zi,push_cast,↓zK,↓zJ,↓reduceIte,zA,zB,zC,zD,zE,zF,zG,zH,zI,reduceCtorEq]
       exact(Xr _).symm
theorem zJW {E:List (List Int)}{ins:List Bool}{v x z:Nat}(h:Rcx (yd E ins) x z):Rch E ins v x→Rch E ins v z:=by
 induction h with
 |refl=>exact fun h=>h
 | @step x y z h1 _ ih=>
  intro hx
  obtain⟨-,h2,h3⟩:=h1
  obtain⟨j,hj,e⟩:=List.getElem_of_mem h3
  have e2:gi (gl E x) j=(y:Int):=by
   unfold gi
   rw [List.getD_eq_getElem?_getD,List.getElem?_eq_getElem hj]
   exact e
  have :=Rch.step hx hj (by rw [e2];exact h2)
  rw [e2]at this
  exact ih this
theorem zJV {n:Nat}{E:List (List Int)}{ins:List Bool}(hg:Gr n E ins){v u:Nat}(hv:gb ins v=true)(h:Rch E ins v u):gb ins u=true∧∃y,yd E ins v y∧Rcx (yd E ins) y u:=by
 have key: ∀{x j:Nat},gb ins x=true→j<(gl E x).length→gb ins (gi (gl E x) j).toNat=true→yd E ins x (gi (gl E x) j).toNat:=fun{x j} hx hj hb=>by
  have hm:=Qc hj
  have :=hg.rng x _ hm
  exact⟨hx,hb,by rw [Int.toNat_of_nonneg this.1];exact hm⟩
 induction h with
 |one hj hb=>exact⟨hb,_,key hv hj hb, .refl _⟩
 |step _ hj hb ih=>
  obtain⟨h1,y,h2,h3⟩:=ih
  exact⟨hb,y,h2,h3.trans (.one (key h1 hj hb))⟩
theorem zA1 {n:Nat}{E:List (List Int)}{ins:List Bool}(hg:Gr n E ins){v:Nat}(hv:gb ins v=true):ZM E ins v↔Rch E ins v v:=by
 constructor
 ·rintro⟨y,h1,h2⟩
  obtain⟨-,h3,h4⟩:=h1
  obtain⟨j,hj,e⟩:=List.getElem_of_mem h4
  have e2:gi (gl E v) j=(y:Int):=by
   unfold gi
   rw [List.getD_eq_getElem?_getD,List.getElem?_eq_getElem hj]
   exact e
  have :=Rch.one (E:=E) (ins:=ins) (v:=v) hj (by rw [e2];exact h3)
  rw [e2]at this
  exact zJW h2 this
 ·intro h
  obtain⟨-,y,h1,h2⟩:=zJV hg hv h
  exact⟨y,h1,h2⟩
structure Me where
 next:List (List Int)
 choice:List (List Int)
 deriving DecidableEq
def dMe (x:Me):List D:= [DII x.next,DII x.choice]
structure Me.Ln (B:Nat)(x:Me):Prop where
 next:wb B x.next
 choice:wb B x.choice
def Me.cnt (x:Me):Nat:=KY x.next+KY x.choice
theorem Me.ln_mono {B C:Nat}(hB:B≤C){x:Me}(h:x.Ln B):x.Ln C:=⟨wb.mono hB h.next,wb.mono hB h.choice⟩
end Go.Proofs.Ytggpbepdeilpgaa
