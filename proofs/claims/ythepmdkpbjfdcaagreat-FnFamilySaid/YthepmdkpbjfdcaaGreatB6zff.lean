/- A row of bytes as an argument, read as data. -/
import Derived.Test.YthepmdkpbjfdcaaGreatB5zff
import Derived.Test.YthepmdkpbjfdcaaGreatGEzff
namespace Go.Proofs.YthepmdkpbjfdcaaGreat
open Go.ChangeShapes Go.WideShapes Go.ChangeAt Go.RowKit Go.Deep Go.Joins
set_option linter.unusedVariables false
set_option linter.unusedSimpArgs false
section
variable {H:Type} {enc:TypeId×Value→H} {W:World} {lo:Nat}
theorem zNw {fuel:Nat}{cs:List Value}{x:DataW H×List MemPlace}(h:Tro enc W fuel 5 cs x): ∃v n,cs= [v]∧RpN lo W (.int .u8 n) v∧(0≤n∧n≤255):=by
 obtain⟨n,rfl,-,hw⟩:=DataW.trod_int Tryz.underlying5 h
 exact⟨_,n,rfl,by simp only [Rp],by simp only [Lit.wf,Bool.and_eq_true,decide_eq_true_eq]at hw;exact hw⟩
theorem zH1 : ∀(dss:List (List D)),(∀ds∈dss,∃n,ds= [.int .u8 n]∧(0≤n∧n≤255))→∃xs:List Int,dss.flatten=dU xs∧(∀x∈xs,0≤x∧x≤255)∧xs.length=dss.length
 | [],_=>⟨[],rfl,fun x hx=>by simp at hx,rfl⟩
 |ds::dss,h=>by
  obtain⟨n,rfl,hn⟩:=h ds (by simp)
  obtain⟨xs,e,hr,hl⟩:=zH1 dss (fun d hd=>h d (by simp [hd]))
  refine⟨n::xs,by rw [List.flatten_cons,e];rfl,fun x hx=> ?_,by simp [hl]⟩
  rcases List.mem_cons.1 hx with rfl|hx
  ·exact hn
  ·exact hr x hx
set_option maxRecDepth 100000 in
theorem arg_U {base:Nat}{v:Value}{d:DataW H}{p:List MemPlace}(hv:Value.okWide Tryz.prog W .any base 38 v)(h:DataW.Trod enc Tryz.prog W 0 (fun _=>true) true 38 v d p): ∃xs,Xi (sz tyT) lo W (fun _=>none) (.c (.lst 5 (dU xs))) v∧(∀k,k<xs.length→0≤gi xs k∧gi xs k≤255)∧xs.length≤9223372036854775807:=by
 obtain⟨A,n,c,rfl⟩:=okWide_slice Tryz.underlying38 hv
 obtain⟨fuel,hf⟩:=h
 obtain⟨v',dss,e,h1,h2,h3⟩:=zNv (lo:=lo) (k:=1) Tryz.underlying38 (by omega) sz_5 (by kernel_rfl) (Q:=fun ds=> ∃n,ds= [.int .u8 n]∧(0≤n∧n≤255)) (fun n cs y hy=>by
  obtain⟨v,n,rfl,h1,h2⟩:=zNw (lo:=lo) hy
  exact⟨[.int .u8 n],zLA h1,n,rfl,h2⟩) hf
 obtain⟨xs,e2,hr,hl⟩:=zH1 dss (fun ds hds=>(h3 ds hds).1)
 rw [e2]at h1
 simp only [Value.cells,List.cons.injEq,and_true]at e
 subst e
 refine⟨xs,h1,fun k hk=>hr _ ?_,by omega⟩
 unfold gi
 rw [List.getD_eq_getElem?_getD,List.getElem?_eq_getElem hk]
 exact List.getElem_mem _
end
open Go.RowKit
def zAi :D→AV
 | .int k n=> .int k n
 | .bool b=> .bool b
 |_=> .dead
def Qt :List D→List Value→Prop
 | [],cs=>cs= []
 | .int k n::ds,cs=> ∃cs',cs= .int k n::cs'∧Qt ds cs'
 | .bool b::ds,cs=> ∃cs',cs= .bool b::cs'∧Qt ds cs'
 |_::_,_=>False
def XO :List D→List AV→Prop
 | [],[]=>True
 | .int k n::ds, .int k' n'::us=>(k'=k∧n'=n)∧XO ds us
 | .bool b::ds, .bool b'::us=>b'=b∧XO ds us
 |_,_=>False
def zKh (w:World)(ds:List D)(cargs:List Value)(e:Ending)(w':World):Prop:=
 ∃g ty c0 cs,cargs[0]? =some c0∧e= .returned (.pointer (some ⟨g,0,none⟩))∧Below w.heap.size w w'∧w.heap.size≤g∧g<w'.heap.size∧w'.heap[g]? =some (.cells (List.toArray (c0::cs)) ty (0,0))∧Qt ds cs
def FnP (P:Program)(τ:Ty)(f:FuncId)(args:List VT)(ds:List D):Prop:=
 vU P f∧∀(w:World) (cargs:List Value),wg (sz τ) w.heap.size w (fun _=>none) args cargs→Calls P f cargs.toArray w (zKh w ds cargs)
def Uc (τ:Ty)(st:St)(ds:List D):AV→Prop
 | .bp T 0=>match lk st.b T with
  |some (.sl 0 [] 0 len e::us)=>(match lk st.r 0 with|some R=>R.pin=some 0∧R.e=e∧R.xs.length=len*sz τ e∧sz τ e≠0|none=>False)∧XO ds us
  |_=>False
 |_=>False
def RetP (τ:Ty)(rs:List ResultVar)(ds:List D)(e:Exit)(st:St):Prop:=(e= .ret∨e= .normal)∧
 match zt τ st rs with
 |some ([v],ob)=>ob∧Uc τ st ds v
 |_=>False
section
variable {P:Program} {τ:Ty} {lo:Nat} {w0:Fz} {ow:Nat→Option Pl} {hd:Nat→Value} {bk:Nat→Nat} {st:St} {a:Act} {w:World}
theorem Vv {rr:List (Nat×zq)}{bb:List (Nat×List AV)}: ∀{ds:List D} {us:List AV} {cs:List Value},XO ds us→za τ w rr bb hd bk us cs→Qt ds cs
 | [],[],cs,_,h=>by simpa only [za,Qt]using h
 | [],_::_,_,h,_=>h.elim
 | .int k n::ds,[],_,h,_=>h.elim
 | .bool b::ds,[],_,h,_=>h.elim
 | .hole::ds,_,_,h,_=>by simp [XO]at h
 | .lst e xs::ds,_,_,h,_=>by simp [XO]at h
 | .int k n::ds,u::us,cs,h,h2=>by
  cases u<;>simp only [XO]at h
  obtain⟨⟨rfl,rfl⟩,h3⟩:=h
  simp only [za,AvR]at h2
  obtain⟨v,cs',rfl,rfl,h4⟩:=h2
  exact⟨cs',rfl,Vv h3 h4⟩
 | .bool b::ds,u::us,cs,h,h2=>by
  cases u<;>simp only [XO]at h
  obtain⟨rfl,h3⟩:=h
  simp only [za,AvR]at h2
  obtain⟨v,cs',rfl,rfl,h4⟩:=h2
  exact⟨cs',rfl,Vv h3 h4⟩
theorem Ko {rr:List (Nat×zq)}{bb:List (Nat×List AV)}: ∀{ds:List D} {cs:List Value},Qt ds cs→za τ w rr bb hd bk (ds.map zAi) cs
 | [],cs,h=>by simpa only [List.map_nil,za,Qt]using h
 | .int k n::ds,cs,h=>by
  obtain⟨cs',rfl,h2⟩:=h
  simp only [List.map_cons,zAi,za,AvR]
  exact⟨_,cs',rfl,rfl,Ko h2⟩
 | .bool b::ds,cs,h=>by
  obtain⟨cs',rfl,h2⟩:=h
  simp only [List.map_cons,zAi,za,AvR]
  exact⟨_,cs',rfl,rfl,Ko h2⟩
 | .hole::ds,_,h=>h.elim
 | .lst e xs::ds,_,h=>h.elim
theorem zMh (hτ:yA P τ)(hpos:yR τ){f:FuncId}{fn:Func}{c:Code}{rs:List ResultVar}{e0:TypeId}{xs0:List D}{args:List VT}{ds:List D}(hfn:P.funcs[f]? =some fn)(hname:(fn.name== "runtime.NumGoroutine")=false)(hb:fn.body=some c)(hres:fn.results=rs.toArray)(hn:(VT.c (.lst e0 xs0)::args).length≤fn.ntmps)(hfew:few (VT.c (.lst e0 xs0)::args)=true)(hs:szA τ (VT.c (.lst e0 xs0)::args))
  (h:awp P τ c (RetP τ rs ds) (wY τ fn.ntmps (VT.c (.lst e0 xs0)::args))):FnP P τ f (VT.c (.lst e0 xs0)::args) ds:=by
 refine⟨⟨fn,hfn,hname,by rw [hb];rfl⟩,fun w cargs hargs=> ?_⟩
 have hst0:=Jw hs hfew hn hargs
 obtain⟨c0,cs0,hcargs,hc0,-⟩:=hargs
 subst hcargs
 simp only [Xi]at hc0
 obtain⟨A0,n0,k0,rfl,-⟩:=xK hc0
 refine calls_of_wp hfn hb (Go.wp_mono (h _ _ _ w ⟨_,_,_,hst0⟩) fun e a' w' ⟨st',⟨ow,hd,bk,hr⟩,he,hret0⟩=> ?_)
 have hpost:a'.defers= []∧∃v,(results fn a'.tmps).run P w'= .ok v w'∧zKh w ds (.slice A0 n0 k0::cs0) (.returned v) w':=by
  split at hret0
  rotate_left
  ·exact hret0.elim
  rename_i v ob0 hrv
  obtain⟨hob0,hret⟩:=hret0
  obtain⟨xs,hrun,hv⟩:=qn hτ hpos hr hres hrv hob0
  simp only [za]at hv
  obtain⟨x,xs',rfl,hx,rfl⟩:=hv
  refine⟨hr.defers,_,hrun,?_⟩
  unfold Uc at hret
  split at hret
  rotate_left
  ·exact hret.elim
  rename_i T
  split at hret
  rotate_left
  ·exact hret.elim
  rename_i len e1 us hT
  obtain⟨h1,h2⟩:=hret
  cases hR:lk st'.r 0 with
  |none=>rw [hR]at h1;exact h1.elim
  |some R=>
   rw [hR]at h1
   obtain⟨hp,he1,hxl,hz⟩:=h1
   obtain⟨cs,ty,b1,b2,b3⟩:=hr.box T _ hT
   simp only [za]at b3
   obtain⟨u0,cs1,rfl,k1,k2⟩:=b3
   simp only [AvR]at hx
   have hxp:=hx.2 ⟨_,hT⟩
   subst hxp
   have hph:=hr.pin _ R _ hR hp
   have hph:yJ (Value.slice A0 n0 k0::cs0) 0=hd 0:=Option.some.inj hph
   have hh0:yJ (Value.slice A0 n0 k0::cs0) 0= .slice A0 n0 k0:=rfl
   rw [hh0]at hph
   simp only [AvR]at k1
   obtain⟨hv,hin,A,n,c2,A',c',hnw,q1,q2,hle,hlc,hmx,hf,hA⟩:=k1.2 R hR (by simp [zo])
   simp only [yI,Option.some.injEq]at hin
   obtain⟨rfl,rfl⟩:=hf rfl
   obtain⟨A3,n3,c3,q3,l3,-⟩:=xK (hr.root _ R hR)
   rw [hin,q1]at q3;cases q3
   rw [he1]at l3
   have hn:n=len:=Nat.eq_of_mul_eq_mul_right (Nat.pos_of_ne_zero hz) (by rw [←l3,hxl])
   have hu0:u0= .slice A0 n0 k0:=by rw [hph,hin,q1,q2,hn]
   subst hu0
   have hlt:bk T<w'.heap.size:=(Array.getElem?_eq_some_iff.1 b1).1
   have hge:w.heap.size≤bk T:=by
    rcases Nat.lt_or_ge (bk T) w.heap.size with hl|hl
    ·exact absurd trivial ((hr.ge _ _ hlt b2 (by simp)).2 hl)
    ·exact hl
   exact⟨bk T,ty, .slice A0 n0 k0,cs1,rfl,rfl,⟨hr.below.os,hr.below.tape,hr.below.output,hr.below.size,fun b hb=>hr.below.block b hb trivial⟩,hge,hlt,b1,Vv h2 k2⟩
 rcases he with rfl|rfl<;>exact hpost
def ui (P:Program)(τ:Ty)(o:Oper)(K:St→Prop)(st:St):Prop:=
 match yG o with
 |some (f,args,ts)=>
  match yv τ st ts.toList (args.toList.map (ev st)),args.toList.map (ev st)with
  |some (as9,ob),v0::_=>ob∧zw o≠1000000∧∃ds,FnP P τ f as9 ds∧K ((st.addB (zw o) (AV.killL noB (is1 (zw o)) (v0::ds.map zAi))).put o.dst (.bp (zw o) 0))
  |_,_=>False
 |none=>False
theorem zCj {o:Oper}{K:St→Prop}{Q:Exit→Act→World→Prop}{K':Act→World→Prop}(hd: ∀k,o.dst=some k→k<a.tmps.size)(h:Rel τ lo w0 st a w)(ha:ui P τ o K st)
  (hK: ∀st' x w',K st'→Rel τ lo w0 st' (a.put o.dst x) w'→K' (a.put o.dst x) w'):o.wp P a w K' Q:=by
 obtain⟨ow,hd',bk,hr⟩:=h
 unfold ui at ha
 split at ha
 rotate_left
 ·exact ha.elim
 rename_i f args ts hc
 split at ha
 rotate_left
 ·exact ha.elim
 rename_i as9 ob v0 vs hargs hvs
 obtain⟨hob,ht,ds,⟨hcl,hcall⟩,hK1⟩:=ha
 have hev:za τ w st.r st.b hd' bk (args.toList.map (ev st)) (args.toList.map a.eval):=zp.2 ⟨by simp,fun i v x hv hx=>by
  rw [List.getElem?_map]at hv hx
  cases hk:args.toList[i]? with
  |none=>rw [hk]at hv;cases hv
  |some p=>rw [hk]at hv hx;cases hv;cases hx;exact zl hr p⟩
 have hA:=YT hr w.heap.size hev hargs hob
 have hC:=hcall w _ hA
 unfold Oper.wp
 rw [YV hr hc hcl]
 simp only [Oper.upon]
 refine hC.mono fun e w' hpost=> ?_
 obtain⟨g,ty,c0,cs,h0,he,hbl,hge,hlt,hg,hsc⟩:=hpost
 subst he
 rw [hvs]at hev
 simp only [za]at hev
 obtain⟨x0,xs,hxs,hx0,-⟩:=hev
 rw [hxs]at h0
 simp only [List.getElem?_cons_zero,Option.some.injEq]at h0
 subst h0
 have hgrow:=XR hr (w':=w') (ow':=upd ow g (some (.box (zw o)))) hbl.size (fun b hb=>⟨hbl.block b hb,yn _ _ (by omega)⟩) (hr.below.below hbl) (fun b p hle hp hne=>⟨by have :=hr.low;omega,fun hlt2=>by have :=hr.below.size;omega⟩) (fun b hle=>by
  rw [yn _ _ (by omega)]
  exact hr.new b (by have :=hbl.size;omega))
 have hD: ∀d,noB d=false→xM w w' st.r st.r hd' hd' d:=fun d _ R hR=>⟨R,hR,rfl,fun p hp=>⟨hp,xx p _ _ _ _ (hr.root d R hR) hp (fun b o A n c hb _ hc=>by
  rw [qT (hbl.block b hb)];exact hc)⟩⟩
 have hB: ∀t,noB t=false→xL st.b st.b bk bk t:=fun t _ hl=>⟨hl,rfl⟩
 have hx0':=xF (τ:=τ) hD hB v0 _ hx0
 rw [vP]at hx0'
 have hadd:=Jp hgrow (zw o) ht g (v0::ds.map zAi) (x0::cs) ty hg (yB _ _ _) (by simp only [za];exact⟨x0,cs,rfl,hx0',Ko hsc⟩)
 refine hK _ _ w' hK1 (xW hadd hd ?_)
 simp only [AvR]
 exact⟨⟨_,rfl⟩,fun _=>by rw [yB]⟩
def jD (P:Program)(τ:Ty)(al:List Nat)(t:Nat)(K:St→Prop):List Oper→St→Prop
 | [],st=>K st
 |o::os,st=>
  match o.guard with
  |none=>if o.dst=some t then ui P τ o (jD P τ al t K os) st else aop P τ al o (jD P τ al t K os) st
  |some (j,want)=>False
theorem Vb (hτ:yA P τ)(hpos:yR τ){al:List Nat}{t:Nat}{all:List Oper}{K:St→Prop}{Q:Exit→Act→World→Prop}(hQ: ∀st a w,K st→Rel τ lo w0 st a w→Q .normal a w):
  ∀(os:List Oper) (st:St) (a:Act) (w:World),yr a.tmps.size os=true→Rel τ lo w0 st a w→jD P τ al t K os st→wpList P all.toArray Q os a w
 | [],st,a,w,_,h,ha=>wpList_nil (hQ st a w ha h)
 |o::os,st,a,w,hd,h,ha=>by
  have hd1: ∀k,o.dst=some k→k<a.tmps.size:=fun k hk=>by
   have :=List.all_eq_true.1 hd o (by simp)
   rw [hk]at this
   simpa using this
  have hd2:yr a.tmps.size os=true:=List.all_eq_true.2 fun x hx=>List.all_eq_true.1 hd x (by simp [hx])
  refine wpList_step fun K' hK'=> ?_
  simp only [jD]at ha
  split at ha
  ·rename_i hg
   rw [if_pos (by simp [Region.wanted,hg])]
   split at ha
   ·exact zCj hd1 h ha fun st' x w' h2 h3=>hK' _ _ (Vb hτ hpos hQ os st' _ w' (by rw [xB];exact hd2) h3 h2)
   ·exact wN hτ hpos hd1 h ha fun st' x w' h2 h3=>hK' _ _ (Vb hτ hpos hQ os st' _ w' (by rw [xB];exact hd2) h3 h2)
  ·exact ha.elim
end
theorem zEk {P:Program}{τ:Ty}{Q:Exit→St→Prop}{st:St}(t:Nat)(hτ:yA P τ)(hpos:yR τ)(al:List Nat){id:Nat}{ops:List Oper}(hd:yr st.n ops=true)(h:jD P τ al t (Q .normal) ops st):awp P τ (.region id ops.toArray false) Q st:=fun lo w0 a w hr=>by
 have hn:a.tmps.size=st.n:=by obtain⟨ow,hd,bk,h⟩:=hr;exact h.size
 refine wp_region_lit (Vb hτ hpos (fun st a w h1 h2=>⟨st,h2,h1⟩) ops st a w (by rw [hn];exact hd) hr h)
attribute [push_cast] ui jD zAi Uc XO RetP
open Nat renaming reduceMod → zA, reduceMul → zB, reduceDiv → zC, reduceAdd → zD, reduceSub → zE, reduceEqDiff → zF, reduceBEq → zG, reduceLT → zH, reduceLeDiff → zI
def rH (code:List Int)(seed:Int):Nat→Int
 |0=>IntKind.u64.wrap (IntKind.u64.wrap (seed*7919)+code.length)
 |k+1=>IntKind.u64.wrap (IntKind.u64.wrap (IntKind.u64.wrap (rH code seed k*1099511628211)+gi code k)+3)
set_option maxRecDepth 20000 in
set_option maxHeartbeats 4000000 in
theorem zMI (code:List Int)(hby:qF code)(seed:Int)(hs:0≤seed∧seed≤1000):FnP Tryz.prog tyT 16 [.c (.lst 5 (dU code)), .c (.int .u64 seed)] [.int .i64 0, .int .u64 (rH code seed code.length)]:=by
 have hcl:=hby.1
 refine zMh (fn:=Tryz.f16) (rs:= [.tmp 4]) zQ zN Tryz.func16 (by kernel_rfl) rfl rfl (by rw [Tryz.ntmps16];exact Nat.le_of_ble_eq_true rfl) rfl (by simp only [szA,List.mem_cons,List.not_mem_nil,or_false,forall_eq_or_imp,forall_eq,VT.cells,szL];try decide) ?_
 rw [Tryz.ntmps16]
 push_cast
 refine θA ?_
 refine θA ?_
 refine zL fun K1 hK1=> ?_
 refine θA ?_
 refine zV ?_
 refine zh [6,15,16,17,18,19,20,21,22,23,24,25,26,27,28,29,30,31,32,33,34,35,36] [] (fun(k:Nat)=> [(6, .int .i64 k),(5, .bp 15 0)]) (fun k=> [(15,[.sl 0 [] 0 code.length 5, .int .i64 0, .int .u64 (rH code seed k)])]) (fun k=> []) (fun k=>k≤code.length) (fun k=>code.length - k) 0 ?_ (by omega) ?_
 ·
  refine zX rfl ?_ ?_ ?_<;>push_cast [zf,ze]
  all_goals(try rfl)
 ·rintro k hk KL0 hL0
  push_cast
  refine zL fun K2 hK2=> ?_
  refine θA ?_
  refine θU (fun hc=> ?_) fun hc=> ?_
  ·
   refine zW (hK2 _ ?_)
   refine zL fun K3 hK3=> ?_
   refine zV ?_
   have hbk:=hby.2 k (by omega)
   refine vV false zQ zN xR ?_ rfl ?_
   ·kernel_rfl
   intro C hC
   push_cast
   repeat' apply And.intro
   all_goals first|omega|with_reducible assumption|(refine hC _ ?_;kernel_rfl)|(simp only [List.length_set,List.length_append,List.length_replicate,List.length_cons,List.length_nil];omega)|skip
   clear hC C
   refine hK3 _ ?_
   refine θB ?_
   refine hL0 _ ⟨k+1,by omega,by omega,?_⟩
   refine zX rfl ?_ ?_ ?_<;>push_cast [zf,ze]
   all_goals(try rfl)
  ·
   refine zi ?_
   have hkk:k=code.length:=by omega
   subst hkk
   refine hK1 _ ?_
   refine θA ?_
   refine zY ⟨Or.inl rfl,?_⟩
   push_cast [RetP,Uc,XO,zt,yH]
   first|exact⟨⟨rfl,rfl,by simp [zIQ],by decide⟩,⟨rfl,rfl⟩,⟨rfl,rfl⟩,trivial⟩|skip
theorem rm_kv {α:Type}(f:Nat→Bool)(k:Nat)(v:α)(l:List (Nat×α)):rm f ((k,v)::l)=if f k=true then rm f l else(k,v)::rm f l:=by
 unfold rm
 rw [List.filter_cons]
 cases f k<;>rfl
theorem rm_nl {α:Type}(f:Nat→Bool):rm f ([]:List (Nat×α))= []:=rfl
attribute [push_cast] rm_kv rm_nl
attribute [-push_cast] rm
def nI (code:List Int):Nat→Int
 |0=>0
 |j+1=>dI1 code (nI code j)
def nH (code:List Int)(seed:Int):Nat→Int
 |0=>rH code seed code.length
 |j+1=>dH (nH code seed j)
def dv (code:List Int)(seed:Int)(j:Nat)(n:Int):Int:=dR code (nI code j) (nH code seed j) n
theorem zGy (code:List Int): ∀j,0≤nI code j∧nI code j≤code.length
 |0=>⟨Int.le_refl _,by show(0:Int)≤_;omega⟩
 |j+1=>zNO (zGy code j)
theorem XK {code:List Int}(hby:qF code)(seed:Int)(j:Nat){n:Int}(hn:1≤n):0≤dv code seed j n∧dv code seed j n<n:=dR_rg hby (zGy code j).1 hn
theorem nI_s (code:List Int)(j:Nat):nI code (j+1)=dI1 code (nI code j):=rfl
theorem nH_s (code:List Int)(seed:Int)(j:Nat):nH code seed (j+1)=dH (nH code seed j):=rfl
attribute [irreducible] nI nH dv
@[reducible] def dSt (code : List Int) (seed : Int) (j : Nat) : List D := dDc code (nI code j) (nH code seed j)
theorem Ys {code:List Int}(hby:qF code)(seed:Int)(j:Nat)(n:Int)(hn:1≤n):FnB Tryz.prog tyT 21 (dSt code seed j) [.c (.int .i64 n)] (dSt code seed (j+1)) [.c (.int .i64 (dv code seed j n))]:=
 by
 have h:=zHl code hby _ (nH code seed j) (zGy code j) n hn
 have e1:dI1 code (nI code j)=nI code (j+1):=(nI_s code j).symm
 have e2:dH (nH code seed j)=nH code seed (j+1):=(nH_s code seed j).symm
 rw [e1,e2]at h
 unfold dv
 exact h
theorem zKA (n:Nat):(1:Int)+(n:Int)=(n:Int)+1:=Int.add_comm _ _
attribute [push_cast] zKA Int.sub_zero
def mks (code:List Int)(seed:Int)(N c:Nat):Nat→List Bool
 |0=>List.replicate N false
 |t+1=>(mks code seed N c t).set (dv code seed (c+t) N).toNat true
theorem zAY (code:List Int)(seed:Int)(N c:Nat): ∀t,(mks code seed N c t).length=N
 |0=>by simp [mks]
 |t+1=>by simp [mks,zAY code seed N c t]
def vA (m:List Bool):Nat→List Int
 |0=> []
 |u+1=>if gb m u then vA m u++ [(u:Int)]else vA m u
theorem uK {m:List Bool}{u:Nat}(h:gb m u=true):vA m (u+1)=vA m u++ [(u:Int)]:=by show(if _ then _ else _)=_;rw [if_pos h]
theorem zAh {m:List Bool}{u:Nat}(h: ¬gb m u=true):vA m (u+1)=vA m u:=by show(if _ then _ else _)=_;rw [if_neg h]
theorem uJ (m:List Bool): ∀u,(vA m u).length≤u
 |0=>Nat.le_refl _
 |u+1=>by
  have :=uJ m u
  unfold vA
  split
  ·simp;omega
  ·omega
def rK (code:List Int)(seed:Int)(c:Nat):Nat:=(dv code seed c 3).toNat
def cA (code:List Int)(seed:Int)(j:Nat):Nat→Nat
 |0=>j+1
 |v+1=>cA code seed j v+1+(rK code seed (cA code seed j v)+1)+1
def oA (code:List Int)(seed:Int)(j:Nat):Nat→List Int
 |0=> []
 |v+1=>oA code seed j v++ [dv code seed (cA code seed j v+1+(rK code seed (cA code seed j v)+1)) 2]
def xA (code:List Int)(seed:Int)(N j:Nat):Nat→List (List Int)
 |0=> []
 |v+1=>xA code seed N j v++ [vA (mks code seed N (cA code seed j v+1) (rK code seed (cA code seed j v)+1)) N]
theorem UT (code:List Int)(seed:Int)(j:Nat): ∀v,(oA code seed j v).length=v
 |0=>rfl
 |v+1=>by simp [oA,UT code seed j v]
theorem Un (code:List Int)(seed:Int)(N j:Nat): ∀v,(xA code seed N j v).length=v
 |0=>rfl
 |v+1=>by simp [xA,Un code seed N j v]
def arN (code:List Int)(seed:Int)(j:Nat)(most:Int):Nat:=(dv code seed j most).toNat+1
def arA (code:List Int)(seed:Int)(j:Nat)(most:Int):Ar:=⟨oA code seed j (arN code seed j most),xA code seed (arN code seed j most) j (arN code seed j most)⟩
def arJ (code:List Int)(seed:Int)(j:Nat)(most:Int):Nat:=cA code seed j (arN code seed j most)
set_option maxRecDepth 20000 in
set_option maxHeartbeats 4000000 in
theorem zHI (code:List Int)(hby:qF code)(seed:Int)(j:Nat)(most:Int)(hm:1≤most∧most≤16):FnB Tryz.prog tyT 17 (dSt code seed j) [.c (.int .i64 most)] (dSt code seed (arJ code seed j most)) [.agg (dAr (arA code seed j most))]:=by
 have hcl:=hby.1
 have hr0:=XK hby seed j hm.1
 have hB0:=Ys hby seed j most hm.1
 unfold arJ arA arN
 obtain⟨n,hn⟩: ∃n:Nat,dv code seed j most=(n:Int):=⟨_,(Int.toNat_of_nonneg hr0.1).symm⟩
 rw [hn]at hB0 hr0⊢
 rw [Int.toNat_natCast]
 unfold dAr
 refine Vz (fn:=Tryz.f17) (rs:= [.cell 4 31]) zQ zN Tryz.func17 (by kernel_rfl) rfl rfl (by rw [Tryz.ntmps17];exact Nat.le_of_ble_eq_true rfl) rfl (by simp only [szA,List.mem_cons,List.not_mem_nil,or_false,forall_eq_or_imp,forall_eq,false_implies,implies_true,VT.cells,szL];try decide) (Nat.le_of_ble_eq_true rfl) (by simp only [szL];decide) (Nat.le_of_ble_eq_true rfl) rfl ?_
 rw [Tryz.ntmps17]
 push_cast
 refine θA ?_
 refine zL fun K hK=> ?_
 refine zc false zQ zN ?_ rfl ?_
 ·kernel_rfl
 all_goals refine zm 3 fun K9 hK9=> ?_
 all_goals push_cast
 all_goals repeat'(first|(apply zO<;>(intro hg;push_cast at hg))|(refine⟨_,_,hB0,?_⟩;push_cast)|apply And.intro|(intro hg;push_cast at hg))
 all_goals try exact gA
 refine hK9 _ ?_;clear hK9 K9
 all_goals push_cast
 all_goals repeat'(first|(apply zO<;>(intro hg;push_cast at hg))|(refine⟨_,_,hB0,?_⟩;push_cast)|apply And.intro|(intro hg;push_cast at hg))
 all_goals try exact gA
 refine hK _ ?_;clear hK K
 refine θA ?_
 refine zL fun K1 hK1=> ?_
 refine θA ?_
 refine zV ?_
 refine zh [6,7,8,9,10,11,17,18,19,20,21,22,23,24,25,26,27,28,29,30,31,32,33,34,35,36,37,38,39,40,41,42,43,44,45,46,47,48,49,50,51,52,53,54,55,56,57,58,59,60,61,62,1000000] [] (fun(v:Nat)=> [(7, .int .i64 v),(6, .bp 6 0)]) (fun v=> [(6,[.sl 96 [] 0 v 2, .sl 97 [] 0 v 22]),(1000000,[.sl 16000000 [] 0 code.length 5, .int .i64 (nI code (cA code seed j v)), .int .u64 (nH code seed (cA code seed j v))])]) (fun v=> [(96,⟨.ex,2,dI (oA code seed j v),none⟩),(97,⟨.ex,22,dII (xA code seed (n+1) j v),none⟩),(16000000,⟨.sh,5,dU code,some 16000000⟩)]) (fun v=>v≤n+1) (fun v=>n+1 - v) 0 ?_ (by omega) ?_
 ·
  rw [show dI (oA code seed j 0)= []from rfl,show dII (xA code seed (n+1) j 0)= []from rfl,show cA code seed j 0=j+1 from rfl]
  exact θX
 ·rintro v hv KL0 hL0
  have hol:=UT code seed j v
  have hxl:=Un code seed (n+1) j v
  push_cast
  refine zL fun K2 hK2=> ?_
  refine θA ?_
  refine θU (fun hc=> ?_) fun hc=> ?_
  ·
   refine zW (hK2 _ ?_)
   refine zL fun K3 hK3=> ?_
   refine zV ?_
   refine θA ?_
   refine zL fun K4 hK4=> ?_
   have hr1:=XK hby seed (cA code seed j v) (n:=3) (by omega)
   have hB1:=Ys hby seed (cA code seed j v) 3 (by omega)
   rw [show dv code seed (cA code seed j v) 3=(rK code seed (cA code seed j v):Int)from (Int.toNat_of_nonneg hr1.1).symm]at hB1 hr1
   have hr2:=fun t=>XK hby seed (cA code seed j v+1+t) (n:=(n:Int)+1) (by omega)
   have hB2:=fun t=>Ys hby seed (cA code seed j v+1+t) ((n:Int)+1) (by omega)
   have hB3:=Ys hby seed (cA code seed j v+1+(rK code seed (cA code seed j v)+1)) 2 (by omega)
   refine zL fun K hK=> ?_
   refine zc false zQ zN ?_ rfl ?_
   ·kernel_rfl
   all_goals refine zm 2 fun K9 hK9=> ?_
   all_goals push_cast
   all_goals repeat'(first|(apply zO<;>(intro hg;push_cast at hg))|(refine⟨_,_,hB1,?_⟩;push_cast)|apply And.intro|(intro hg;push_cast at hg))
   all_goals try exact gA
   refine hK9 _ ?_;clear hK9 K9
   all_goals push_cast
   all_goals repeat'(first|(apply zO<;>(intro hg;push_cast at hg))|(refine⟨_,_,hB1,?_⟩;push_cast)|apply And.intro|(intro hg;push_cast at hg))
   all_goals try exact gA
   refine hK _ ?_;clear hK K
   refine zV ?_
   refine zh [9,27,28,29,30,31,32,33,34,35,1000000] [128] (fun(t:Nat)=> [(9, .int .i64 ((rK code seed (cA code seed j v):Int)+1 - t)),(8, .sl 128 [] 0 (n+1) 4)]) (fun t=> [(1000000,[.sl 16000000 [] 0 code.length 5, .int .i64 (nI code (cA code seed j v+1+t)), .int .u64 (nH code seed (cA code seed j v+1+t))])]) (fun t=> [(128,⟨.ex,4,dB (mks code seed (n+1) (cA code seed j v+1) t),none⟩),(16000000,⟨.sh,5,dU code,some 16000000⟩)]) (fun t=>t≤rK code seed (cA code seed j v)+1) (fun t=>rK code seed (cA code seed j v)+1 - t) 0 ?_ (by omega) ?_
   ·
    rw [show mks code seed (n+1) (cA code seed j v+1) 0=List.replicate (n+1) false from rfl]
    exact θX
   ·rintro t ht KL1 hL1
    have hml:=zAY code seed (n+1) (cA code seed j v+1) t
    push_cast
    refine zL fun K5 hK5=> ?_
    refine θA ?_
    refine θU (fun hc=> ?_) fun hc=> ?_
    ·
     refine zW (hK5 _ ?_)
     refine zL fun K6 hK6=> ?_
     refine zV ?_
     have hr3:=hr2 t
     refine zc false zQ zN ?_ rfl ?_
     ·kernel_rfl
     all_goals refine zm 4 fun K9 hK9=> ?_
     all_goals push_cast
     all_goals repeat'(first|(apply zO<;>(intro hg;push_cast at hg))|(refine⟨_,_,hB2 t,?_⟩;push_cast)|apply And.intro|(intro hg;push_cast at hg))
     all_goals try exact gA
     refine hK9 _ ?_;clear hK9 K9
     all_goals push_cast
     all_goals repeat'(first|(apply zO<;>(intro hg;push_cast at hg))|(refine⟨_,_,hB2 t,?_⟩;push_cast)|apply And.intro|(intro hg;push_cast at hg))
     all_goals try exact gA
     refine hK6 _ ?_
     refine θB ?_
     refine hL1 _ ⟨t+1,by omega,by omega,?_⟩
     refine zX rfl ?_ ?_ ?_<;>push_cast [zf,ze]
     all_goals first|(refine congrArg (AV.int .i64) ?_;omega)|exact rfl|skip
    ·
     refine zi ?_
     have htt:t=(rK code seed (cA code seed j v)+1):=by omega
     subst htt
     refine hK4 _ ?_
     refine θA ?_
     refine zL fun K7 hK7=> ?_
     refine θA ?_
     refine zV ?_
     refine zh [10,11,37,38,39,40,41,42,43,44,45,46,47,48,49] [160] (fun(u:Nat)=> [(11, .int .i64 u),(10, .sl 160 [] 0 (vA (mks code seed (n+1) (cA code seed j v+1) (rK code seed (cA code seed j v)+1)) u).length 2)]) (fun u=> []) (fun u=> [(160,⟨.ex,2,dI (vA (mks code seed (n+1) (cA code seed j v+1) (rK code seed (cA code seed j v)+1)) u),none⟩)]) (fun u=>u≤n+1) (fun u=>n+1 - u) 0 ?_ (by omega) ?_
     ·
      rw [show vA (mks code seed (n+1) (cA code seed j v+1) (rK code seed (cA code seed j v)+1)) 0= []from rfl,show dI []= []from rfl]
      exact θX
     ·rintro u hu KL2 hL2
      have hul:=uJ (mks code seed (n+1) (cA code seed j v+1) (rK code seed (cA code seed j v)+1)) u
      push_cast
      refine zL fun K8 hK8=> ?_
      refine θA ?_
      refine θU (fun hc=> ?_) fun hc=> ?_
      ·
       refine zW (hK8 _ ?_)
       refine zL fun K9 hK9=> ?_
       refine zV ?_
       refine θA ?_
       refine θU (fun hc=> ?_) fun hc=> ?_
       ·
        refine θB ?_
        refine hK9 _ ?_
        refine θB ?_
        refine hL2 _ ⟨u+1,by omega,by omega,?_⟩
        rw [uK hc]
        refine zX rfl ?_ ?_ ?_<;>push_cast [zf,ze]
        all_goals(try(rw [List.length_append];rfl))
       ·
        refine zW (hK9 _ ?_)
        refine θB ?_
        refine hL2 _ ⟨u+1,by omega,by omega,?_⟩
        rw [zAh (by rw [hc];decide)]
        exact θX
        all_goals(try(rw [List.length_append];rfl))
      ·
       refine zi ?_
       have huu:u=n+1:=by omega
       subst huu
       refine hK7 _ ?_
       refine zL fun K hK=> ?_
       refine yN false zQ zN xR ?_ rfl ?_
       ·kernel_rfl
       intro E hE
       all_goals refine yb 4 (by decide) fun K9 hK9=> ?_
       all_goals push_cast
       all_goals repeat'(first|(apply zO<;>(intro hg;push_cast at hg))|(refine⟨_,_,hB3,?_⟩;push_cast)|apply And.intro|(intro hg;push_cast at hg))
       all_goals try exact gA
       refine hK9 _ _ ?_;clear hK9 K9
       all_goals push_cast
       all_goals repeat'(first|(apply zO<;>(intro hg;push_cast at hg))|(refine⟨_,_,hB3,?_⟩;push_cast)|apply And.intro|(intro hg;push_cast at hg))
       all_goals first|exact gA|(refine hE _ _ ?_ ?_;kernel_rfl)|skip
       all_goals clear hE E
       refine hK _ ?_;clear hK K
       refine zc false zQ zN ?_ rfl ?_
       ·kernel_rfl
       push_cast
       all_goals repeat'(first|(apply zO<;>(intro hg;push_cast at hg))|apply And.intro|(intro hg;push_cast at hg))
       all_goals try exact gA
       refine hK3 _ ?_
       refine yx [.sl 2, .sl 22] 6 ?_
       push_cast
       refine θB ?_
       refine hL0 _ ⟨v+1,by omega,by omega,?_⟩
       (try rw [List.take_of_length_le (l:=oA code seed j v) (by omega)])
       (try rw [List.take_of_length_le (l:=xA code seed (n+1) j v) (by omega)])
       refine zX rfl ?_ ?_ ?_<;>push_cast [zf,ze]
       all_goals first|exact rfl|exact⟨rfl,rfl⟩|skip
  ·
   refine zi ?_
   have hvv:v=n+1:=by omega
   subst hvv
   refine hK1 _ ?_
   refine θA ?_
   refine zY ⟨Or.inl rfl,?_⟩
   push_cast [YM,zd,qY,zt,yH]
   all_goals first|exact⟨hol.symm,hxl.symm⟩|skip
attribute [-push_cast] rm
theorem zCE {xs ys:List Int}{k:Nat}(h:k<xs.length):gi (xs++ys) k=gi xs k:=by
 unfold gi
 rw [List.getD_eq_getElem?_getD,List.getD_eq_getElem?_getD,List.getElem?_append_left h]
theorem zKn (xs:List Int)(y:Int):gi (xs++ [y]) xs.length=y:=by
 unfold gi
 rw [List.getD_eq_getElem?_getD,List.getElem?_append_right (Nat.le_refl _)]
 simp
theorem gl_dL {xs ys:List (List Int)}{k:Nat}(h:k<xs.length):gl (xs++ys) k=gl xs k:=by
 unfold gl
 rw [List.getD_eq_getElem?_getD,List.getD_eq_getElem?_getD,List.getElem?_append_left h]
theorem gl_dR (xs:List (List Int))(y:List Int):gl (xs++ [y]) xs.length=y:=by
 unfold gl
 rw [List.getD_eq_getElem?_getD,List.getElem?_append_right (Nat.le_refl _)]
 simp
theorem zF4 (m:List Bool): ∀u k,k<(vA m u).length→(k=0∨gi (vA m u) (k - 1)<gi (vA m u) k)∧0≤gi (vA m u) k∧gi (vA m u) k<(u:Int)
 |0,k,h=>absurd h (Nat.not_lt_zero k)
 |u+1,k,h=>by
  have ih:=zF4 m u
  by_cases hm:gb m u=true
  ·rw [uK hm]at h⊢
   rw [List.length_append,List.length_singleton]at h
   rcases Nat.lt_or_ge k (vA m u).length with h1|h1
   ·obtain⟨a,b,c⟩:=ih k h1
    rw [zCE h1,zCE (by omega:k - 1<_)]
    exact⟨a,b,by omega⟩
   ·have e:k=(vA m u).length:=by omega
    subst e
    rw [zKn]
    refine⟨?_,by omega,by omega⟩
    rcases Nat.eq_zero_or_pos (vA m u).length with h2|h2
    ·exact .inl h2
    ·right
     rw [zCE (by omega)]
     exact(ih _ (by omega)).2.2
  ·rw [zAh hm]at h⊢
   obtain⟨a,b,c⟩:=ih k h
   exact⟨a,b,by omega⟩
theorem zKL (m:List Bool)(u:Nat):zv (vA m u) u=true:=
 qG fun k hk=>by
  obtain⟨a,b,c⟩:=zF4 m u k hk
  unfold xp
  exact decide_eq_true ⟨b,c,a⟩
theorem zD8 {m:List Bool}{x:Nat}(h:gb m x=true): ∀u,x<u→1≤(vA m u).length
 |0,h'=>absurd h' (Nat.not_lt_zero x)
 |u+1,h'=>by
  by_cases hm:gb m u=true
  ·rw [uK hm,List.length_append,List.length_singleton];omega
  ·rw [zAh hm]
   refine zD8 h u ?_
   rcases Nat.lt_or_ge x u with h2|h2
   ·exact h2
   ·exact absurd (by rw [show u=x by omega];exact h) hm
theorem zJ3 {code:List Int}(hby:qF code)(seed:Int){N:Nat}(hN:1≤N)(c t:Nat): ∃x,x<N∧gb (mks code seed N c (t+1)) x=true:=by
 have h:=XK hby seed (c+t) (n:=(N:Int)) (by omega)
 refine⟨(dv code seed (c+t) N).toNat,by omega,?_⟩
 show gb (List.set _ _ true) _=true
 unfold gb
 rw [List.getD_eq_getElem?_getD,List.getElem?_set_self (by rw [zAY];omega)]
 rfl
theorem zKt {code:List Int}(hby:qF code)(seed:Int)(j:Nat): ∀v k,k<v→0≤gi (oA code seed j v) k∧gi (oA code seed j v) k≤1
 |0,k,h=>absurd h (Nat.not_lt_zero k)
 |v+1,k,h=>by
  show 0≤gi (oA code seed j v++ [_]) k∧gi (oA code seed j v++ [_]) k≤1
  have hl:=UT code seed j v
  rcases Nat.lt_or_ge k v with h1|h1
  ·rw [zCE (by omega)];exact zKt hby seed j v k h1
  ·rw [show k=(oA code seed j v).length by omega,zKn]
   have :=XK hby seed (cA code seed j v+1+(rK code seed (cA code seed j v)+1)) (n:=2) (by omega)
   omega
theorem zK2 {code:List Int}(hby:qF code)(seed:Int){N:Nat}(hN:1≤N)(j:Nat): ∀v k,k<v→∃m x,x<N∧gb m x=true∧gl (xA code seed N j v) k=vA m N
 |0,k,h=>absurd h (Nat.not_lt_zero k)
 |v+1,k,h=>by
  show∃m x,x<N∧gb m x=true∧gl (xA code seed N j v++ [_]) k=vA m N
  have hl:=Un code seed N j v
  rcases Nat.lt_or_ge k v with h1|h1
  ·obtain⟨m,x,a,b,c⟩:=zK2 hby seed hN j v k h1
   exact⟨m,x,a,b,by rw [gl_dL (by omega)];exact c⟩
  ·obtain⟨x,a,b⟩:=zJ3 hby seed hN (cA code seed j v+1) (rK code seed (cA code seed j v))
   exact⟨_,x,a,b,by rw [show k=(xA code seed N j v).length by omega,gl_dR]⟩
theorem zHi {code:List Int}(hby:qF code)(seed:Int)(j:Nat){most:Int}(hm:1≤most∧most≤16):1≤arN code seed j most∧(arN code seed j most:Int)≤most:=by
 have :=XK hby seed j hm.1
 unfold arN
 omega
theorem zFT {code:List Int}{seed:Int}{j:Nat}{most:Int}:(arA code seed j most).owner.length=arN code seed j most∧(arA code seed j most).next.length=arN code seed j most:=⟨UT _ _ _ _,Un _ _ _ _ _⟩
theorem zMu {code:List Int}(hby:qF code)(seed:Int)(j:Nat){most:Int}(hm:1≤most∧most≤16):yK (arA code seed j most)=true:=by
 have hN:=zHi hby seed j hm
 obtain⟨h1,h2⟩:=zFT (code:=code) (seed:=seed) (j:=j) (most:=most)
 refine Zd ⟨by omega,by omega,by omega⟩ fun v hv=> ?_
 rw [h1]at hv
 unfold vO QC
 rw [h1]
 have ho:0≤gi (arA code seed j most).owner v∧gi (arA code seed j most).owner v≤1:=zKt hby seed j _ v hv
 obtain⟨m,x,ha,hb,hc⟩:=zK2 hby seed hN.1 j (arN code seed j most) v hv
 rw [show gl (arA code seed j most).next v=vA m (arN code seed j most)from hc,decide_eq_true,Bool.true_and]
 ·exact zKL _ _
 ·have :=zD8 hb _ ha
  have :=uJ m (arN code seed j most)
  exact⟨ho.1,ho.2,by omega,by omega⟩
attribute [-push_cast] rm
theorem nI_0 (code:List Int):nI code 0=0:=by with_unfolding_all rfl
theorem nH_0 (code:List Int)(seed:Int):nH code seed 0=rH code seed code.length:=by with_unfolding_all rfl
theorem zKK (code:List Int)(hby:qF code)(seed:Int)(hs:0≤seed∧seed≤1000):FnP Tryz.prog tyT 16 [.c (.lst 5 (dU code)), .c (.int .u64 seed)] [.int .i64 (nI code 0), .int .u64 (nH code seed 0)]:=by
 rw [nI_0,nH_0]
 exact zMI code hby seed hs
set_option maxRecDepth 20000 in
set_option maxHeartbeats 4000000 in
theorem zMy (code:List Int)(hl:code.length≤9223372036854775807):Fn Tryz.prog tyT 15 [.c (.lst 5 (dU code))] [.c (.bool (decide (4096<code.length)))]:=by
 refine θH (ts:= [2]) Tryz.func15 Tryz.ntmps15 ?_
 push_cast
 refine θA ?_
 refine θA ?_
 refine zY ⟨Or.inl rfl,?_⟩
 push_cast [zd]
 first|exact decide_eq_decide.2 (by omega)|skip
def ilv (ps:List Pr):List (List Int):=ps.flatMap fun p=> [p.ask,p.give]
def gp (ps:List Pr)(k:Nat):Pr:=ps.getD k ⟨[],[]⟩
theorem kr (p:Pr)(ps:List Pr):ilv (p::ps)=p.ask::p.give::ilv ps:=rfl
theorem m2d (n:Nat):n*2 / 2=n:=by omega
theorem xV (ps:List Pr):(ilv ps).length=ps.length*2:=by
 induction ps with
 |nil=>rfl
 |cons p ps ih=>rw [kr,List.length_cons,List.length_cons,ih,List.length_cons];omega
theorem zLj (ps:List Pr)(k:Nat):gl (ilv ps) (k*2)=(gp ps k).ask:=by
 induction ps generalizing k with
 |nil=>rfl
 |cons p ps ih=>
  cases k with
  |zero=>rfl
  |succ k=>rw [show(k+1)*2=k*2+1+1 from by omega,kr];exact ih k
theorem zLk (ps:List Pr)(k:Nat):gl (ilv ps) (k*2+1)=(gp ps k).give:=by
 induction ps generalizing k with
 |nil=>rfl
 |cons p ps ih=>
  cases k with
  |zero=>rfl
  |succ k=>rw [show(k+1)*2+1=k*2+1+1+1 from by omega,kr];exact ih k
theorem zKq {ps:List Pr}{k:Nat}(h:k<ps.length):ps[k]? =some (gp ps k):=by
 unfold gp
 rw [List.getD_eq_getElem?_getD,List.getElem?_eq_getElem h]
 rfl
theorem zDR {ps:List Pr}{k:Nat}(h:k<ps.length):gp ps k∈ps:=List.mem_of_getElem? (zKq h)
theorem zKZ {ps:List Pr}{k:Nat}(h:k<ps.length):ps.take (k+1)=ps.take k++ [gp ps k]:=by rw [List.take_add_one,zKq h];rfl
attribute [push_cast] m2d xV zLj zLk
theorem zLn (ps qs:List Pr):ilv (ps++qs)=ilv ps++ilv qs:=List.flatMap_append ..
theorem zIx (ps:List Pr):(ilv ps).take (ps.length*2)=ilv ps:=List.take_of_length_le (by rw [xV];exact Nat.le_refl _)
attribute [push_cast] zIx
def PLn (B:Nat)(ps:List Pr):Prop:=ps.length≤B∧∀p∈ps,p.Ln B
theorem Xy {B:Nat}{ps:List Pr}(h:PLn B ps)(k:Nat):(gp ps k).Ln B:=by
 rcases Nat.lt_or_ge k ps.length with hk|hk
 ·exact h.2 _ (zDR hk)
 ·unfold gp
  rw [List.getD_eq_getElem?_getD,List.getElem?_eq_none hk]
  exact⟨Nat.zero_le _,Nat.zero_le _⟩
theorem PLn.mono {B C:Nat}(hB:B≤C){ps:List Pr}(h:PLn B ps):PLn C ps:=⟨Nat.le_trans h.1 hB,fun p hp=>Pr.ln_mono hB (h.2 p hp)⟩
end Go.Proofs.YthepmdkpbjfdcaaGreat
