/- A function that returns a pointer to a struct of its own whose first cell is its first argument. -/
import Derived.Test.YtdbecmmeifdafaaGEzmb
namespace Go.Proofs.Ytdbecmmeifdafaa
open Go.RowKit
set_option linter.unusedVariables false
set_option linter.unusedSimpArgs false

def scAV : D → AV
  | .int k n => .int k n
  | .bool b => .bool b
  | _ => .dead
def scVals : List D → List Value → Prop
  | [], cs => cs = []
  | .int k n :: ds, cs => ∃ cs', cs = .int k n :: cs' ∧ scVals ds cs'
  | .bool b :: ds, cs => ∃ cs', cs = .bool b :: cs' ∧ scVals ds cs'
  | _ :: _, _ => False
def scAVs : List D → List AV → Prop
  | [], [] => True
  | .int k n :: ds, .int k' n' :: us => (k' = k ∧ n' = n) ∧ scAVs ds us
  | .bool b :: ds, .bool b' :: us => b' = b ∧ scAVs ds us
  | _, _ => False
def PostP (w : World) (ds : List D) (cargs : List Value) (e : Ending) (w' : World) : Prop :=
  ∃ g ty c0 cs, cargs[0]? = some c0 ∧ e = .returned (.pointer (some ⟨g, 0, none⟩)) ∧ Below w.heap.size w w' ∧ w.heap.size ≤ g ∧ g < w'.heap.size ∧ w'.heap[g]? = some (.cells (List.toArray (c0 :: cs)) ty (0, 0)) ∧ scVals ds cs
def FnP (P : Program) (τ : Ty) (f : FuncId) (args : List VT) (ds : List D) : Prop :=
  Callable P f ∧ ∀ (w : World) (cargs : List Value), ArgsR (sz τ) w.heap.size w (fun _ => none) args cargs → Calls P f cargs.toArray w (PostP w ds cargs)
def retPOk (τ : Ty) (st : St) (ds : List D) : AV → Prop
  | .bp T 0 => match lk st.b T with
    | some (.sl 0 [] 0 len e :: us) => (match lk st.r 0 with | some R => R.pin = some 0 ∧ R.e = e ∧ R.xs.length = len * sz τ e ∧ sz τ e ≠ 0 | none => False) ∧ scAVs ds us
    | _ => False
  | _ => False
def RetP (τ : Ty) (rs : List ResultVar) (ds : List D) (e : Exit) (st : St) : Prop := (e = .ret ∨ e = .normal) ∧
  match resVars τ st rs with
  | some ([v], ob) => ob ∧ retPOk τ st ds v
  | _ => False

section
variable {P : Program} {τ : Ty} {lo : Nat} {w0 : Fz} {ow : Nat → Option Pl} {hd : Nat → Value} {bk : Nat → Nat} {st : St} {a : Act} {w : World}

theorem scAVs_sound {rr : List (Nat × Root)} {bb : List (Nat × List AV)} : ∀ {ds : List D} {us : List AV} {cs : List Value}, scAVs ds us → AvRL τ w rr bb hd bk us cs → scVals ds cs
  | [], [], cs, _, h => by simpa only [AvRL, scVals] using h
  | [], _ :: _, _, h, _ => h.elim
  | .int k n :: ds, [], _, h, _ => h.elim
  | .bool b :: ds, [], _, h, _ => h.elim
  | .hole :: ds, _, _, h, _ => by simp [scAVs] at h
  | .lst e xs :: ds, _, _, h, _ => by simp [scAVs] at h
  | .int k n :: ds, u :: us, cs, h, h2 => by
    cases u <;> simp only [scAVs] at h
    obtain ⟨⟨rfl, rfl⟩, h3⟩ := h
    simp only [AvRL, AvR] at h2
    obtain ⟨v, cs', rfl, rfl, h4⟩ := h2
    exact ⟨cs', rfl, scAVs_sound h3 h4⟩
  | .bool b :: ds, u :: us, cs, h, h2 => by
    cases u <;> simp only [scAVs] at h
    obtain ⟨rfl, h3⟩ := h
    simp only [AvRL, AvR] at h2
    obtain ⟨v, cs', rfl, rfl, h4⟩ := h2
    exact ⟨cs', rfl, scAVs_sound h3 h4⟩
theorem scVals_av {rr : List (Nat × Root)} {bb : List (Nat × List AV)} : ∀ {ds : List D} {cs : List Value}, scVals ds cs → AvRL τ w rr bb hd bk (ds.map scAV) cs
  | [], cs, h => by simpa only [List.map_nil, AvRL, scVals] using h
  | .int k n :: ds, cs, h => by
    obtain ⟨cs', rfl, h2⟩ := h
    simp only [List.map_cons, scAV, AvRL, AvR]
    exact ⟨_, cs', rfl, rfl, scVals_av h2⟩
  | .bool b :: ds, cs, h => by
    obtain ⟨cs', rfl, h2⟩ := h
    simp only [List.map_cons, scAV, AvRL, AvR]
    exact ⟨_, cs', rfl, rfl, scVals_av h2⟩
  | .hole :: ds, _, h => h.elim
  | .lst e xs :: ds, _, h => h.elim

/-- A contract, out of the rules. -/
theorem FnP_of (hτ : TyOk P τ) (hpos : TyPos τ) {f : FuncId} {fn : Func} {c : Code} {rs : List ResultVar} {e0 : TypeId} {xs0 : List D} {args : List VT} {ds : List D} (hfn : P.funcs[f]? = some fn) (hname : (fn.name == "runtime.NumGoroutine") = false) (hb : fn.body = some c) (hres : fn.results = rs.toArray) (hn : (VT.c (.lst e0 xs0) :: args).length ≤ fn.ntmps) (hfew : few (VT.c (.lst e0 xs0) :: args) = true) (hs : szA τ (VT.c (.lst e0 xs0) :: args))
    (h : awp P τ c (RetP τ rs ds) (argStS τ fn.ntmps (VT.c (.lst e0 xs0) :: args))) : FnP P τ f (VT.c (.lst e0 xs0) :: args) ds := by
  refine ⟨⟨fn, hfn, hname, by rw [hb]; rfl⟩, fun w cargs hargs => ?_⟩
  have hst0 := argStS_sound hs hfew hn hargs
  obtain ⟨c0, cs0, hcargs, hc0, -⟩ := hargs
  subst hcargs
  simp only [ArgR] at hc0
  obtain ⟨A0, n0, k0, rfl, -⟩ := Rp_form hc0
  refine calls_of_wp hfn hb (Go.wp_mono (h _ _ _ w ⟨_, _, _, hst0⟩) fun e a' w' ⟨st', ⟨ow, hd, bk, hr⟩, he, hret0⟩ => ?_)
  have hpost : a'.defers = [] ∧ ∃ v, (results fn a'.tmps).run P w' = .ok v w' ∧ PostP w ds (.slice A0 n0 k0 :: cs0) (.returned v) w' := by
    split at hret0
    rotate_left
    · exact hret0.elim
    rename_i v ob0 hrv
    obtain ⟨hob0, hret⟩ := hret0
    obtain ⟨xs, hrun, hv⟩ := results_runR hτ hpos hr hres hrv hob0
    simp only [AvRL] at hv
    obtain ⟨x, xs', rfl, hx, rfl⟩ := hv
    refine ⟨hr.defers, _, hrun, ?_⟩
    unfold retPOk at hret
    split at hret
    rotate_left
    · exact hret.elim
    rename_i T
    split at hret
    rotate_left
    · exact hret.elim
    rename_i len e1 us hT
    obtain ⟨h1, h2⟩ := hret
    cases hR : lk st'.r 0 with
    | none => rw [hR] at h1; exact h1.elim
    | some R =>
      rw [hR] at h1
      obtain ⟨hp, he1, hxl, hz⟩ := h1
      obtain ⟨cs, ty, b1, b2, b3⟩ := hr.box T _ hT
      simp only [AvRL] at b3
      obtain ⟨u0, cs1, rfl, k1, k2⟩ := b3
      simp only [AvR] at hx
      have hxp := hx.2 ⟨_, hT⟩
      subst hxp
      have hph := hr.pin _ R _ hR hp
      have hph : hdArgs (Value.slice A0 n0 k0 :: cs0) 0 = hd 0 := Option.some.inj hph
      have hh0 : hdArgs (Value.slice A0 n0 k0 :: cs0) 0 = .slice A0 n0 k0 := rfl
      rw [hh0] at hph
      simp only [AvR] at k1
      obtain ⟨hv, hin, A, n, c2, A', c', q1, q2, hle, hlc, hmx, hf, hA⟩ := k1.2 R hR (by simp [okPath])
      simp only [into, Option.some.injEq] at hin
      obtain ⟨rfl, rfl⟩ := hf rfl
      obtain ⟨A3, n3, c3, q3, l3, -⟩ := Rp_form (hr.root _ R hR)
      rw [hin, q1] at q3; cases q3
      rw [he1] at l3
      have hn : n = len := Nat.eq_of_mul_eq_mul_right (Nat.pos_of_ne_zero hz) (by rw [← l3, hxl])
      have hu0 : u0 = .slice A0 n0 k0 := by rw [hph, hin, q1, q2, hn]
      subst hu0
      have hlt : bk T < w'.heap.size := (Array.getElem?_eq_some_iff.1 b1).1
      have hge : w.heap.size ≤ bk T := by
        rcases Nat.lt_or_ge (bk T) w.heap.size with hl | hl
        · exact absurd trivial ((hr.ge _ _ hlt b2 (by simp)).2 hl)
        · exact hl
      exact ⟨bk T, ty, .slice A0 n0 k0, cs1, rfl, rfl, ⟨hr.below.os, hr.below.tape, hr.below.output, hr.below.size, fun b hb => hr.below.block b hb trivial⟩, hge, hlt, b1, scAVs_sound h2 k2⟩
  rcases he with rfl | rfl <;> exact hpost

/-! ### the call -/
def aCallP (P : Program) (τ : Ty) (o : Oper) (K : St → Prop) (st : St) : Prop :=
  match callOf o with
  | some (f, args, ts) =>
    match argsOf τ st ts.toList (args.toList.map (ev st)), args.toList.map (ev st) with
    | some (as, ob), v0 :: _ => ob ∧ dstN o ≠ 1000000 ∧ ∃ ds, FnP P τ f as ds ∧ K ((st.addB (dstN o) (AV.killL noB (is1 (dstN o)) (v0 :: ds.map scAV))).put o.dst (.bp (dstN o) 0))
    | _, _ => False
  | none => False
theorem aCallP_sound {o : Oper} {K : St → Prop} {Q : Exit → Act → World → Prop} {K' : Act → World → Prop} (hd : ∀ k, o.dst = some k → k < a.tmps.size) (h : Rel τ lo w0 st a w) (ha : aCallP P τ o K st)
    (hK : ∀ st' x w', K st' → Rel τ lo w0 st' (a.put o.dst x) w' → K' (a.put o.dst x) w') : o.wp P a w K' Q := by
  obtain ⟨ow, hd', bk, hr⟩ := h
  unfold aCallP at ha
  split at ha
  rotate_left
  · exact ha.elim
  rename_i f args ts hc
  split at ha
  rotate_left
  · exact ha.elim
  rename_i as ob v0 vs hargs hvs
  obtain ⟨hob, ht, ds, ⟨hcl, hcall⟩, hK1⟩ := ha
  have hev : AvRL τ w st.r st.b hd' bk (args.toList.map (ev st)) (args.toList.map a.eval) := AvRL_iff.2 ⟨by simp, fun i v x hv hx => by
    rw [List.getElem?_map] at hv hx
    cases hk : args.toList[i]? with
    | none => rw [hk] at hv; cases hv
    | some p => rw [hk] at hv hx; cases hv; cases hx; exact ev_sound hr p⟩
  have hA := argsOf_sound hr w.heap.size hev hargs hob
  have hC := hcall w _ hA
  unfold Oper.wp
  rw [callG_exec hr hc hcl]
  simp only [Oper.upon]
  refine hC.mono fun e w' hpost => ?_
  obtain ⟨g, ty, c0, cs, h0, he, hbl, hge, hlt, hg, hsc⟩ := hpost
  subst he
  rw [hvs] at hev
  simp only [AvRL] at hev
  obtain ⟨x0, xs, hxs, hx0, -⟩ := hev
  rw [hxs] at h0
  simp only [List.getElem?_cons_zero, Option.some.injEq] at h0
  subst h0
  have hgrow := RelC_grow hr (w' := w') (ow' := upd ow g (some (.box (dstN o)))) hbl.size (fun b hb => ⟨hbl.block b hb, upd_ne _ _ (by omega)⟩) (hr.below.below hbl) (fun b p hle hp hne => ⟨by have := hr.low; omega, fun hlt2 => by have := hr.below.size; omega⟩) (fun b hle => by
    rw [upd_ne _ _ (by omega)]
    exact hr.new b (by have := hbl.size; omega))
  have hD : ∀ d, noB d = false → KeepD w w' st.r st.r hd' hd' d := fun d _ R hR => ⟨R, hR, rfl, fun p hp => ⟨hp, into_keep p _ _ _ _ (hr.root d R hR) hp (fun b o A n c hb _ hc => by
    rw [cell_same (hbl.block b hb)]; exact hc)⟩⟩
  have hB : ∀ t, noB t = false → KeepB st.b st.b bk bk t := fun t _ hl => ⟨hl, rfl⟩
  have hx0' := AvR_keep (τ := τ) hD hB v0 _ hx0
  rw [kill_no] at hx0'
  have hadd := RelC_addB hgrow (dstN o) ht g (v0 :: ds.map scAV) (x0 :: cs) ty hg (upd_same _ _ _) (by simp only [AvRL]; exact ⟨x0, cs, rfl, hx0', scVals_av hsc⟩)
  refine hK _ _ w' hK1 (rel_put hadd hd ?_)
  simp only [AvR]
  exact ⟨⟨_, rfl⟩, fun _ => by rw [upd_same]⟩
/-- Operations in the order of the text; the one that writes slot t is such a call. -/
def aopsP (P : Program) (τ : Ty) (al : List Nat) (t : Nat) (K : St → Prop) : List Oper → St → Prop
  | [], st => K st
  | o :: os, st =>
    match o.guard with
    | none => if o.dst = some t then aCallP P τ o (aopsP P τ al t K os) st else aop P τ al o (aopsP P τ al t K os) st
    | some (j, want) => False
theorem aopsP_sound (hτ : TyOk P τ) (hpos : TyPos τ) {al : List Nat} {t : Nat} {all : List Oper} {K : St → Prop} {Q : Exit → Act → World → Prop} (hQ : ∀ st a w, K st → Rel τ lo w0 st a w → Q .normal a w) :
    ∀ (os : List Oper) (st : St) (a : Act) (w : World), dstOk a.tmps.size os = true → Rel τ lo w0 st a w → aopsP P τ al t K os st → wpList P all.toArray Q os a w
  | [], st, a, w, _, h, ha => wpList_nil (hQ st a w ha h)
  | o :: os, st, a, w, hd, h, ha => by
    have hd1 : ∀ k, o.dst = some k → k < a.tmps.size := fun k hk => by
      have := List.all_eq_true.1 hd o (by simp)
      rw [hk] at this
      simpa using this
    have hd2 : dstOk a.tmps.size os = true := List.all_eq_true.2 fun x hx => List.all_eq_true.1 hd x (by simp [hx])
    refine wpList_step fun K' hK' => ?_
    simp only [aopsP] at ha
    split at ha
    · rename_i hg
      rw [if_pos (by simp [Region.wanted, hg])]
      split at ha
      · exact aCallP_sound hd1 h ha fun st' x w' h2 h3 => hK' _ _ (aopsP_sound hτ hpos hQ os st' _ w' (by rw [size_put]; exact hd2) h3 h2)
      · exact aop_sound hτ hpos hd1 h ha fun st' x w' h2 h3 => hK' _ _ (aopsP_sound hτ hpos hQ os st' _ w' (by rw [size_put]; exact hd2) h3 h2)
    · exact ha.elim
end
theorem awp_regionP {P : Program} {τ : Ty} {Q : Exit → St → Prop} {st : St} (t : Nat) (hτ : TyOk P τ) (hpos : TyPos τ) (al : List Nat) {id : Nat} {ops : List Oper} (hd : dstOk st.n ops = true) (h : aopsP P τ al t (Q .normal) ops st) : awp P τ (.region id ops.toArray false) Q st := fun lo w0 a w hr => by
  have hn : a.tmps.size = st.n := by obtain ⟨ow, hd, bk, h⟩ := hr; exact h.size
  refine wp_region_lit (aopsP_sound hτ hpos (fun st a w h1 h2 => ⟨st, h2, h1⟩) ops st a w (by rw [hn]; exact hd) hr h)
attribute [push_cast] aCallP aopsP scAV retPOk scAVs RetP
end Go.Proofs.Ytdbecmmeifdafaa
