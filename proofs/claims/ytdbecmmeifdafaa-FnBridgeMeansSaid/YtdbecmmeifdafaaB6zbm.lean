/- the dice of the laws: a number below another one -/
import Derived.Test.YtdbecmmeifdafaaB4zbm
import Derived.Test.YtdbecmmeifdafaaB5zbm
import Derived.Test.YtdbecmmeifdafaaGEzbm
namespace Go.Proofs.Ytdbecmmeifdafaa
open Nat renaming reduceMod → zA, reduceMul → zB, reduceDiv → zC, reduceAdd → zD, reduceSub → zE, reduceEqDiff → zF, reduceBEq → zG, reduceLT → zH, reduceLeDiff → zI
open Go.RowKit
set_option linter.unusedVariables false
set_option linter.unusedSimpArgs false

def dU (xs : List Int) : List D := xs.map (.int .u8)
theorem len_dU (xs : List Int) : (dU xs).length = xs.length := by simp [dU]
theorem getI_dU (xs : List Int) (i : Nat) : getI (dU xs) i = gi xs i := by
  unfold getI dU gi
  rw [List.getElem?_map, List.getD_eq_getElem?_getD]
  cases xs[i]? <;> rfl
theorem HasC_dU (xs : List Int) (i : Nat) : HasC (.int .u8) (dU xs) i = (i < xs.length) := by
  unfold HasC dU
  rw [List.getElem?_map]
  apply propext
  constructor
  · rintro ⟨n, h⟩
    cases hx : xs[i]? with
    | none => rw [hx] at h; cases h
    | some y => exact (List.getElem?_eq_some_iff.1 hx).1
  · intro h
    rw [List.getElem?_eq_getElem h]
    exact ⟨_, rfl⟩
theorem take_dU (xs : List Int) (n : Nat) : (dU xs).take n = dU (xs.take n) := by simp [dU]
theorem drop_dU (xs : List Int) (n : Nat) : (dU xs).drop n = dU (xs.drop n) := by simp [dU]
theorem toNat33 : Int.toNat 33 = 33 := rfl
theorem min3364 : min 33 64 = 33 := rfl
theorem arC_i64 (n : Int) : arC .i64 n = (.int .i64 n, i64ok n) := rfl
attribute [push_cast] toNat33 min3364 arC_i64 len_dU getI_dU HasC_dU take_dU drop_dU
def BytesOk (xs : List Int) : Prop := xs.length ≤ 4096 ∧ ∀ k, k < xs.length → 0 ≤ gi xs k ∧ gi xs k ≤ 255
theorem and_rg {a m : Int} (h0 : 0 ≤ m) (h1 : m ≤ 1073741823) : 0 ≤ andI .u64 a m ∧ andI .u64 a m ≤ m := by
  have e : (BitVec.ofInt 64 a &&& BitVec.ofInt 64 m).toNat ≤ m.toNat := by
    rw [BitVec.toNat_and]
    refine Nat.le_trans Nat.and_le_right ?_
    rw [BitVec.toNat_ofInt]
    have : ((2 ^ 64 : Nat) : Int) = 18446744073709551616 := by decide
    rw [this]
    omega
  unfold andI
  have hb : IntKind.u64.bits = 64 := rfl
  have hw : ∀ n : Nat, (n : Int) ≤ 1073741823 → IntKind.u64.wrap (n : Int) = n := fun n hn => by
    unfold IntKind.wrap
    simp only [IntKind.bits, IntKind.signed]
    have : ((2 : Int) ^ 64) = 18446744073709551616 := by decide
    simp [this]
    omega
  show 0 ≤ IntKind.u64.wrap ((BitVec.ofInt 64 a &&& BitVec.ofInt 64 m).toNat : Int) ∧ IntKind.u64.wrap ((BitVec.ofInt 64 a &&& BitVec.ofInt 64 m).toNat : Int) ≤ m
  rw [hw _ (by omega)]
  omega
def dH (h : Int) : Int := IntKind.u64.wrap (IntKind.u64.wrap (h * 6364136223846793005) + 1442695040888963407)
def dX (h : Int) : Int := andI .u64 (dH h / 2 ^ 33) 16777215
theorem dX_rg (h : Int) : 0 ≤ dX h ∧ dX h ≤ 16777215 := and_rg (by decide) (by decide)
def dI1 (code : List Int) (i : Int) : Int := if i < code.length then i + 1 else i
def dR (code : List Int) (i h n : Int) : Int := (if i < code.length then dX h + gi code i.toNat else dX h).tmod n
theorem dI1_rg {code : List Int} {i : Int} (h : 0 ≤ i ∧ i ≤ code.length) : 0 ≤ dI1 code i ∧ dI1 code i ≤ code.length := by unfold dI1; split <;> omega
theorem dR_rg {code : List Int} {i h n : Int} (hc : BytesOk code) (hi : 0 ≤ i) (hn : 1 ≤ n) : 0 ≤ dR code i h n ∧ dR code i h n < n := by
  have h1 := dX_rg h
  have h2 : 0 ≤ (if i < code.length then dX h + gi code i.toNat else dX h) := by
    split
    · have := hc.2 i.toNat (by omega); omega
    · omega
  unfold dR
  exact ⟨Int.tmod_nonneg _ h2, Int.tmod_lt_of_pos _ (by omega)⟩
@[reducible] def dDc (code : List Int) (i h : Int) : List D := [.lst 5 (dU code), .int .i64 i, .int .u64 h]
set_option maxRecDepth 20000 in
set_option maxHeartbeats 4000000 in
theorem below0_fn (code : List Int) (hby : BytesOk code) (i h : Int) (hi : 0 ≤ i ∧ i ≤ code.length) (n : Int) (hn : 1 ≤ n) : FnB Try.prog tyT 44 (dDc code i h) [.c (.int .i64 n)] (dDc code (dI1 code i) (dH h)) [.c (.int .i64 (dR code i h n))] := by
  have hX : 0 ≤ andI .u64 (IntKind.u64.wrap (IntKind.u64.wrap (h * 6364136223846793005) + 1442695040888963407) / 2 ^ 33) 16777215 ∧ andI .u64 (IntKind.u64.wrap (IntKind.u64.wrap (h * 6364136223846793005) + 1442695040888963407) / 2 ^ 33) 16777215 ≤ 16777215 := dX_rg h
  have hcl := hby.1
  unfold dDc
  refine FnB_of (fn := Try.f44) (rs := [.tmp 4]) tyOk tyPos Try.func44 (by kernel_rfl) rfl rfl (by rw [Try.ntmps44]; exact Nat.le_of_ble_eq_true rfl) rfl (by simp only [szA, List.mem_cons, List.not_mem_nil, or_false, forall_eq_or_imp, forall_eq, VT.cells, szL]; try decide) (Nat.le_of_ble_eq_true rfl) (by simp only [szL]; decide) (Nat.le_of_ble_eq_true rfl) rfl ?_
  rw [Try.ntmps44]
  simp only [push_cast, ↓brB_true, ↓brB_false, ↓reduceIte, zA, zB, zC, zD, zE, zF, zG, zH, zI, reduceCtorEq]
  refine awp_seq' fun K hK => ?_
  refine awp_region tyOk tyPos [] rfl ?_
  simp only [push_cast, ↓brB_true, ↓brB_false, ↓reduceIte, zA, zB, zC, zD, zE, zF, zG, zH, zI, reduceCtorEq]
  repeat' apply And.intro
  all_goals try exact gB
  all_goals first | (refine hK _ ?_; clear hK K) | (simp only [push_cast]; done)
  refine awp_seq' fun K hK => ?_
  refine awp_region tyOk tyPos [] rfl ?_
  simp only [push_cast, ↓brB_true, ↓brB_false, ↓reduceIte, zA, zB, zC, zD, zE, zF, zG, zH, zI, reduceCtorEq]
  repeat' apply And.intro
  all_goals try exact gB
  all_goals first | (refine hK _ ?_; clear hK K) | (simp only [push_cast]; done)
  refine awp_seq' fun K hK => ?_
  refine awp_region tyOk tyPos [] rfl ?_
  all_goals refine aops_cut 6 fun K9 hK9 => ?_
  all_goals simp only [push_cast, ↓brB_true, ↓brB_false, ↓reduceIte, zA, zB, zC, zD, zE, zF, zG, zH, zI, reduceCtorEq]
  all_goals repeat' (first | (apply brB_mk <;> (intro hg; (try simp only [push_cast] at hg))) | apply And.intro | (intro hg; (try simp only [push_cast] at hg)))
  all_goals first | exact gA | trivial | skip
  all_goals first | (refine hK9 _ ?_; clear hK9 K9) | (simp only [push_cast]; done)
  all_goals simp only [push_cast, ↓brB_true, ↓brB_false, ↓reduceIte, zA, zB, zC, zD, zE, zF, zG, zH, zI, reduceCtorEq]
  all_goals repeat' (first | (apply brB_mk <;> (intro hg; (try simp only [push_cast] at hg))) | apply And.intro | (intro hg; (try simp only [push_cast] at hg)))
  all_goals first | exact gA | trivial | skip
  all_goals first | (refine hK _ ?_; clear hK K) | (simp only [push_cast]; done)
  refine awp_seq' fun K1 hK1 => ?_
  refine awp_seq' fun K hK => ?_
  refine awp_regionD0 false tyOk tyPos tyMix ?_ rfl ?_
  · kernel_rfl
  intro C hC
  simp only [push_cast, ↓brB_true, ↓brB_false, ↓reduceIte, zA, zB, zC, zD, zE, zF, zG, zH, zI, reduceCtorEq]
  repeat' apply And.intro
  all_goals first | omega | with_reducible assumption | (refine hC _ ?_; kernel_rfl) | (simp only [List.length_set, List.length_append, List.length_replicate, List.length_cons, List.length_nil]; omega) | skip
  all_goals first | (refine hK _ ?_; clear hC C hK K) | (simp only [push_cast]; done)
  refine awp_cond rfl (fun hc => ?_) (fun hc => ?_) <;> (try simp only [push_cast] at hc)
  ·
    have hcb := hby.2 i.toNat (by omega)
    refine awp_seq' fun K hK => ?_
    refine awp_regionD0 false tyOk tyPos tyMix ?_ rfl ?_
    · kernel_rfl
    intro C hC
    simp only [push_cast, ↓brB_true, ↓brB_false, ↓reduceIte, zA, zB, zC, zD, zE, zF, zG, zH, zI, reduceCtorEq]
    repeat' apply And.intro
    all_goals first | omega | with_reducible assumption | (refine hC _ ?_; kernel_rfl) | (simp only [List.length_set, List.length_append, List.length_replicate, List.length_cons, List.length_nil]; omega) | skip
    all_goals first | (refine hK _ ?_; clear hC C hK K) | (simp only [push_cast]; done)
    refine awp_region tyOk tyPos [] rfl ?_
    simp only [push_cast, ↓brB_true, ↓brB_false, ↓reduceIte, zA, zB, zC, zD, zE, zF, zG, zH, zI, reduceCtorEq]
    repeat' apply And.intro
    all_goals try exact gB
    (try simp only [AThen, ABlk, reduceIte, zF]); refine hK1 _ ?_
    refine awp_seq' fun K hK => ?_
    refine awp_region tyOk tyPos [] rfl ?_
    simp only [push_cast, ↓brB_true, ↓brB_false, ↓reduceIte, zA, zB, zC, zD, zE, zF, zG, zH, zI, reduceCtorEq]
    repeat' apply And.intro
    all_goals try exact gB
    all_goals first | (refine hK _ ?_; clear hK K) | (simp only [push_cast]; done)
    refine awp_ret ?_
    (try simp only [AThen, ABlk])
    refine ⟨Or.inl rfl, ?_⟩
    simp only [RetB, RetOk, cellsB, resVars, resVar, push_cast, ↓brB_true, ↓brB_false, ↓reduceIte, zA, zB, zC, zD, zE, zF, zG, zH, zI, reduceCtorEq]
    all_goals first | exact ⟨by unfold dR; rw [if_pos hc]; rfl, (by unfold dI1; rw [if_pos hc]), rfl⟩ | exact ⟨by unfold dR; rw [if_neg hc]; rfl, (by unfold dI1; rw [if_neg hc]), rfl⟩
  ·
    refine awp_skip ?_
    (try simp only [AThen, ABlk, reduceIte, zF]); refine hK1 _ ?_
    refine awp_seq' fun K hK => ?_
    refine awp_region tyOk tyPos [] rfl ?_
    simp only [push_cast, ↓brB_true, ↓brB_false, ↓reduceIte, zA, zB, zC, zD, zE, zF, zG, zH, zI, reduceCtorEq]
    repeat' apply And.intro
    all_goals try exact gB
    all_goals first | (refine hK _ ?_; clear hK K) | (simp only [push_cast]; done)
    refine awp_ret ?_
    (try simp only [AThen, ABlk])
    refine ⟨Or.inl rfl, ?_⟩
    simp only [RetB, RetOk, cellsB, resVars, resVar, push_cast, ↓brB_true, ↓brB_false, ↓reduceIte, zA, zB, zC, zD, zE, zF, zG, zH, zI, reduceCtorEq]
    all_goals first | exact ⟨by unfold dR; rw [if_pos hc]; rfl, (by unfold dI1; rw [if_pos hc]), rfl⟩ | exact ⟨by unfold dR; rw [if_neg hc]; rfl, (by unfold dI1; rw [if_neg hc]), rfl⟩
end Go.Proofs.Ytdbecmmeifdafaa

namespace Go.Proofs.Ytdbecmmeifdafaa
open Go.ChangeShapes Go.WideShapes Go.ChangeAt Go.RowKit Go.Deep Go.Joins
set_option linter.unusedVariables false
set_option linter.unusedSimpArgs false

section
variable {H : Type} {enc : TypeId × Value → H} {W : World} {lo : Nat}
theorem open_b {fuel : Nat} {cs : List Value} {x : DataW H × List MemPlace} (h : Tro enc W fuel 5 cs x) : ∃ v n, cs = [v] ∧ RpN lo W (.int .u8 n) v ∧ (0 ≤ n ∧ n ≤ 255) := by
  obtain ⟨n, rfl, -, hw⟩ := DataW.trod_int Try.underlying5 h
  exact ⟨_, n, rfl, by simp only [Rp], by simp only [Lit.wf, Bool.and_eq_true, decide_eq_true_eq] at hw; exact hw⟩
theorem flat_U : ∀ (dss : List (List D)), (∀ ds ∈ dss, ∃ n, ds = [.int .u8 n] ∧ (0 ≤ n ∧ n ≤ 255)) → ∃ xs : List Int, dss.flatten = dU xs ∧ (∀ x ∈ xs, 0 ≤ x ∧ x ≤ 255) ∧ xs.length = dss.length
  | [], _ => ⟨[], rfl, fun x hx => by simp at hx, rfl⟩
  | ds :: dss, h => by
    obtain ⟨n, rfl, hn⟩ := h ds (by simp)
    obtain ⟨xs, e, hr, hl⟩ := flat_U dss (fun d hd => h d (by simp [hd]))
    refine ⟨n :: xs, by rw [List.flatten_cons, e]; rfl, fun x hx => ?_, by simp [hl]⟩
    rcases List.mem_cons.1 hx with rfl | hx
    · exact hn
    · exact hr x hx
set_option maxRecDepth 100000 in
theorem arg_U {base : Nat} {v : Value} {d : DataW H} {p : List MemPlace} (hv : Value.okWide Try.prog W .any base 22 v) (h : DataW.Trod enc Try.prog W 0 (fun _ => true) true 22 v d p) : ∃ xs, ArgR (sz tyT) lo W (fun _ => none) (.c (.lst 5 (dU xs))) v ∧ (∀ k, k < xs.length → 0 ≤ gi xs k ∧ gi xs k ≤ 255) ∧ xs.length ≤ 9223372036854775807 := by
  obtain ⟨A, n, c, rfl⟩ := okWide_slice Try.underlying22 hv
  obtain ⟨fuel, hf⟩ := h
  obtain ⟨v', dss, e, h1, h2, h3⟩ := open_S (lo := lo) (k := 1) Try.underlying22 (by omega) sz_5 (by kernel_rfl) (Q := fun ds => ∃ n, ds = [.int .u8 n] ∧ (0 ≤ n ∧ n ≤ 255)) (fun n cs y hy => by
    obtain ⟨v, n, rfl, h1, h2⟩ := open_b (lo := lo) hy
    exact ⟨[.int .u8 n], RpS_one h1, n, rfl, h2⟩) hf
  obtain ⟨xs, e2, hr, hl⟩ := flat_U dss (fun ds hds => (h3 ds hds).1)
  rw [e2] at h1
  simp only [Value.cells, List.cons.injEq, and_true] at e
  subst e
  refine ⟨xs, h1, fun k hk => hr _ ?_, by omega⟩
  unfold gi
  rw [List.getD_eq_getElem?_getD, List.getElem?_eq_getElem hk]
  exact List.getElem_mem _
end
end Go.Proofs.Ytdbecmmeifdafaa

namespace Go.Proofs.Ytdbecmmeifdafaa
open Go.RowKit
set_option linter.unusedVariables false
set_option linter.unusedSimpArgs false

def scAV : D → AV
  | .int k n => .int k n
  | .bool b => .bool b
  | _ => .dead
def scVals : List D → List Value → Prop
  | [], cs => cs = []
  | .int k n :: ds, cs => ∃ cs', cs = .int k n :: cs' ∧ scVals ds cs'
  | .bool b :: ds, cs => ∃ cs', cs = .bool b :: cs' ∧ scVals ds cs'
  | _ :: _, _ => False
def scAVs : List D → List AV → Prop
  | [], [] => True
  | .int k n :: ds, .int k' n' :: us => (k' = k ∧ n' = n) ∧ scAVs ds us
  | .bool b :: ds, .bool b' :: us => b' = b ∧ scAVs ds us
  | _, _ => False
def PostP (w : World) (ds : List D) (cargs : List Value) (e : Ending) (w' : World) : Prop :=
  ∃ g ty c0 cs, cargs[0]? = some c0 ∧ e = .returned (.pointer (some ⟨g, 0, none⟩)) ∧ Below w.heap.size w w' ∧ w.heap.size ≤ g ∧ g < w'.heap.size ∧ w'.heap[g]? = some (.cells (List.toArray (c0 :: cs)) ty (0, 0)) ∧ scVals ds cs
def FnP (P : Program) (τ : Ty) (f : FuncId) (args : List VT) (ds : List D) : Prop :=
  Callable P f ∧ ∀ (w : World) (cargs : List Value), ArgsR (sz τ) w.heap.size w (fun _ => none) args cargs → Calls P f cargs.toArray w (PostP w ds cargs)
def retPOk (τ : Ty) (st : St) (ds : List D) : AV → Prop
  | .bp T 0 => match lk st.b T with
    | some (.sl 0 [] 0 len e :: us) => (match lk st.r 0 with | some R => R.pin = some 0 ∧ R.e = e ∧ R.xs.length = len * sz τ e ∧ sz τ e ≠ 0 | none => False) ∧ scAVs ds us
    | _ => False
  | _ => False
def RetP (τ : Ty) (rs : List ResultVar) (ds : List D) (e : Exit) (st : St) : Prop := (e = .ret ∨ e = .normal) ∧
  match resVars τ st rs with
  | some ([v], ob) => ob ∧ retPOk τ st ds v
  | _ => False

section
variable {P : Program} {τ : Ty} {lo : Nat} {w0 : Fz} {ow : Nat → Option Pl} {hd : Nat → Value} {bk : Nat → Nat} {st : St} {a : Act} {w : World}

theorem scAVs_sound {rr : List (Nat × Root)} {bb : List (Nat × List AV)} : ∀ {ds : List D} {us : List AV} {cs : List Value}, scAVs ds us → AvRL τ w rr bb hd bk us cs → scVals ds cs
  | [], [], cs, _, h => by simpa only [AvRL, scVals] using h
  | [], _ :: _, _, h, _ => h.elim
  | .int k n :: ds, [], _, h, _ => h.elim
  | .bool b :: ds, [], _, h, _ => h.elim
  | .hole :: ds, _, _, h, _ => by simp [scAVs] at h
  | .lst e xs :: ds, _, _, h, _ => by simp [scAVs] at h
  | .int k n :: ds, u :: us, cs, h, h2 => by
    cases u <;> simp only [scAVs] at h
    obtain ⟨⟨rfl, rfl⟩, h3⟩ := h
    simp only [AvRL, AvR] at h2
    obtain ⟨v, cs', rfl, rfl, h4⟩ := h2
    exact ⟨cs', rfl, scAVs_sound h3 h4⟩
  | .bool b :: ds, u :: us, cs, h, h2 => by
    cases u <;> simp only [scAVs] at h
    obtain ⟨rfl, h3⟩ := h
    simp only [AvRL, AvR] at h2
    obtain ⟨v, cs', rfl, rfl, h4⟩ := h2
    exact ⟨cs', rfl, scAVs_sound h3 h4⟩
theorem scVals_av {rr : List (Nat × Root)} {bb : List (Nat × List AV)} : ∀ {ds : List D} {cs : List Value}, scVals ds cs → AvRL τ w rr bb hd bk (ds.map scAV) cs
  | [], cs, h => by simpa only [List.map_nil, AvRL, scVals] using h
  | .int k n :: ds, cs, h => by
    obtain ⟨cs', rfl, h2⟩ := h
    simp only [List.map_cons, scAV, AvRL, AvR]
    exact ⟨_, cs', rfl, rfl, scVals_av h2⟩
  | .bool b :: ds, cs, h => by
    obtain ⟨cs', rfl, h2⟩ := h
    simp only [List.map_cons, scAV, AvRL, AvR]
    exact ⟨_, cs', rfl, rfl, scVals_av h2⟩
  | .hole :: ds, _, h => h.elim
  | .lst e xs :: ds, _, h => h.elim

theorem FnP_of (hτ : TyOk P τ) (hpos : TyPos τ) {f : FuncId} {fn : Func} {c : Code} {rs : List ResultVar} {e0 : TypeId} {xs0 : List D} {args : List VT} {ds : List D} (hfn : P.funcs[f]? = some fn) (hname : (fn.name == "runtime.NumGoroutine") = false) (hb : fn.body = some c) (hres : fn.results = rs.toArray) (hn : (VT.c (.lst e0 xs0) :: args).length ≤ fn.ntmps) (hfew : few (VT.c (.lst e0 xs0) :: args) = true) (hs : szA τ (VT.c (.lst e0 xs0) :: args))
    (h : awp P τ c (RetP τ rs ds) (argStS τ fn.ntmps (VT.c (.lst e0 xs0) :: args))) : FnP P τ f (VT.c (.lst e0 xs0) :: args) ds := by
  refine ⟨⟨fn, hfn, hname, by rw [hb]; rfl⟩, fun w cargs hargs => ?_⟩
  have hst0 := argStS_sound hs hfew hn hargs
  obtain ⟨c0, cs0, hcargs, hc0, -⟩ := hargs
  subst hcargs
  simp only [ArgR] at hc0
  obtain ⟨A0, n0, k0, rfl, -⟩ := Rp_form hc0
  refine calls_of_wp hfn hb (Go.wp_mono (h _ _ _ w ⟨_, _, _, hst0⟩) fun e a' w' ⟨st', ⟨ow, hd, bk, hr⟩, he, hret0⟩ => ?_)
  have hpost : a'.defers = [] ∧ ∃ v, (results fn a'.tmps).run P w' = .ok v w' ∧ PostP w ds (.slice A0 n0 k0 :: cs0) (.returned v) w' := by
    split at hret0
    rotate_left
    · exact hret0.elim
    rename_i v ob0 hrv
    obtain ⟨hob0, hret⟩ := hret0
    obtain ⟨xs, hrun, hv⟩ := results_runR hτ hpos hr hres hrv hob0
    simp only [AvRL] at hv
    obtain ⟨x, xs', rfl, hx, rfl⟩ := hv
    refine ⟨hr.defers, _, hrun, ?_⟩
    unfold retPOk at hret
    split at hret
    rotate_left
    · exact hret.elim
    rename_i T
    split at hret
    rotate_left
    · exact hret.elim
    rename_i len e1 us hT
    obtain ⟨h1, h2⟩ := hret
    cases hR : lk st'.r 0 with
    | none => rw [hR] at h1; exact h1.elim
    | some R =>
      rw [hR] at h1
      obtain ⟨hp, he1, hxl, hz⟩ := h1
      obtain ⟨cs, ty, b1, b2, b3⟩ := hr.box T _ hT
      simp only [AvRL] at b3
      obtain ⟨u0, cs1, rfl, k1, k2⟩ := b3
      simp only [AvR] at hx
      have hxp := hx.2 ⟨_, hT⟩
      subst hxp
      have hph := hr.pin _ R _ hR hp
      have hph : hdArgs (Value.slice A0 n0 k0 :: cs0) 0 = hd 0 := Option.some.inj hph
      have hh0 : hdArgs (Value.slice A0 n0 k0 :: cs0) 0 = .slice A0 n0 k0 := rfl
      rw [hh0] at hph
      simp only [AvR] at k1
      obtain ⟨hv, hin, A, n, c2, A', c', q1, q2, hle, hlc, hmx, hf, hA⟩ := k1.2 R hR (by simp [okPath])
      simp only [into, Option.some.injEq] at hin
      obtain ⟨rfl, rfl⟩ := hf rfl
      obtain ⟨A3, n3, c3, q3, l3, -⟩ := Rp_form (hr.root _ R hR)
      rw [hin, q1] at q3; cases q3
      rw [he1] at l3
      have hn : n = len := Nat.eq_of_mul_eq_mul_right (Nat.pos_of_ne_zero hz) (by rw [← l3, hxl])
      have hu0 : u0 = .slice A0 n0 k0 := by rw [hph, hin, q1, q2, hn]
      subst hu0
      have hlt : bk T < w'.heap.size := (Array.getElem?_eq_some_iff.1 b1).1
      have hge : w.heap.size ≤ bk T := by
        rcases Nat.lt_or_ge (bk T) w.heap.size with hl | hl
        · exact absurd trivial ((hr.ge _ _ hlt b2 (by simp)).2 hl)
        · exact hl
      exact ⟨bk T, ty, .slice A0 n0 k0, cs1, rfl, rfl, ⟨hr.below.os, hr.below.tape, hr.below.output, hr.below.size, fun b hb => hr.below.block b hb trivial⟩, hge, hlt, b1, scAVs_sound h2 k2⟩
  rcases he with rfl | rfl <;> exact hpost

def aCallP (P : Program) (τ : Ty) (o : Oper) (K : St → Prop) (st : St) : Prop :=
  match callOf o with
  | some (f, args, ts) =>
    match argsOf τ st ts.toList (args.toList.map (ev st)), args.toList.map (ev st) with
    | some (as9, ob), v0 :: _ => ob ∧ dstN o ≠ 1000000 ∧ ∃ ds, FnP P τ f as9 ds ∧ K ((st.addB (dstN o) (AV.killL noB (is1 (dstN o)) (v0 :: ds.map scAV))).put o.dst (.bp (dstN o) 0))
    | _, _ => False
  | none => False
theorem aCallP_sound {o : Oper} {K : St → Prop} {Q : Exit → Act → World → Prop} {K' : Act → World → Prop} (hd : ∀ k, o.dst = some k → k < a.tmps.size) (h : Rel τ lo w0 st a w) (ha : aCallP P τ o K st)
    (hK : ∀ st' x w', K st' → Rel τ lo w0 st' (a.put o.dst x) w' → K' (a.put o.dst x) w') : o.wp P a w K' Q := by
  obtain ⟨ow, hd', bk, hr⟩ := h
  unfold aCallP at ha
  split at ha
  rotate_left
  · exact ha.elim
  rename_i f args ts hc
  split at ha
  rotate_left
  · exact ha.elim
  rename_i as9 ob v0 vs hargs hvs
  obtain ⟨hob, ht, ds, ⟨hcl, hcall⟩, hK1⟩ := ha
  have hev : AvRL τ w st.r st.b hd' bk (args.toList.map (ev st)) (args.toList.map a.eval) := AvRL_iff.2 ⟨by simp, fun i v x hv hx => by
    rw [List.getElem?_map] at hv hx
    cases hk : args.toList[i]? with
    | none => rw [hk] at hv; cases hv
    | some p => rw [hk] at hv hx; cases hv; cases hx; exact ev_sound hr p⟩
  have hA := argsOf_sound hr w.heap.size hev hargs hob
  have hC := hcall w _ hA
  unfold Oper.wp
  rw [callG_exec hr hc hcl]
  simp only [Oper.upon]
  refine hC.mono fun e w' hpost => ?_
  obtain ⟨g, ty, c0, cs, h0, he, hbl, hge, hlt, hg, hsc⟩ := hpost
  subst he
  rw [hvs] at hev
  simp only [AvRL] at hev
  obtain ⟨x0, xs, hxs, hx0, -⟩ := hev
  rw [hxs] at h0
  simp only [List.getElem?_cons_zero, Option.some.injEq] at h0
  subst h0
  have hgrow := RelC_grow hr (w' := w') (ow' := upd ow g (some (.box (dstN o)))) hbl.size (fun b hb => ⟨hbl.block b hb, upd_ne _ _ (by omega)⟩) (hr.below.below hbl) (fun b p hle hp hne => ⟨by have := hr.low; omega, fun hlt2 => by have := hr.below.size; omega⟩) (fun b hle => by
    rw [upd_ne _ _ (by omega)]
    exact hr.new b (by have := hbl.size; omega))
  have hD : ∀ d, noB d = false → KeepD w w' st.r st.r hd' hd' d := fun d _ R hR => ⟨R, hR, rfl, fun p hp => ⟨hp, into_keep p _ _ _ _ (hr.root d R hR) hp (fun b o A n c hb _ hc => by
    rw [cell_same (hbl.block b hb)]; exact hc)⟩⟩
  have hB : ∀ t, noB t = false → KeepB st.b st.b bk bk t := fun t _ hl => ⟨hl, rfl⟩
  have hx0' := AvR_keep (τ := τ) hD hB v0 _ hx0
  rw [kill_no] at hx0'
  have hadd := RelC_addB hgrow (dstN o) ht g (v0 :: ds.map scAV) (x0 :: cs) ty hg (upd_same _ _ _) (by simp only [AvRL]; exact ⟨x0, cs, rfl, hx0', scVals_av hsc⟩)
  refine hK _ _ w' hK1 (rel_put hadd hd ?_)
  simp only [AvR]
  exact ⟨⟨_, rfl⟩, fun _ => by rw [upd_same]⟩
def aopsP (P : Program) (τ : Ty) (al : List Nat) (t : Nat) (K : St → Prop) : List Oper → St → Prop
  | [], st => K st
  | o :: os, st =>
    match o.guard with
    | none => if o.dst = some t then aCallP P τ o (aopsP P τ al t K os) st else aop P τ al o (aopsP P τ al t K os) st
    | some (j, want) => False
theorem aopsP_sound (hτ : TyOk P τ) (hpos : TyPos τ) {al : List Nat} {t : Nat} {all : List Oper} {K : St → Prop} {Q : Exit → Act → World → Prop} (hQ : ∀ st a w, K st → Rel τ lo w0 st a w → Q .normal a w) :
    ∀ (os : List Oper) (st : St) (a : Act) (w : World), dstOk a.tmps.size os = true → Rel τ lo w0 st a w → aopsP P τ al t K os st → wpList P all.toArray Q os a w
  | [], st, a, w, _, h, ha => wpList_nil (hQ st a w ha h)
  | o :: os, st, a, w, hd, h, ha => by
    have hd1 : ∀ k, o.dst = some k → k < a.tmps.size := fun k hk => by
      have := List.all_eq_true.1 hd o (by simp)
      rw [hk] at this
      simpa using this
    have hd2 : dstOk a.tmps.size os = true := List.all_eq_true.2 fun x hx => List.all_eq_true.1 hd x (by simp [hx])
    refine wpList_step fun K' hK' => ?_
    simp only [aopsP] at ha
    split at ha
    · rename_i hg
      rw [if_pos (by simp [Region.wanted, hg])]
      split at ha
      · exact aCallP_sound hd1 h ha fun st' x w' h2 h3 => hK' _ _ (aopsP_sound hτ hpos hQ os st' _ w' (by rw [size_put]; exact hd2) h3 h2)
      · exact aop_sound hτ hpos hd1 h ha fun st' x w' h2 h3 => hK' _ _ (aopsP_sound hτ hpos hQ os st' _ w' (by rw [size_put]; exact hd2) h3 h2)
    · exact ha.elim
end
theorem awp_regionP {P : Program} {τ : Ty} {Q : Exit → St → Prop} {st : St} (t : Nat) (hτ : TyOk P τ) (hpos : TyPos τ) (al : List Nat) {id : Nat} {ops : List Oper} (hd : dstOk st.n ops = true) (h : aopsP P τ al t (Q .normal) ops st) : awp P τ (.region id ops.toArray false) Q st := fun lo w0 a w hr => by
  have hn : a.tmps.size = st.n := by obtain ⟨ow, hd, bk, h⟩ := hr; exact h.size
  refine wp_region_lit (aopsP_sound hτ hpos (fun st a w h1 h2 => ⟨st, h2, h1⟩) ops st a w (by rw [hn]; exact hd) hr h)
attribute [push_cast] aCallP aopsP scAV retPOk scAVs RetP
end Go.Proofs.Ytdbecmmeifdafaa

namespace Go.Proofs.Ytdbecmmeifdafaa
open Nat renaming reduceMod → zA, reduceMul → zB, reduceDiv → zC, reduceAdd → zD, reduceSub → zE, reduceEqDiff → zF, reduceBEq → zG, reduceLT → zH, reduceLeDiff → zI
open Go.RowKit
set_option linter.unusedVariables false
set_option linter.unusedSimpArgs false

def rH (code : List Int) (seed : Int) : Nat → Int
  | 0 => IntKind.u64.wrap (IntKind.u64.wrap (seed * 7919) + code.length)
  | k + 1 => IntKind.u64.wrap (IntKind.u64.wrap (IntKind.u64.wrap (rH code seed k * 1099511628211) + gi code k) + 3)
set_option maxRecDepth 20000 in
set_option maxHeartbeats 4000000 in
theorem roll_fn (code : List Int) (hby : BytesOk code) (seed : Int) (hs : 0 ≤ seed ∧ seed ≤ 1000) : FnP Try.prog tyT 11 [.c (.lst 5 (dU code)), .c (.int .u64 seed)] [.int .i64 0, .int .u64 (rH code seed code.length)] := by
  have hcl := hby.1
  refine FnP_of (fn := Try.f11) (rs := [.tmp 4]) tyOk tyPos Try.func11 (by kernel_rfl) rfl rfl (by rw [Try.ntmps11]; exact Nat.le_of_ble_eq_true rfl) rfl (by simp only [szA, List.mem_cons, List.not_mem_nil, or_false, forall_eq_or_imp, forall_eq, VT.cells, szL]; try decide) ?_
  rw [Try.ntmps11]
  simp only [push_cast, ↓brB_true, ↓brB_false, ↓reduceIte, zA, zB, zC, zD, zE, zF, zG, zH, zI, reduceCtorEq]
  refine awp_seq' fun K hK => ?_
  refine awp_region tyOk tyPos [] rfl ?_
  simp only [push_cast, ↓brB_true, ↓brB_false, ↓reduceIte, zA, zB, zC, zD, zE, zF, zG, zH, zI, reduceCtorEq]
  repeat' apply And.intro
  all_goals try exact gB
  all_goals first | (refine hK _ ?_; clear hK K) | (simp only [push_cast]; done)
  refine awp_seq' fun K hK => ?_
  refine awp_region tyOk tyPos [] rfl ?_
  simp only [push_cast, ↓brB_true, ↓brB_false, ↓reduceIte, zA, zB, zC, zD, zE, zF, zG, zH, zI, reduceCtorEq]
  repeat' apply And.intro
  all_goals try exact gB
  all_goals first | (refine hK _ ?_; clear hK K) | (simp only [push_cast]; done)
  refine awp_seq' fun K1 hK1 => ?_
  refine awp_seq' fun K hK => ?_
  refine awp_region tyOk tyPos [] rfl ?_
  simp only [push_cast, ↓brB_true, ↓brB_false, ↓reduceIte, zA, zB, zC, zD, zE, zF, zG, zH, zI, reduceCtorEq]
  repeat' apply And.intro
  all_goals try exact gB
  all_goals first | (refine hK _ ?_; clear hK K) | (simp only [push_cast]; done)
  refine awp_block ?_
  refine awp_loopU [6,15,16,17,18,19,20,21,22,23,24,25,26,27,28,29,30,31,32,33,34,35,36] [] (fun (k : Nat) => [(6, .int .i64 k), (5, .bp 15 0)]) (fun k => [(15, [.sl 0 [] 0 code.length 5, .int .i64 0, .int .u64 (rH code seed k)])]) (fun k => []) (fun k => k ≤ code.length) (fun k => code.length - k) 0 ?_ (by omega) ?_
  ·
    refine cov_of rfl ?_ ?_ ?_ <;> simp only [covS, covL, push_cast, ↓brB_true, ↓brB_false, ↓reduceIte, zA, zB, zC, zD, zE, zF, zG, zH, zI, reduceCtorEq]
    all_goals (try rfl)
  · rintro k hk KL0 hL0
    simp only [push_cast, ↓brB_true, ↓brB_false, ↓reduceIte, zA, zB, zC, zD, zE, zF, zG, zH, zI, reduceCtorEq]
    refine awp_seq' fun K2 hK2 => ?_
    refine awp_seq' fun K hK => ?_
    refine awp_region tyOk tyPos [] rfl ?_
    simp only [push_cast, ↓brB_true, ↓brB_false, ↓reduceIte, zA, zB, zC, zD, zE, zF, zG, zH, zI, reduceCtorEq]
    repeat' apply And.intro
    all_goals try exact gB
    all_goals first | (refine hK _ ?_; clear hK K) | (simp only [push_cast]; done)
    refine awp_cond rfl (fun hc => ?_) (fun hc => ?_) <;> (try simp only [push_cast] at hc)
    ·
      refine awp_skip ?_
      (try simp only [AThen, ABlk, reduceIte, zF]); refine hK2 _ ?_
      refine awp_seq' fun K3 hK3 => ?_
      refine awp_block ?_
      have hbk := hby.2 k (by omega)
      refine awp_regionD0 false tyOk tyPos tyMix ?_ rfl ?_
      · kernel_rfl
      intro C hC
      simp only [push_cast, ↓brB_true, ↓brB_false, ↓reduceIte, zA, zB, zC, zD, zE, zF, zG, zH, zI, reduceCtorEq]
      repeat' apply And.intro
      all_goals first | omega | with_reducible assumption | (refine hC _ ?_; kernel_rfl) | (simp only [List.length_set, List.length_append, List.length_replicate, List.length_cons, List.length_nil]; omega) | skip
      clear hC C
      (try simp only [AThen, ABlk, reduceIte, zF]); refine hK3 _ ?_
      refine awp_region tyOk tyPos [] rfl ?_
      simp only [push_cast, ↓brB_true, ↓brB_false, ↓reduceIte, zA, zB, zC, zD, zE, zF, zG, zH, zI, reduceCtorEq]
      repeat' apply And.intro
      all_goals try exact gB
      refine hL0 _ ⟨k + 1, by omega, by omega, ?_⟩
      refine cov_of rfl ?_ ?_ ?_ <;> simp only [covS, covL, push_cast, ↓brB_true, ↓brB_false, ↓reduceIte, zA, zB, zC, zD, zE, zF, zG, zH, zI, reduceCtorEq]
      all_goals (try rfl)
    ·
      refine awp_exit ?_
      have hkk : k = code.length := by omega
      subst hkk
      (try simp only [AThen, ABlk, reduceIte, zF]); refine hK1 _ ?_
      refine awp_seq' fun K hK => ?_
      refine awp_region tyOk tyPos [] rfl ?_
      simp only [push_cast, ↓brB_true, ↓brB_false, ↓reduceIte, zA, zB, zC, zD, zE, zF, zG, zH, zI, reduceCtorEq]
      repeat' apply And.intro
      all_goals try exact gB
      all_goals first | (refine hK _ ?_; clear hK K) | (simp only [push_cast]; done)
      refine awp_ret ?_
      (try simp only [AThen, ABlk])
      refine ⟨Or.inl rfl, ?_⟩
      simp only [RetP, retPOk, scAVs, resVars, resVar, push_cast, ↓brB_true, ↓brB_false, ↓reduceIte, zA, zB, zC, zD, zE, zF, zG, zH, zI, reduceCtorEq]
      first | exact ⟨⟨rfl, rfl, by simp [len_dU], by decide⟩, ⟨rfl, rfl⟩, ⟨rfl, rfl⟩, trivial⟩ | skip
end Go.Proofs.Ytdbecmmeifdafaa

namespace Go.Proofs.Ytdbecmmeifdafaa
open Nat renaming reduceMod → zA, reduceMul → zB, reduceDiv → zC, reduceAdd → zD, reduceSub → zE, reduceEqDiff → zF, reduceBEq → zG, reduceLT → zH, reduceLeDiff → zI
open Go.RowKit
set_option linter.unusedVariables false
set_option linter.unusedSimpArgs false

theorem rm_kv {α : Type} (f : Nat → Bool) (k : Nat) (v : α) (l : List (Nat × α)) : rm f ((k, v) :: l) = if f k = true then rm f l else (k, v) :: rm f l := by
  unfold rm
  rw [List.filter_cons]
  cases f k <;> rfl
theorem rm_nl {α : Type} (f : Nat → Bool) : rm f ([] : List (Nat × α)) = [] := rfl
attribute [push_cast] rm_kv rm_nl
attribute [-push_cast] rm
def nI (code : List Int) : Nat → Int
  | 0 => 0
  | j + 1 => dI1 code (nI code j)
def nH (code : List Int) (seed : Int) : Nat → Int
  | 0 => rH code seed code.length
  | j + 1 => dH (nH code seed j)
def dv (code : List Int) (seed : Int) (j : Nat) (n : Int) : Int := dR code (nI code j) (nH code seed j) n
theorem nI_rg (code : List Int) : ∀ j, 0 ≤ nI code j ∧ nI code j ≤ code.length
  | 0 => ⟨Int.le_refl _, by show (0 : Int) ≤ _; omega⟩
  | j + 1 => dI1_rg (nI_rg code j)
theorem dv_rg {code : List Int} (hby : BytesOk code) (seed : Int) (j : Nat) {n : Int} (hn : 1 ≤ n) : 0 ≤ dv code seed j n ∧ dv code seed j n < n := dR_rg hby (nI_rg code j).1 hn
theorem nI_s (code : List Int) (j : Nat) : nI code (j + 1) = dI1 code (nI code j) := rfl
theorem nH_s (code : List Int) (seed : Int) (j : Nat) : nH code seed (j + 1) = dH (nH code seed j) := rfl
attribute [irreducible] nI nH dv
@[reducible] def dSt (code : List Int) (seed : Int) (j : Nat) : List D := dDc code (nI code j) (nH code seed j)
theorem draw_fn {code : List Int} (hby : BytesOk code) (seed : Int) (j : Nat) (n : Int) (hn : 1 ≤ n) : FnB Try.prog tyT 44 (dSt code seed j) [.c (.int .i64 n)] (dSt code seed (j + 1)) [.c (.int .i64 (dv code seed j n))] :=
  by
  have h := below0_fn code hby _ (nH code seed j) (nI_rg code j) n hn
  have e1 : dI1 code (nI code j) = nI code (j + 1) := (nI_s code j).symm
  have e2 : dH (nH code seed j) = nH code seed (j + 1) := (nH_s code seed j).symm
  rw [e1, e2] at h
  unfold dv
  exact h
theorem one_addN (n : Nat) : (1 : Int) + (n : Int) = (n : Int) + 1 := Int.add_comm _ _
attribute [push_cast] one_addN Int.sub_zero
def mks (code : List Int) (seed : Int) (N c : Nat) : Nat → List Bool
  | 0 => List.replicate N false
  | t + 1 => (mks code seed N c t).set (dv code seed (c + t) N).toNat true
theorem mks_len (code : List Int) (seed : Int) (N c : Nat) : ∀ t, (mks code seed N c t).length = N
  | 0 => by simp [mks]
  | t + 1 => by simp [mks, mks_len code seed N c t]
def rowU (m : List Bool) : Nat → List Int
  | 0 => []
  | u + 1 => if gb m u then rowU m u ++ [(u : Int)] else rowU m u
theorem rowU_yes {m : List Bool} {u : Nat} (h : gb m u = true) : rowU m (u + 1) = rowU m u ++ [(u : Int)] := by show (if _ then _ else _) = _; rw [if_pos h]
theorem rowU_no {m : List Bool} {u : Nat} (h : ¬ gb m u = true) : rowU m (u + 1) = rowU m u := by show (if _ then _ else _) = _; rw [if_neg h]
theorem rowU_len (m : List Bool) : ∀ u, (rowU m u).length ≤ u
  | 0 => Nat.le_refl _
  | u + 1 => by
    have := rowU_len m u
    unfold rowU
    split
    · simp; omega
    · omega
def rK (code : List Int) (seed : Int) (c : Nat) : Nat := (dv code seed c 3).toNat
def cA (code : List Int) (seed : Int) (j : Nat) : Nat → Nat
  | 0 => j + 1
  | v + 1 => cA code seed j v + 1 + (rK code seed (cA code seed j v) + 1) + 1
def oA (code : List Int) (seed : Int) (j : Nat) : Nat → List Int
  | 0 => []
  | v + 1 => oA code seed j v ++ [dv code seed (cA code seed j v + 1 + (rK code seed (cA code seed j v) + 1)) 2]
def xA (code : List Int) (seed : Int) (N j : Nat) : Nat → List (List Int)
  | 0 => []
  | v + 1 => xA code seed N j v ++ [rowU (mks code seed N (cA code seed j v + 1) (rK code seed (cA code seed j v) + 1)) N]
theorem oA_len (code : List Int) (seed : Int) (j : Nat) : ∀ v, (oA code seed j v).length = v
  | 0 => rfl
  | v + 1 => by simp [oA, oA_len code seed j v]
theorem xA_len (code : List Int) (seed : Int) (N j : Nat) : ∀ v, (xA code seed N j v).length = v
  | 0 => rfl
  | v + 1 => by simp [xA, xA_len code seed N j v]
def arN (code : List Int) (seed : Int) (j : Nat) (most : Int) : Nat := (dv code seed j most).toNat + 1
def arA (code : List Int) (seed : Int) (j : Nat) (most : Int) : Ar := ⟨oA code seed j (arN code seed j most), xA code seed (arN code seed j most) j (arN code seed j most)⟩
def arJ (code : List Int) (seed : Int) (j : Nat) (most : Int) : Nat := cA code seed j (arN code seed j most)
set_option maxRecDepth 20000 in
set_option maxHeartbeats 4000000 in
theorem w6Arena_fn (code : List Int) (hby : BytesOk code) (seed : Int) (j : Nat) (most : Int) (hm : 1 ≤ most ∧ most ≤ 16) : FnB Try.prog tyT 43 (dSt code seed j) [.c (.int .i64 most)] (dSt code seed (arJ code seed j most)) [.agg (dAr (arA code seed j most))] := by
  have hcl := hby.1
  have hr0 := dv_rg hby seed j hm.1
  have hB0 := draw_fn hby seed j most hm.1
  unfold arJ arA arN
  obtain ⟨n, hn⟩ : ∃ n : Nat, dv code seed j most = (n : Int) := ⟨_, (Int.toNat_of_nonneg hr0.1).symm⟩
  rw [hn] at hB0 hr0 ⊢
  rw [Int.toNat_natCast]
  unfold dAr
  refine FnB_of (fn := Try.f43) (rs := [.cell 4 30]) tyOk tyPos Try.func43 (by kernel_rfl) rfl rfl (by rw [Try.ntmps43]; exact Nat.le_of_ble_eq_true rfl) rfl (by simp only [szA, List.mem_cons, List.not_mem_nil, or_false, forall_eq_or_imp, forall_eq, VT.cells, szL]; try decide) (Nat.le_of_ble_eq_true rfl) (by simp only [szL]; decide) (Nat.le_of_ble_eq_true rfl) rfl ?_
  rw [Try.ntmps43]
  simp only [push_cast, ↓brB_true, ↓brB_false, ↓reduceIte, zA, zB, zC, zD, zE, zF, zG, zH, zI, reduceCtorEq]
  refine awp_seq' fun K hK => ?_
  refine awp_region tyOk tyPos [] rfl ?_
  simp only [push_cast, ↓brB_true, ↓brB_false, ↓reduceIte, zA, zB, zC, zD, zE, zF, zG, zH, zI, reduceCtorEq]
  repeat' apply And.intro
  all_goals try exact gB
  all_goals first | (refine hK _ ?_; clear hK K) | (simp only [push_cast]; done)
  refine awp_seq' fun K hK => ?_
  refine awp_regionN false tyOk tyPos ?_ rfl ?_
  · kernel_rfl
  all_goals refine seqE_cut 3 fun K9 hK9 => ?_
  all_goals simp only [push_cast, ↓brB_true, ↓brB_false, ↓reduceIte, zA, zB, zC, zD, zE, zF, zG, zH, zI, reduceCtorEq]
  all_goals repeat' (first | (apply brB_mk <;> (intro hg; (try simp only [push_cast] at hg))) | (refine ⟨_, _, hB0, ?_⟩; simp only [push_cast, ↓brB_true, ↓brB_false, ↓reduceIte, zA, zB, zC, zD, zE, zF, zG, zH, zI, reduceCtorEq]) | apply And.intro | (intro hg; (try simp only [push_cast] at hg)))
  all_goals try exact gA
  all_goals first | (refine hK9 _ ?_; clear hK9 K9) | (simp only [push_cast]; done)
  all_goals simp only [push_cast, ↓brB_true, ↓brB_false, ↓reduceIte, zA, zB, zC, zD, zE, zF, zG, zH, zI, reduceCtorEq]
  all_goals repeat' (first | (apply brB_mk <;> (intro hg; (try simp only [push_cast] at hg))) | (refine ⟨_, _, hB0, ?_⟩; simp only [push_cast, ↓brB_true, ↓brB_false, ↓reduceIte, zA, zB, zC, zD, zE, zF, zG, zH, zI, reduceCtorEq]) | apply And.intro | (intro hg; (try simp only [push_cast] at hg)))
  all_goals try exact gA
  all_goals first | (refine hK _ ?_; clear hK K) | (simp only [push_cast]; done)
  refine awp_seq' fun K hK => ?_
  refine awp_region tyOk tyPos [] rfl ?_
  simp only [push_cast, ↓brB_true, ↓brB_false, ↓reduceIte, zA, zB, zC, zD, zE, zF, zG, zH, zI, reduceCtorEq]
  repeat' apply And.intro
  all_goals try exact gB
  all_goals first | (refine hK _ ?_; clear hK K) | (simp only [push_cast]; done)
  refine awp_seq' fun K1 hK1 => ?_
  refine awp_seq' fun K hK => ?_
  refine awp_region tyOk tyPos [] rfl ?_
  simp only [push_cast, ↓brB_true, ↓brB_false, ↓reduceIte, zA, zB, zC, zD, zE, zF, zG, zH, zI, reduceCtorEq]
  repeat' apply And.intro
  all_goals try exact gB
  all_goals first | (refine hK _ ?_; clear hK K) | (simp only [push_cast]; done)
  refine awp_block ?_
  refine awp_loopU [6,7,8,9,10,11,17,18,19,20,21,22,23,24,25,26,27,28,29,30,31,32,33,34,35,36,37,38,39,40,41,42,43,44,45,46,47,48,49,50,51,52,53,54,55,56,57,58,59,60,61,62,1000000] [] (fun (v : Nat) => [(7, .int .i64 v), (6, .bp 6 0)]) (fun v => [(6, [.sl 96 [] 0 v 2, .sl 97 [] 0 v 27]), (1000000, [.sl 16000000 [] 0 code.length 5, .int .i64 (nI code (cA code seed j v)), .int .u64 (nH code seed (cA code seed j v))])]) (fun v => [(96, ⟨.ex, 2, dI (oA code seed j v), none⟩), (97, ⟨.ex, 27, dII (xA code seed (n + 1) j v), none⟩), (16000000, ⟨.sh, 5, dU code, some 16000000⟩)]) (fun v => v ≤ n + 1) (fun v => n + 1 - v) 0 ?_ (by omega) ?_
  ·
    rw [show dI (oA code seed j 0) = [] from rfl, show dII (xA code seed (n + 1) j 0) = [] from rfl, show cA code seed j 0 = j + 1 from rfl]
    refine cov_of rfl ?_ ?_ ?_ <;> simp only [covS, covL, push_cast, ↓brB_true, ↓brB_false, ↓reduceIte, zA, zB, zC, zD, zE, zF, zG, zH, zI, reduceCtorEq]
  · rintro v hv KL0 hL0
    have hol := oA_len code seed j v
    have hxl := xA_len code seed (n + 1) j v
    simp only [push_cast, ↓brB_true, ↓brB_false, ↓reduceIte, zA, zB, zC, zD, zE, zF, zG, zH, zI, reduceCtorEq]
    refine awp_seq' fun K2 hK2 => ?_
    refine awp_seq' fun K hK => ?_
    refine awp_region tyOk tyPos [] rfl ?_
    simp only [push_cast, ↓brB_true, ↓brB_false, ↓reduceIte, zA, zB, zC, zD, zE, zF, zG, zH, zI, reduceCtorEq]
    repeat' apply And.intro
    all_goals try exact gB
    all_goals first | (refine hK _ ?_; clear hK K) | (simp only [push_cast]; done)
    refine awp_cond rfl (fun hc => ?_) (fun hc => ?_) <;> (try simp only [push_cast] at hc)
    ·
      refine awp_skip ?_
      (try simp only [AThen, ABlk, reduceIte, zF]); refine hK2 _ ?_
      refine awp_seq' fun K3 hK3 => ?_
      refine awp_block ?_
      refine awp_seq' fun K hK => ?_
      refine awp_region tyOk tyPos [] rfl ?_
      simp only [push_cast, ↓brB_true, ↓brB_false, ↓reduceIte, zA, zB, zC, zD, zE, zF, zG, zH, zI, reduceCtorEq]
      repeat' apply And.intro
      all_goals try exact gB
      all_goals first | (refine hK _ ?_; clear hK K) | (simp only [push_cast]; done)
      refine awp_seq' fun K4 hK4 => ?_
      have hr1 := dv_rg hby seed (cA code seed j v) (n := 3) (by omega)
      have hB1 := draw_fn hby seed (cA code seed j v) 3 (by omega)
      rw [show dv code seed (cA code seed j v) 3 = (rK code seed (cA code seed j v) : Int) from (Int.toNat_of_nonneg hr1.1).symm] at hB1 hr1
      have hr2 := fun t => dv_rg hby seed (cA code seed j v + 1 + t) (n := (n : Int) + 1) (by omega)
      have hB2 := fun t => draw_fn hby seed (cA code seed j v + 1 + t) ((n : Int) + 1) (by omega)
      have hB3 := draw_fn hby seed (cA code seed j v + 1 + (rK code seed (cA code seed j v) + 1)) 2 (by omega)
      refine awp_seq' fun K hK => ?_
      refine awp_regionN false tyOk tyPos ?_ rfl ?_
      · kernel_rfl
      all_goals refine seqE_cut 2 fun K9 hK9 => ?_
      all_goals simp only [push_cast, ↓brB_true, ↓brB_false, ↓reduceIte, zA, zB, zC, zD, zE, zF, zG, zH, zI, reduceCtorEq]
      all_goals repeat' (first | (apply brB_mk <;> (intro hg; (try simp only [push_cast] at hg))) | (refine ⟨_, _, hB1, ?_⟩; simp only [push_cast, ↓brB_true, ↓brB_false, ↓reduceIte, zA, zB, zC, zD, zE, zF, zG, zH, zI, reduceCtorEq]) | apply And.intro | (intro hg; (try simp only [push_cast] at hg)))
      all_goals try exact gA
      all_goals first | (refine hK9 _ ?_; clear hK9 K9) | (simp only [push_cast]; done)
      all_goals simp only [push_cast, ↓brB_true, ↓brB_false, ↓reduceIte, zA, zB, zC, zD, zE, zF, zG, zH, zI, reduceCtorEq]
      all_goals repeat' (first | (apply brB_mk <;> (intro hg; (try simp only [push_cast] at hg))) | (refine ⟨_, _, hB1, ?_⟩; simp only [push_cast, ↓brB_true, ↓brB_false, ↓reduceIte, zA, zB, zC, zD, zE, zF, zG, zH, zI, reduceCtorEq]) | apply And.intro | (intro hg; (try simp only [push_cast] at hg)))
      all_goals try exact gA
      all_goals first | (refine hK _ ?_; clear hK K) | (simp only [push_cast]; done)
      refine awp_block ?_
      refine awp_loopU [9,27,28,29,30,31,32,33,34,35,1000000] [128] (fun (t : Nat) => [(9, .int .i64 ((rK code seed (cA code seed j v) : Int) + 1 - t)), (8, .sl 128 [] 0 (n + 1) 4)]) (fun t => [(1000000, [.sl 16000000 [] 0 code.length 5, .int .i64 (nI code (cA code seed j v + 1 + t)), .int .u64 (nH code seed (cA code seed j v + 1 + t))])]) (fun t => [(128, ⟨.ex, 4, dB (mks code seed (n + 1) (cA code seed j v + 1) t), none⟩), (16000000, ⟨.sh, 5, dU code, some 16000000⟩)]) (fun t => t ≤ rK code seed (cA code seed j v) + 1) (fun t => rK code seed (cA code seed j v) + 1 - t) 0 ?_ (by omega) ?_
      ·
        rw [show mks code seed (n + 1) (cA code seed j v + 1) 0 = List.replicate (n + 1) false from rfl]
        refine cov_of rfl ?_ ?_ ?_ <;> simp only [covS, covL, push_cast, ↓brB_true, ↓brB_false, ↓reduceIte, zA, zB, zC, zD, zE, zF, zG, zH, zI, reduceCtorEq]
      · rintro t ht KL1 hL1
        have hml := mks_len code seed (n + 1) (cA code seed j v + 1) t
        simp only [push_cast, ↓brB_true, ↓brB_false, ↓reduceIte, zA, zB, zC, zD, zE, zF, zG, zH, zI, reduceCtorEq]
        refine awp_seq' fun K5 hK5 => ?_
        refine awp_seq' fun K hK => ?_
        refine awp_region tyOk tyPos [] rfl ?_
        simp only [push_cast, ↓brB_true, ↓brB_false, ↓reduceIte, zA, zB, zC, zD, zE, zF, zG, zH, zI, reduceCtorEq]
        repeat' apply And.intro
        all_goals try exact gB
        all_goals first | (refine hK _ ?_; clear hK K) | (simp only [push_cast]; done)
        refine awp_cond rfl (fun hc => ?_) (fun hc => ?_) <;> (try simp only [push_cast] at hc)
        ·
          refine awp_skip ?_
          (try simp only [AThen, ABlk, reduceIte, zF]); refine hK5 _ ?_
          refine awp_seq' fun K6 hK6 => ?_
          refine awp_block ?_
          have hr3 := hr2 t
          refine awp_regionN false tyOk tyPos ?_ rfl ?_
          · kernel_rfl
          all_goals refine seqE_cut 4 fun K9 hK9 => ?_
          all_goals simp only [push_cast, ↓brB_true, ↓brB_false, ↓reduceIte, zA, zB, zC, zD, zE, zF, zG, zH, zI, reduceCtorEq]
          all_goals repeat' (first | (apply brB_mk <;> (intro hg; (try simp only [push_cast] at hg))) | (refine ⟨_, _, hB2 t, ?_⟩; simp only [push_cast, ↓brB_true, ↓brB_false, ↓reduceIte, zA, zB, zC, zD, zE, zF, zG, zH, zI, reduceCtorEq]) | apply And.intro | (intro hg; (try simp only [push_cast] at hg)))
          all_goals try exact gA
          all_goals first | (refine hK9 _ ?_; clear hK9 K9) | (simp only [push_cast]; done)
          all_goals simp only [push_cast, ↓brB_true, ↓brB_false, ↓reduceIte, zA, zB, zC, zD, zE, zF, zG, zH, zI, reduceCtorEq]
          all_goals repeat' (first | (apply brB_mk <;> (intro hg; (try simp only [push_cast] at hg))) | (refine ⟨_, _, hB2 t, ?_⟩; simp only [push_cast, ↓brB_true, ↓brB_false, ↓reduceIte, zA, zB, zC, zD, zE, zF, zG, zH, zI, reduceCtorEq]) | apply And.intro | (intro hg; (try simp only [push_cast] at hg)))
          all_goals try exact gA
          (try simp only [AThen, ABlk, reduceIte, zF]); refine hK6 _ ?_
          refine awp_region tyOk tyPos [] rfl ?_
          simp only [push_cast, ↓brB_true, ↓brB_false, ↓reduceIte, zA, zB, zC, zD, zE, zF, zG, zH, zI, reduceCtorEq]
          repeat' apply And.intro
          all_goals try exact gB
          refine hL1 _ ⟨t + 1, by omega, by omega, ?_⟩
          refine cov_of rfl ?_ ?_ ?_ <;> simp only [covS, covL, push_cast, ↓brB_true, ↓brB_false, ↓reduceIte, zA, zB, zC, zD, zE, zF, zG, zH, zI, reduceCtorEq]
          all_goals first | (refine congrArg (AV.int .i64) ?_; omega) | exact rfl | skip
        ·
          refine awp_exit ?_
          have htt : t = (rK code seed (cA code seed j v) + 1) := by omega
          subst htt
          (try simp only [AThen, ABlk, reduceIte, zF]); refine hK4 _ ?_
          refine awp_seq' fun K hK => ?_
          refine awp_region tyOk tyPos [] rfl ?_
          simp only [push_cast, ↓brB_true, ↓brB_false, ↓reduceIte, zA, zB, zC, zD, zE, zF, zG, zH, zI, reduceCtorEq]
          repeat' apply And.intro
          all_goals try exact gB
          all_goals first | (refine hK _ ?_; clear hK K) | (simp only [push_cast]; done)
          refine awp_seq' fun K7 hK7 => ?_
          refine awp_seq' fun K hK => ?_
          refine awp_region tyOk tyPos [] rfl ?_
          simp only [push_cast, ↓brB_true, ↓brB_false, ↓reduceIte, zA, zB, zC, zD, zE, zF, zG, zH, zI, reduceCtorEq]
          repeat' apply And.intro
          all_goals try exact gB
          all_goals first | (refine hK _ ?_; clear hK K) | (simp only [push_cast]; done)
          refine awp_block ?_
          refine awp_loopU [10,11,37,38,39,40,41,42,43,44,45,46,47,48,49] [160] (fun (u : Nat) => [(11, .int .i64 u), (10, .sl 160 [] 0 (rowU (mks code seed (n + 1) (cA code seed j v + 1) (rK code seed (cA code seed j v) + 1)) u).length 2)]) (fun u => []) (fun u => [(160, ⟨.ex, 2, dI (rowU (mks code seed (n + 1) (cA code seed j v + 1) (rK code seed (cA code seed j v) + 1)) u), none⟩)]) (fun u => u ≤ n + 1) (fun u => n + 1 - u) 0 ?_ (by omega) ?_
          ·
            rw [show rowU (mks code seed (n + 1) (cA code seed j v + 1) (rK code seed (cA code seed j v) + 1)) 0 = [] from rfl, show dI [] = [] from rfl]
            refine cov_of rfl ?_ ?_ ?_ <;> simp only [covS, covL, push_cast, ↓brB_true, ↓brB_false, ↓reduceIte, zA, zB, zC, zD, zE, zF, zG, zH, zI, reduceCtorEq]
          · rintro u hu KL2 hL2
            have hul := rowU_len (mks code seed (n + 1) (cA code seed j v + 1) (rK code seed (cA code seed j v) + 1)) u
            simp only [push_cast, ↓brB_true, ↓brB_false, ↓reduceIte, zA, zB, zC, zD, zE, zF, zG, zH, zI, reduceCtorEq]
            refine awp_seq' fun K8 hK8 => ?_
            refine awp_seq' fun K hK => ?_
            refine awp_region tyOk tyPos [] rfl ?_
            simp only [push_cast, ↓brB_true, ↓brB_false, ↓reduceIte, zA, zB, zC, zD, zE, zF, zG, zH, zI, reduceCtorEq]
            repeat' apply And.intro
            all_goals try exact gB
            all_goals first | (refine hK _ ?_; clear hK K) | (simp only [push_cast]; done)
            refine awp_cond rfl (fun hc => ?_) (fun hc => ?_) <;> (try simp only [push_cast] at hc)
            ·
              refine awp_skip ?_
              (try simp only [AThen, ABlk, reduceIte, zF]); refine hK8 _ ?_
              refine awp_seq' fun K9 hK9 => ?_
              refine awp_block ?_
              refine awp_seq' fun K hK => ?_
              refine awp_region tyOk tyPos [] rfl ?_
              simp only [push_cast, ↓brB_true, ↓brB_false, ↓reduceIte, zA, zB, zC, zD, zE, zF, zG, zH, zI, reduceCtorEq]
              repeat' apply And.intro
              all_goals try exact gB
              all_goals first | (refine hK _ ?_; clear hK K) | (simp only [push_cast]; done)
              refine awp_cond rfl (fun hc => ?_) (fun hc => ?_) <;> (try simp only [push_cast] at hc)
              ·
                refine awp_region tyOk tyPos [] rfl ?_
                simp only [push_cast, ↓brB_true, ↓brB_false, ↓reduceIte, zA, zB, zC, zD, zE, zF, zG, zH, zI, reduceCtorEq]
                repeat' apply And.intro
                all_goals try exact gB
                (try simp only [AThen, ABlk, reduceIte, zF]); refine hK9 _ ?_
                refine awp_region tyOk tyPos [] rfl ?_
                simp only [push_cast, ↓brB_true, ↓brB_false, ↓reduceIte, zA, zB, zC, zD, zE, zF, zG, zH, zI, reduceCtorEq]
                repeat' apply And.intro
                all_goals try exact gB
                refine hL2 _ ⟨u + 1, by omega, by omega, ?_⟩
                rw [rowU_yes hc]
                refine cov_of rfl ?_ ?_ ?_ <;> simp only [covS, covL, push_cast, ↓brB_true, ↓brB_false, ↓reduceIte, zA, zB, zC, zD, zE, zF, zG, zH, zI, reduceCtorEq]
                all_goals (try (rw [List.length_append]; rfl))
              ·
                refine awp_skip ?_
                (try simp only [AThen, ABlk, reduceIte, zF]); refine hK9 _ ?_
                refine awp_region tyOk tyPos [] rfl ?_
                simp only [push_cast, ↓brB_true, ↓brB_false, ↓reduceIte, zA, zB, zC, zD, zE, zF, zG, zH, zI, reduceCtorEq]
                repeat' apply And.intro
                all_goals try exact gB
                refine hL2 _ ⟨u + 1, by omega, by omega, ?_⟩
                rw [rowU_no (by rw [hc]; decide)]
                refine cov_of rfl ?_ ?_ ?_ <;> simp only [covS, covL, push_cast, ↓brB_true, ↓brB_false, ↓reduceIte, zA, zB, zC, zD, zE, zF, zG, zH, zI, reduceCtorEq]
                all_goals (try (rw [List.length_append]; rfl))
            ·
              refine awp_exit ?_
              have huu : u = n + 1 := by omega
              subst huu
              (try simp only [AThen, ABlk, reduceIte, zF]); refine hK7 _ ?_
              refine awp_seq' fun K hK => ?_
              refine awp_regionD1 false tyOk tyPos tyMix ?_ rfl ?_
              · kernel_rfl
              intro E hE
              all_goals refine lexF_cut 4 (by decide) fun K9 hK9 => ?_
              all_goals simp only [push_cast, ↓brB_true, ↓brB_false, ↓reduceIte, zA, zB, zC, zD, zE, zF, zG, zH, zI, reduceCtorEq]
              all_goals repeat' (first | (apply brB_mk <;> (intro hg; (try simp only [push_cast] at hg))) | (refine ⟨_, _, hB3, ?_⟩; simp only [push_cast, ↓brB_true, ↓brB_false, ↓reduceIte, zA, zB, zC, zD, zE, zF, zG, zH, zI, reduceCtorEq]) | apply And.intro | (intro hg; (try simp only [push_cast] at hg)))
              all_goals try exact gA
              all_goals first | (refine hK9 _ _ ?_; clear hK9 K9) | (simp only [push_cast]; done)
              all_goals simp only [push_cast, ↓brB_true, ↓brB_false, ↓reduceIte, zA, zB, zC, zD, zE, zF, zG, zH, zI, reduceCtorEq]
              all_goals repeat' (first | (apply brB_mk <;> (intro hg; (try simp only [push_cast] at hg))) | (refine ⟨_, _, hB3, ?_⟩; simp only [push_cast, ↓brB_true, ↓brB_false, ↓reduceIte, zA, zB, zC, zD, zE, zF, zG, zH, zI, reduceCtorEq]) | apply And.intro | (intro hg; (try simp only [push_cast] at hg)))
              all_goals first | exact gA | (refine hE _ _ ?_ ?_; kernel_rfl) | skip
              all_goals clear hE E
              all_goals first | (refine hK _ ?_; clear hK K) | (simp only [push_cast]; done)
              refine awp_regionN false tyOk tyPos ?_ rfl ?_
              · kernel_rfl
              simp only [push_cast, ↓brB_true, ↓brB_false, ↓reduceIte, zA, zB, zC, zD, zE, zF, zG, zH, zI, reduceCtorEq]
              all_goals repeat' (first | (apply brB_mk <;> (intro hg; (try simp only [push_cast] at hg))) | apply And.intro | (intro hg; (try simp only [push_cast] at hg)))
              all_goals try exact gA
              (try simp only [AThen, ABlk, reduceIte, zF]); refine hK3 _ ?_
              refine awp_settleB [.sl 2, .sl 27] 6 ?_
              simp only [push_cast, ↓brB_true, ↓brB_false, ↓reduceIte, zA, zB, zC, zD, zE, zF, zG, zH, zI, reduceCtorEq]
              refine awp_region tyOk tyPos [] rfl ?_
              simp only [push_cast, ↓brB_true, ↓brB_false, ↓reduceIte, zA, zB, zC, zD, zE, zF, zG, zH, zI, reduceCtorEq]
              repeat' apply And.intro
              all_goals try exact gB
              refine hL0 _ ⟨v + 1, by omega, by omega, ?_⟩
              (try rw [List.take_of_length_le (l := oA code seed j v) (by omega)])
              (try rw [List.take_of_length_le (l := xA code seed (n + 1) j v) (by omega)])
              refine cov_of rfl ?_ ?_ ?_ <;> simp only [covS, covL, push_cast, ↓brB_true, ↓brB_false, ↓reduceIte, zA, zB, zC, zD, zE, zF, zG, zH, zI, reduceCtorEq]
              all_goals first | exact rfl | exact ⟨rfl, rfl⟩ | skip
    ·
      refine awp_exit ?_
      have hvv : v = n + 1 := by omega
      subst hvv
      (try simp only [AThen, ABlk, reduceIte, zF]); refine hK1 _ ?_
      refine awp_seq' fun K hK => ?_
      refine awp_region tyOk tyPos [] rfl ?_
      simp only [push_cast, ↓brB_true, ↓brB_false, ↓reduceIte, zA, zB, zC, zD, zE, zF, zG, zH, zI, reduceCtorEq]
      repeat' apply And.intro
      all_goals try exact gB
      all_goals first | (refine hK _ ?_; clear hK K) | (simp only [push_cast]; done)
      refine awp_ret ?_
      (try simp only [AThen, ABlk])
      refine ⟨Or.inl rfl, ?_⟩
      simp only [RetB, RetOk, cellsB, resVars, resVar, push_cast, ↓brB_true, ↓brB_false, ↓reduceIte, zA, zB, zC, zD, zE, zF, zG, zH, zI, reduceCtorEq]
      all_goals first | exact ⟨hol.symm, hxl.symm⟩ | skip
end Go.Proofs.Ytdbecmmeifdafaa

namespace Go.Proofs.Ytdbecmmeifdafaa
open Go.RowKit
set_option linter.unusedVariables false
set_option linter.unusedSimpArgs false

attribute [-push_cast] rm
theorem gi_dL {xs ys : List Int} {k : Nat} (h : k < xs.length) : gi (xs ++ ys) k = gi xs k := by
  unfold gi
  rw [List.getD_eq_getElem?_getD, List.getD_eq_getElem?_getD, List.getElem?_append_left h]
theorem gi_dR (xs : List Int) (y : Int) : gi (xs ++ [y]) xs.length = y := by
  unfold gi
  rw [List.getD_eq_getElem?_getD, List.getElem?_append_right (Nat.le_refl _)]
  simp
theorem gl_dL {xs ys : List (List Int)} {k : Nat} (h : k < xs.length) : gl (xs ++ ys) k = gl xs k := by
  unfold gl
  rw [List.getD_eq_getElem?_getD, List.getD_eq_getElem?_getD, List.getElem?_append_left h]
theorem gl_dR (xs : List (List Int)) (y : List Int) : gl (xs ++ [y]) xs.length = y := by
  unfold gl
  rw [List.getD_eq_getElem?_getD, List.getElem?_append_right (Nat.le_refl _)]
  simp
theorem rowU_at (m : List Bool) : ∀ u k, k < (rowU m u).length → (k = 0 ∨ gi (rowU m u) (k - 1) < gi (rowU m u) k) ∧ 0 ≤ gi (rowU m u) k ∧ gi (rowU m u) k < (u : Int)
  | 0, k, h => absurd h (Nat.not_lt_zero k)
  | u + 1, k, h => by
    have ih := rowU_at m u
    by_cases hm : gb m u = true
    · rw [rowU_yes hm] at h ⊢
      rw [List.length_append, List.length_singleton] at h
      rcases Nat.lt_or_ge k (rowU m u).length with h1 | h1
      · obtain ⟨a, b, c⟩ := ih k h1
        rw [gi_dL h1, gi_dL (by omega : k - 1 < _)]
        exact ⟨a, b, by omega⟩
      · have e : k = (rowU m u).length := by omega
        subst e
        rw [gi_dR]
        refine ⟨?_, by omega, by omega⟩
        rcases Nat.eq_zero_or_pos (rowU m u).length with h2 | h2
        · exact .inl h2
        · right
          rw [gi_dL (by omega)]
          exact (ih _ (by omega)).2.2
    · rw [rowU_no hm] at h ⊢
      obtain ⟨a, b, c⟩ := ih k h
      exact ⟨a, b, by omega⟩
theorem rowU_set (m : List Bool) (u : Nat) : isSetB (rowU m u) u = true :=
  allB_true fun k hk => by
    obtain ⟨a, b, c⟩ := rowU_at m u k hk
    unfold riseAt
    exact decide_eq_true ⟨b, c, a⟩
theorem rowU_pos {m : List Bool} {x : Nat} (h : gb m x = true) : ∀ u, x < u → 1 ≤ (rowU m u).length
  | 0, h' => absurd h' (Nat.not_lt_zero x)
  | u + 1, h' => by
    by_cases hm : gb m u = true
    · rw [rowU_yes hm, List.length_append, List.length_singleton]; omega
    · rw [rowU_no hm]
      refine rowU_pos h u ?_
      rcases Nat.lt_or_ge x u with h2 | h2
      · exact h2
      · exact absurd (by rw [show u = x by omega]; exact h) hm
theorem mks_some {code : List Int} (hby : BytesOk code) (seed : Int) {N : Nat} (hN : 1 ≤ N) (c t : Nat) : ∃ x, x < N ∧ gb (mks code seed N c (t + 1)) x = true := by
  have h := dv_rg hby seed (c + t) (n := (N : Int)) (by omega)
  refine ⟨(dv code seed (c + t) N).toNat, by omega, ?_⟩
  show gb (List.set _ _ true) _ = true
  unfold gb
  rw [List.getD_eq_getElem?_getD, List.getElem?_set_self (by rw [mks_len]; omega)]
  rfl
theorem oA_at {code : List Int} (hby : BytesOk code) (seed : Int) (j : Nat) : ∀ v k, k < v → 0 ≤ gi (oA code seed j v) k ∧ gi (oA code seed j v) k ≤ 1
  | 0, k, h => absurd h (Nat.not_lt_zero k)
  | v + 1, k, h => by
    show 0 ≤ gi (oA code seed j v ++ [_]) k ∧ gi (oA code seed j v ++ [_]) k ≤ 1
    have hl := oA_len code seed j v
    rcases Nat.lt_or_ge k v with h1 | h1
    · rw [gi_dL (by omega)]; exact oA_at hby seed j v k h1
    · rw [show k = (oA code seed j v).length by omega, gi_dR]
      have := dv_rg hby seed (cA code seed j v + 1 + (rK code seed (cA code seed j v) + 1)) (n := 2) (by omega)
      omega
theorem xA_at {code : List Int} (hby : BytesOk code) (seed : Int) {N : Nat} (hN : 1 ≤ N) (j : Nat) : ∀ v k, k < v → ∃ m x, x < N ∧ gb m x = true ∧ gl (xA code seed N j v) k = rowU m N
  | 0, k, h => absurd h (Nat.not_lt_zero k)
  | v + 1, k, h => by
    show ∃ m x, x < N ∧ gb m x = true ∧ gl (xA code seed N j v ++ [_]) k = rowU m N
    have hl := xA_len code seed N j v
    rcases Nat.lt_or_ge k v with h1 | h1
    · obtain ⟨m, x, a, b, c⟩ := xA_at hby seed hN j v k h1
      exact ⟨m, x, a, b, by rw [gl_dL (by omega)]; exact c⟩
    · obtain ⟨x, a, b⟩ := mks_some hby seed hN (cA code seed j v + 1) (rK code seed (cA code seed j v))
      exact ⟨_, x, a, b, by rw [show k = (xA code seed N j v).length by omega, gl_dR]⟩
theorem arN_le {code : List Int} (hby : BytesOk code) (seed : Int) (j : Nat) {most : Int} (hm : 1 ≤ most ∧ most ≤ 16) : 1 ≤ arN code seed j most ∧ (arN code seed j most : Int) ≤ most := by
  have := dv_rg hby seed j hm.1
  unfold arN
  omega
theorem arA_len {code : List Int} {seed : Int} {j : Nat} {most : Int} : (arA code seed j most).owner.length = arN code seed j most ∧ (arA code seed j most).next.length = arN code seed j most := ⟨oA_len _ _ _ _, xA_len _ _ _ _ _⟩
theorem arA_ok {code : List Int} (hby : BytesOk code) (seed : Int) (j : Nat) {most : Int} (hm : 1 ≤ most ∧ most ≤ 16) : arenaB (arA code seed j most) = true := by
  have hN := arN_le hby seed j hm
  obtain ⟨h1, h2⟩ := arA_len (code := code) (seed := seed) (j := j) (most := most)
  refine arenaB_true ⟨by omega, by omega, by omega⟩ fun v hv => ?_
  rw [h1] at hv
  unfold arenaAt ownAt
  rw [h1]
  have ho : 0 ≤ gi (arA code seed j most).owner v ∧ gi (arA code seed j most).owner v ≤ 1 := oA_at hby seed j _ v hv
  obtain ⟨m, x, ha, hb, hc⟩ := xA_at hby seed hN.1 j (arN code seed j most) v hv
  rw [show gl (arA code seed j most).next v = rowU m (arN code seed j most) from hc, decide_eq_true, Bool.true_and]
  · exact rowU_set _ _
  · have := rowU_pos hb _ ha
    have := rowU_len m (arN code seed j most)
    exact ⟨ho.1, ho.2, by omega, by omega⟩
end Go.Proofs.Ytdbecmmeifdafaa

namespace Go.Proofs.Ytdbecmmeifdafaa
open Nat renaming reduceMod → zA, reduceMul → zB, reduceDiv → zC, reduceAdd → zD, reduceSub → zE, reduceEqDiff → zF, reduceBEq → zG, reduceLT → zH, reduceLeDiff → zI
open Go.RowKit
set_option linter.unusedVariables false
set_option linter.unusedSimpArgs false

attribute [-push_cast] rm
theorem nI_0 (code : List Int) : nI code 0 = 0 := by with_unfolding_all rfl
theorem nH_0 (code : List Int) (seed : Int) : nH code seed 0 = rH code seed code.length := by with_unfolding_all rfl
theorem roll0_fn (code : List Int) (hby : BytesOk code) (seed : Int) (hs : 0 ≤ seed ∧ seed ≤ 1000) : FnP Try.prog tyT 11 [.c (.lst 5 (dU code)), .c (.int .u64 seed)] [.int .i64 (nI code 0), .int .u64 (nH code seed 0)] := by
  rw [nI_0, nH_0]
  exact roll_fn code hby seed hs
set_option maxRecDepth 20000 in
set_option maxHeartbeats 4000000 in
theorem big_fn (code : List Int) (hl : code.length ≤ 9223372036854775807) : Fn Try.prog tyT 10 [.c (.lst 5 (dU code))] [.c (.bool (decide (4096 < code.length)))] := by
  refine Fn_of (fn := Try.f10) (ts := [2]) Try.func10 (by kernel_rfl) rfl rfl (by rw [Try.ntmps10]; exact Nat.le_of_ble_eq_true rfl) rfl (by simp only [szA, List.mem_cons, List.not_mem_nil, or_false, forall_eq_or_imp, forall_eq, VT.cells, szL]; try decide) ?_
  rw [Try.ntmps10]
  simp only [push_cast, ↓brB_true, ↓brB_false, ↓reduceIte, zA, zB, zC, zD, zE, zF, zG, zH, zI, reduceCtorEq]
  refine awp_seq' fun K hK => ?_
  refine awp_region tyOk tyPos [] rfl ?_
  simp only [push_cast, ↓brB_true, ↓brB_false, ↓reduceIte, zA, zB, zC, zD, zE, zF, zG, zH, zI, reduceCtorEq]
  repeat' apply And.intro
  all_goals try exact gB
  all_goals first | (refine hK _ ?_; clear hK K) | (simp only [push_cast]; done)
  refine awp_seq' fun K hK => ?_
  refine awp_region tyOk tyPos [] rfl ?_
  simp only [push_cast, ↓brB_true, ↓brB_false, ↓reduceIte, zA, zB, zC, zD, zE, zF, zG, zH, zI, reduceCtorEq]
  repeat' apply And.intro
  all_goals try exact gB
  all_goals first | (refine hK _ ?_; clear hK K) | (simp only [push_cast]; done)
  refine awp_ret ?_
  (try simp only [AThen, ABlk])
  refine ⟨Or.inl rfl, ?_⟩
  simp only [RetOk, push_cast, ↓brB_true, ↓brB_false, ↓reduceIte, zA, zB, zC, zD, zE, zF, zG, zH, zI, reduceCtorEq]
  first | exact decide_eq_decide.2 (by omega) | skip
end Go.Proofs.Ytdbecmmeifdafaa

namespace Go.Proofs.Ytdbecmmeifdafaa
open Go.RowKit
set_option linter.unusedVariables false
set_option linter.unusedSimpArgs false

attribute [-push_cast] rm
end Go.Proofs.Ytdbecmmeifdafaa

namespace Go.Proofs.Ytdbecmmeifdafaa
open Go.RowKit
set_option linter.unusedVariables false
set_option linter.unusedSimpArgs false

end Go.Proofs.Ytdbecmmeifdafaa

namespace Go.Proofs.Ytdbecmmeifdafaa
open Go.RowKit
set_option linter.unusedVariables false
set_option linter.unusedSimpArgs false

end Go.Proofs.Ytdbecmmeifdafaa

namespace Go.Proofs.Ytdbecmmeifdafaa
open Go.RowKit
set_option linter.unusedVariables false
set_option linter.unusedSimpArgs false
attribute [-push_cast] rm
end Go.Proofs.Ytdbecmmeifdafaa

namespace Go.Proofs.Ytdbecmmeifdafaa
open Nat renaming reduceMod → zA, reduceMul → zB, reduceDiv → zC, reduceAdd → zD, reduceSub → zE, reduceEqDiff → zF, reduceBEq → zG, reduceLT → zH, reduceLeDiff → zI
open Go.RowKit
set_option linter.unusedVariables false
set_option linter.unusedSimpArgs false

attribute [-push_cast] rm
set_option maxRecDepth 20000 in
set_option maxHeartbeats 4000000 in
theorem likeInts_same (xs : List Int) (hl : xs.length ≤ 1048576) : Fn Try.prog tyT 19 [.c (DI xs), .c (DI xs)] [.c (.bool true)] := by
  refine Fn_of (fn := Try.f19) (ts := [4]) Try.func19 (by kernel_rfl) rfl rfl (by rw [Try.ntmps19]; exact Nat.le_of_ble_eq_true rfl) rfl (by simp only [szA, List.mem_cons, List.not_mem_nil, or_false, forall_eq_or_imp, forall_eq, VT.cells, szL]; try decide) ?_
  rw [Try.ntmps19]
  simp only [push_cast, ↓brB_true, ↓brB_false, ↓reduceIte, zA, zB, zC, zD, zE, zF, zG, zH, zI, reduceCtorEq]
  refine awp_seq' fun K hK => ?_
  refine awp_region tyOk tyPos [] rfl ?_
  simp only [push_cast, ↓brB_true, ↓brB_false, ↓reduceIte, zA, zB, zC, zD, zE, zF, zG, zH, zI, reduceCtorEq]
  repeat' apply And.intro
  all_goals try exact gB
  all_goals first | (refine hK _ ?_; clear hK K) | (simp only [push_cast]; done)
  refine awp_seq' fun K1 hK1 => ?_
  refine awp_seq' fun K hK => ?_
  refine awp_region tyOk tyPos [] rfl ?_
  simp only [push_cast, ↓brB_true, ↓brB_false, ↓reduceIte, zA, zB, zC, zD, zE, zF, zG, zH, zI, reduceCtorEq]
  repeat' apply And.intro
  all_goals try exact gB
  all_goals first | (refine hK _ ?_; clear hK K) | (simp only [push_cast]; done)
  refine awp_cond rfl (fun hc => ?_) (fun hc => ?_)
  skip
  · exfalso; first | (cases hc; done) | (simp only [push_cast] at hc; done) | (simp only [push_cast] at hc; omega) | omega
  refine awp_skip ?_
  (try simp only [AThen, ABlk, reduceIte, zF]); refine hK1 _ ?_
  refine awp_seq' fun K2 hK2 => ?_
  refine awp_seq' fun K hK => ?_
  refine awp_region tyOk tyPos [] rfl ?_
  simp only [push_cast, ↓brB_true, ↓brB_false, ↓reduceIte, zA, zB, zC, zD, zE, zF, zG, zH, zI, reduceCtorEq]
  repeat' apply And.intro
  all_goals try exact gB
  all_goals first | (refine hK _ ?_; clear hK K) | (simp only [push_cast]; done)
  refine awp_block ?_
  refine awp_loopU [4,5,11,12,13,14,15,16,17,18,19,20,21,22,23,24,25] [] (fun (k : Nat) => [(5, .int .i64 k)]) (fun k => []) (fun k => []) (fun k => k ≤ xs.length) (fun k => xs.length - k) 0 ?_ (by omega) ?_
  ·
    refine cov_of rfl ?_ ?_ ?_ <;> simp only [covS, covL, push_cast, ↓brB_true, ↓brB_false, ↓reduceIte, zA, zB, zC, zD, zE, zF, zG, zH, zI, reduceCtorEq]
  · rintro k hk KL0 hL0
    simp only [push_cast, ↓brB_true, ↓brB_false, ↓reduceIte, zA, zB, zC, zD, zE, zF, zG, zH, zI, reduceCtorEq]
    refine awp_seq' fun K3 hK3 => ?_
    refine awp_seq' fun K hK => ?_
    refine awp_region tyOk tyPos [] rfl ?_
    simp only [push_cast, ↓brB_true, ↓brB_false, ↓reduceIte, zA, zB, zC, zD, zE, zF, zG, zH, zI, reduceCtorEq]
    repeat' apply And.intro
    all_goals try exact gB
    all_goals first | (refine hK _ ?_; clear hK K) | (simp only [push_cast]; done)
    refine awp_cond rfl (fun hc => ?_) (fun hc => ?_) <;> (try simp only [push_cast] at hc)
    ·
      refine awp_skip ?_
      (try simp only [AThen, ABlk, reduceIte, zF]); refine hK3 _ ?_
      refine awp_seq' fun K4 hK4 => ?_
      refine awp_block ?_
      refine awp_seq' fun K hK => ?_
      refine awp_regionD0 false tyOk tyPos tyMix ?_ rfl ?_
      · kernel_rfl
      intro C hC
      simp only [push_cast, ↓brB_true, ↓brB_false, ↓reduceIte, zA, zB, zC, zD, zE, zF, zG, zH, zI, reduceCtorEq]
      repeat' apply And.intro
      all_goals first | omega | with_reducible assumption | (refine hC _ ?_; kernel_rfl) | (simp only [List.length_set, List.length_append, List.length_replicate, List.length_cons, List.length_nil]; omega) | skip
      all_goals first | (refine hK _ ?_; clear hC C hK K) | (simp only [push_cast]; done)
      refine awp_cond rfl (fun hc => ?_) (fun hc => ?_)
      skip
      · exfalso; first | (cases hc; done) | (simp only [push_cast] at hc; done) | (simp only [push_cast] at hc; omega) | omega
      refine awp_skip ?_
      (try simp only [AThen, ABlk, reduceIte, zF]); refine hK4 _ ?_
      refine awp_region tyOk tyPos [] rfl ?_
      simp only [push_cast, ↓brB_true, ↓brB_false, ↓reduceIte, zA, zB, zC, zD, zE, zF, zG, zH, zI, reduceCtorEq]
      repeat' apply And.intro
      all_goals try exact gB
      refine hL0 _ ⟨k + 1, by omega, by omega, ?_⟩
      refine cov_of rfl ?_ ?_ ?_ <;> simp only [covS, covL, push_cast, ↓brB_true, ↓brB_false, ↓reduceIte, zA, zB, zC, zD, zE, zF, zG, zH, zI, reduceCtorEq]
    ·
      refine awp_exit ?_
      have hkk : k = xs.length := by omega
      subst hkk
      (try simp only [AThen, ABlk, reduceIte, zF]); refine hK2 _ ?_
      refine awp_seq' fun K hK => ?_
      refine awp_region tyOk tyPos [] rfl ?_
      simp only [push_cast, ↓brB_true, ↓brB_false, ↓reduceIte, zA, zB, zC, zD, zE, zF, zG, zH, zI, reduceCtorEq]
      repeat' apply And.intro
      all_goals try exact gB
      all_goals first | (refine hK _ ?_; clear hK K) | (simp only [push_cast]; done)
      refine awp_ret ?_
      (try simp only [AThen, ABlk])
      refine ⟨Or.inl rfl, ?_⟩
      simp only [RetOk, push_cast, ↓brB_true, ↓brB_false, ↓reduceIte, zA, zB, zC, zD, zE, zF, zG, zH, zI, reduceCtorEq]
end Go.Proofs.Ytdbecmmeifdafaa

namespace Go.Proofs.Ytdbecmmeifdafaa
set_option linter.unusedVariables false
set_option linter.unusedSimpArgs false
structure PG where
  own : Nat → Int
  pr : Nat → Nat
  E : Nat → Nat → Prop
inductive Wk (R : Nat → Nat → Prop) (pr : Nat → Nat) : Nat → Nat → Nat → Prop
  | one {v u : Nat} : R v u → Wk R pr v u (pr v)
  | cons {v x u t : Nat} : R v x → Wk R pr x u t → Wk R pr v u (max (pr v) t)
theorem Wk.mono {R R' : Nat → Nat → Prop} {pr : Nat → Nat} (h : ∀ v u, R v u → R' v u) {v u t : Nat} (w : Wk R pr v u t) : Wk R' pr v u t := by
  induction w with
  | one h1 => exact .one (h _ _ h1)
  | cons h1 _ ih => exact .cons (h _ _ h1) ih
theorem Wk.app {R : Nat → Nat → Prop} {pr : Nat → Nat} {v x u s t : Nat} (a : Wk R pr v x s) (b : Wk R pr x u t) : Wk R pr v u (max s t) := by
  induction a with
  | one h1 => exact .cons h1 b
  | cons h1 _ ih => rw [Nat.max_assoc]; exact .cons h1 (ih b)
theorem Wk.le {R : Nat → Nat → Prop} {pr : Nat → Nat} {top : Nat} (h : ∀ v u, R v u → pr v ≤ top) {v u t : Nat} (w : Wk R pr v u t) : t ≤ top := by
  induction w with
  | one h1 => exact h _ _ h1
  | cons h1 _ ih => exact Nat.max_le.2 ⟨h _ _ h1, ih⟩
def SR (g : PG) (who : Int) (U : Nat → Prop) (s : Nat → Nat) (v u : Nat) : Prop := U v ∧ U u ∧ g.E v u ∧ (g.own v = who → u = s v)
structure Wins (g : PG) (who : Int) (D U : Nat → Prop) (s : Nat → Nat) : Prop where
  sub : ∀ v, U v → D v
  own : ∀ v, U v → g.own v = who → g.E v (s v) ∧ U (s v)
  opp : ∀ v u, U v → ¬ g.own v = who → g.E v u → D u → U u
  good : ∀ v t, Wk (SR g who U s) g.pr v v t → (t : Int) % 2 = who
def AttK (g : PG) (who : Int) (D goal : Nat → Prop) : Nat → Nat → Prop
  | 0, v => D v ∧ goal v
  | k + 1, v => AttK g who D goal k v ∨ (D v ∧ ((g.own v = who ∧ ∃ u, g.E v u ∧ AttK g who D goal k u) ∨ (¬ g.own v = who ∧ (∃ u, g.E v u ∧ D u) ∧ ∀ u, g.E v u → D u → AttK g who D goal k u)))
def Att (g : PG) (who : Int) (D goal : Nat → Prop) (v : Nat) : Prop := ∃ k, AttK g who D goal k v
section
variable {g : PG} {who : Int} {D goal : Nat → Prop}
theorem AttK.inD {v : Nat} : ∀ {k : Nat}, AttK g who D goal k v → D v
  | 0, h => h.1
  | k + 1, h => by
    rcases h with h | h
    · exact AttK.inD h
    · exact h.1
theorem AttK.up {v : Nat} {j : Nat} (h : AttK g who D goal j v) : ∀ k, j ≤ k → AttK g who D goal k v
  | 0, hk => by rw [show j = 0 by omega] at h; exact h
  | k + 1, hk => by
    by_cases e : j = k + 1
    · rw [← e]; exact h
    · exact .inl (AttK.up h k (by omega))
theorem least_ex' {P : Nat → Prop} : ∀ n, P n → ∃ k, P k ∧ ∀ j, j < k → ¬ P j := by
  intro n
  induction n using Nat.strongRecOn with
  | ind n ih =>
    intro h
    by_cases h2 : ∃ j, j < n ∧ P j
    · obtain ⟨j, hj, hp⟩ := h2
      exact ih j hj hp
    · exact ⟨n, h, fun j hj hp => h2 ⟨j, hj, hp⟩⟩
open Classical in
noncomputable def rk (g : PG) (who : Int) (D goal : Nat → Prop) (v : Nat) : Nat := if h : ∃ k, AttK g who D goal k v ∧ ∀ j, j < k → ¬ AttK g who D goal j v then h.choose else 0
theorem rk_spec {v : Nat} (h : Att g who D goal v) : AttK g who D goal (rk g who D goal v) v ∧ ∀ j, j < rk g who D goal v → ¬ AttK g who D goal j v := by
  obtain ⟨n, hn⟩ := h
  have h2 := least_ex' (P := fun k => AttK g who D goal k v) n hn
  unfold rk
  rw [dif_pos h2]
  exact h2.choose_spec
theorem rk_le {v k : Nat} (h : AttK g who D goal k v) : rk g who D goal v ≤ k := by
  have := (rk_spec ⟨k, h⟩).2 k
  rcases Nat.lt_or_ge k (rk g who D goal v) with h1 | h1
  · exact absurd h (this h1)
  · exact h1
theorem Att.cases {v : Nat} (h : Att g who D goal v) : (D v ∧ goal v) ∨ (D v ∧ g.own v = who ∧ ∃ u, g.E v u ∧ Att g who D goal u ∧ rk g who D goal u < rk g who D goal v) ∨ (D v ∧ ¬ g.own v = who ∧ ∀ u, g.E v u → D u → Att g who D goal u ∧ rk g who D goal u < rk g who D goal v) := by
  obtain ⟨h1, h2⟩ := rk_spec h
  generalize hr : rk g who D goal v = r at h1 h2
  cases r with
  | zero => exact .inl h1
  | succ k =>
    rcases h1 with h1 | ⟨hD, h1⟩
    · exact absurd h1 (h2 k (by omega))
    · rcases h1 with ⟨ho, u, he, hu⟩ | ⟨ho, -, ha⟩
      · exact .inr (.inl ⟨hD, ho, u, he, ⟨k, hu⟩, Nat.lt_succ_of_le (rk_le hu)⟩)
      · exact .inr (.inr ⟨hD, ho, fun u he hu => ⟨⟨k, ha u he hu⟩, Nat.lt_succ_of_le (rk_le (ha u he hu))⟩⟩)
theorem Att.inD {v : Nat} (h : Att g who D goal v) : D v := by obtain ⟨k, hk⟩ := h; exact hk.inD
theorem Att.base {v : Nat} (h1 : D v) (h2 : goal v) : Att g who D goal v := ⟨0, h1, h2⟩
theorem Att.own {v u : Nat} (h1 : D v) (h2 : g.own v = who) (h3 : g.E v u) (h4 : Att g who D goal u) : Att g who D goal v := by
  obtain ⟨k, hk⟩ := h4
  exact ⟨k + 1, .inr ⟨h1, .inl ⟨h2, u, h3, hk⟩⟩⟩
theorem Att.opp {n : Nat} (hn : ∀ v u, g.E v u → u < n) {v : Nat} (h1 : D v) (h2 : ¬ g.own v = who) (h3 : ∃ u, g.E v u ∧ D u) (h4 : ∀ u, g.E v u → D u → Att g who D goal u) : Att g who D goal v := by
  have key : ∀ m, ∃ k, ∀ u, u < m → g.E v u → D u → AttK g who D goal k u := by
    intro m
    induction m with
    | zero => exact ⟨0, fun u hu => by omega⟩
    | succ m ih =>
      obtain ⟨k, hk⟩ := ih
      by_cases hm : g.E v m ∧ D m
      · obtain ⟨j, hj⟩ := h4 m hm.1 hm.2
        refine ⟨max k j, fun u hu he hd => ?_⟩
        by_cases e : u = m
        · rw [e]; exact hj.up _ (Nat.le_max_right ..)
        · exact (hk u (by omega) he hd).up _ (Nat.le_max_left ..)
      · refine ⟨k, fun u hu he hd => ?_⟩
        by_cases e : u = m
        · rw [e] at he hd; exact absurd ⟨he, hd⟩ hm
        · exact hk u (by omega) he hd
  obtain ⟨k, hk⟩ := key n
  exact ⟨k + 1, .inr ⟨h1, .inr ⟨h2, h3, fun u he hd => hk u (hn v u he) he hd⟩⟩⟩
theorem Att.out_own {v u : Nat} (h1 : D v) (h : ¬ Att g who D goal v) (h2 : g.own v = who) (h3 : g.E v u) : ¬ Att g who D goal u := fun h4 => h (.own h1 h2 h3 h4)
theorem Att.out_opp {n : Nat} (hn : ∀ v u, g.E v u → u < n) {v : Nat} (h1 : D v) (h : ¬ Att g who D goal v) (h2 : ¬ g.own v = who) (h3 : ∃ u, g.E v u ∧ D u) : ∃ u, g.E v u ∧ D u ∧ ¬ Att g who D goal u := by
  by_cases h4 : ∃ u, g.E v u ∧ D u ∧ ¬ Att g who D goal u
  · exact h4
  · exact absurd (Att.opp hn h1 h2 h3 fun u he hd => Classical.byContradiction fun h5 => h4 ⟨u, he, hd, h5⟩) h
end
def Live (g : PG) (D : Nat → Prop) : Prop := ∀ v, D v → ∃ u, g.E v u ∧ D u
theorem live_rest {g : PG} {who : Int} {D goal : Nat → Prop} {n : Nat} (hn : ∀ v u, g.E v u → u < n) (h : Live g D) : Live g (fun v => D v ∧ ¬ Att g who D goal v) := fun v hv => by
  obtain ⟨u, he, hd⟩ := h v hv.1
  by_cases ho : g.own v = who
  · exact ⟨u, he, hd, Att.out_own hv.1 hv.2 ho he⟩
  · obtain ⟨x, a, b, c⟩ := Att.out_opp hn hv.1 hv.2 ho ⟨u, he, hd⟩
    exact ⟨x, a, b, c⟩
open Classical in
noncomputable def attS (g : PG) (who : Int) (D goal : Nat → Prop) (v : Nat) : Nat := if h : ∃ u, g.E v u ∧ Att g who D goal u ∧ rk g who D goal u < rk g who D goal v then h.choose else 0
theorem attS_spec {g : PG} {who : Int} {D goal : Nat → Prop} {v : Nat} (h : Att g who D goal v) (hg : ¬ goal v) (ho : g.own v = who) : g.E v (attS g who D goal v) ∧ Att g who D goal (attS g who D goal v) ∧ rk g who D goal (attS g who D goal v) < rk g who D goal v := by
  have h2 : ∃ u, g.E v u ∧ Att g who D goal u ∧ rk g who D goal u < rk g who D goal v := by
    rcases h.cases with ⟨-, h1⟩ | ⟨-, -, h1⟩ | ⟨-, h1, -⟩
    · exact absurd h1 hg
    · exact h1
    · exact absurd ho h1
  unfold attS
  rw [dif_pos h2]
  exact h2.choose_spec
section
variable {g : PG} {who : Int} {D : Nat → Prop} {top n : Nat}
open Classical in
theorem zie_all (hn : ∀ v u, g.E v u → u < n) (hl : Live g D) (htop : ∀ v, D v → g.pr v ≤ top) (hpar : (top : Int) % 2 = who) {s : Nat → Nat}
    (hw : Wins g who (fun v => D v ∧ ¬ Att g who D (fun v => g.pr v = top) v) (fun v => D v ∧ ¬ Att g who D (fun v => g.pr v = top) v) s) : ∃ s', Wins g who D D s' := by
  let A := Att g who D (fun v => g.pr v = top)
  let r := rk g who D (fun v => g.pr v = top)
  have hsome : ∀ v, ∃ u, D v → g.E v u ∧ D u := fun v => by
    by_cases h : D v
    · obtain ⟨u, hu⟩ := hl v h; exact ⟨u, fun _ => hu⟩
    · exact ⟨0, fun h2 => absurd h2 h⟩
  let any : Nat → Nat := fun v => (hsome v).choose
  have hany : ∀ v, D v → g.E v (any v) ∧ D (any v) := fun v => (hsome v).choose_spec
  let s' : Nat → Nat := fun v => if A v then (if g.pr v = top then any v else attS g who D (fun v => g.pr v = top) v) else s v
  have e1 : ∀ v, A v → g.pr v = top → s' v = any v := fun v h1 h2 => by show (if _ then _ else _) = _; rw [if_pos h1, if_pos h2]
  have e2 : ∀ v, A v → ¬ g.pr v = top → s' v = attS g who D (fun v => g.pr v = top) v := fun v h1 h2 => by show (if _ then _ else _) = _; rw [if_pos h1, if_neg h2]
  have e3 : ∀ v, ¬ A v → s' v = s v := fun v h1 => by show (if _ then _ else _) = _; rw [if_neg h1]
  refine ⟨s', fun v h => h, fun v hv ho => ?_, fun v u _ _ _ hu => hu, fun v t w => ?_⟩
  · by_cases hA : A v
    · by_cases hp : g.pr v = top
      · rw [e1 v hA hp]; exact hany v hv
      · rw [e2 v hA hp]
        have := attS_spec hA hp ho
        exact ⟨this.1, Att.inD this.2.1⟩
    · rw [e3 v hA]
      have := hw.own v ⟨hv, hA⟩ ho
      exact ⟨this.1, this.2.1⟩
  · have hle := w.le fun v u h => htop v h.1
    have claim : ∀ {v u t : Nat}, Wk (SR g who D s') g.pr v u t → t < top → (A v → A u ∧ r u < r v) ∧ (¬ A v → A u ∨ Wk (SR g who (fun v => D v ∧ ¬ A v) s) g.pr v u t) := by
      intro v u t w
      have stepA : ∀ v u, SR g who D s' v u → g.pr v < top → A v → A u ∧ r u < r v := fun v u h hp hA => by
        rcases hA.cases with ⟨-, h1⟩ | ⟨-, ho, -⟩ | ⟨-, ho, ha⟩
        · omega
        · have h2 := attS_spec hA (by omega) ho
          rw [h.2.2.2 ho, e2 v hA (by omega)]
          exact h2.2
        · exact ha u h.2.2.1 h.2.1
      have stepB : ∀ v u, SR g who D s' v u → ¬ A v → ¬ A u → SR g who (fun v => D v ∧ ¬ A v) s v u := fun v u h h1 h2 => ⟨⟨h.1, h1⟩, ⟨h.2.1, h2⟩, h.2.2.1, fun ho => by rw [h.2.2.2 ho, e3 v h1]⟩
      induction w with
      | @one v u h =>
        intro ht
        refine ⟨stepA v u h ht, fun hA => ?_⟩
        by_cases hu : A u
        · exact .inl hu
        · exact .inr (.one (stepB v u h hA hu))
      | @cons v x u t h w ih =>
        intro ht
        obtain ⟨i1, i2⟩ := ih (by omega)
        refine ⟨fun hA => ?_, fun hA => ?_⟩
        · obtain ⟨a, b⟩ := stepA v x h (by omega) hA
          obtain ⟨c, d⟩ := i1 a
          exact ⟨c, Nat.lt_trans d b⟩
        · by_cases hx : A x
          · exact .inl (i1 hx).1
          · rcases i2 hx with h5 | h5
            · exact .inl h5
            · exact .inr (.cons (stepB v x h hA hx) h5)
    by_cases ht : t = top
    · rw [ht]; exact hpar
    · obtain ⟨i1, i2⟩ := claim w (by omega)
      by_cases hA : A v
      · have := (i1 hA).2
        omega
      · rcases i2 hA with h5 | h5
        · exact absurd h5 hA
        · exact hw.good v t h5
theorem zie_opp {opp : Int} (ho2 : ∀ v, g.own v = who ∨ g.own v = opp) (hne : ¬ who = opp) {goal L M : Nat → Prop} {s m : Nat → Nat}
    (hL : Wins g opp (fun v => D v ∧ ¬ Att g who D goal v) L s)
    (hM : Wins g opp (fun v => D v ∧ ¬ Att g opp D L v) M m) : ∃ s', Wins g opp D (fun v => M v ∨ Att g opp D L v) s' := by
  classical
  let B := Att g opp D L
  let r := rk g opp D L
  have hLD : ∀ v, L v → D v := fun v h => (hL.sub v h).1
  have hLB : ∀ v, L v → B v := fun v h => Att.base (hLD v h) h
  let s' : Nat → Nat := fun v => if L v then s v else if B v then attS g opp D L v else m v
  have e1 : ∀ v, L v → s' v = s v := fun v h => by show (if _ then _ else _) = _; rw [if_pos h]
  have e2 : ∀ v, ¬ L v → B v → s' v = attS g opp D L v := fun v h h2 => by show (if _ then _ else _) = _; rw [if_neg h, if_pos h2]
  have e3 : ∀ v, ¬ B v → s' v = m v := fun v h => by show (if _ then _ else _) = _; rw [if_neg (fun h2 => h (hLB v h2)), if_neg h]
  have hMB : ∀ v, M v → ¬ B v := fun v h => (hM.sub v h).2
  -- from L nobody leaves L
  have stepL : ∀ v u, L v → D u → g.E v u → (g.own v = opp → u = s' v) → L u := fun v u h1 h2 h3 h4 => by
    rcases ho2 v with e | e
    · have hv := hL.sub v h1
      exact hL.opp v u h1 (fun e5 => hne (e.symm.trans e5)) h3 ⟨h2, Att.out_own hv.1 hv.2 e h3⟩
    · rw [h4 e, e1 v h1]; exact (hL.own v h1 e).2
  refine ⟨s', fun v h => ?_, fun v h ho => ?_, fun v u h ho he hu => ?_, fun v t w => ?_⟩
  · rcases h with h | h
    · exact (hM.sub v h).1
    · exact Att.inD h
  · by_cases h1 : L v
    · rw [e1 v h1]
      have := hL.own v h1 ho
      exact ⟨this.1, .inr (hLB _ this.2)⟩
    · by_cases h2 : B v
      · rw [e2 v h1 h2]
        have := attS_spec h2 h1 ho
        exact ⟨this.1, .inr this.2.1⟩
      · rw [e3 v h2]
        rcases h with h | h
        · have := hM.own v h ho
          exact ⟨this.1, .inl this.2⟩
        · exact absurd h h2
  · by_cases h3 : B u
    · exact .inr h3
    · by_cases h1 : L v
      · exact .inr (hLB _ (stepL v u h1 hu he fun e => absurd e ho))
      · rcases h with h | h
        · exact .inl (hM.opp v u h ho he ⟨hu, h3⟩)
        · rcases h.cases with ⟨-, h4⟩ | ⟨-, h4, -⟩ | ⟨-, -, h4⟩
          · exact absurd h4 h1
          · exact absurd h4 ho
          · exact .inr (h4 u he hu).1
  · have hD : ∀ v, (M v ∨ B v) → D v := fun v h => by
      rcases h with h | h
      · exact (hM.sub v h).1
      · exact Att.inD h
    have claim : ∀ {v u t : Nat}, Wk (SR g opp (fun v => M v ∨ B v) s') g.pr v u t → (L v → L u ∧ Wk (SR g opp L s) g.pr v u t) ∧ (¬ L v → B v → L u ∨ (B u ∧ r u < r v)) ∧ (¬ B v → B u ∨ Wk (SR g opp M m) g.pr v u t) := by
      intro v u t w
      have q1 : ∀ v u, SR g opp (fun v => M v ∨ B v) s' v u → L v → L u ∧ SR g opp L s v u := fun v u h h1 => by
        have h2 := stepL v u h1 (hD u h.2.1) h.2.2.1 h.2.2.2
        exact ⟨h2, h1, h2, h.2.2.1, fun e => by rw [h.2.2.2 e, e1 v h1]⟩
      have q2 : ∀ v u, SR g opp (fun v => M v ∨ B v) s' v u → ¬ L v → B v → B u ∧ r u < r v := fun v u h h1 h2 => by
        rcases h2.cases with ⟨-, h4⟩ | ⟨-, h4, -⟩ | ⟨-, -, h4⟩
        · exact absurd h4 h1
        · have := attS_spec h2 h1 h4
          rw [h.2.2.2 h4, e2 v h1 h2]
          exact this.2
        · exact h4 u h.2.2.1 (hD u h.2.1)
      have q3 : ∀ v u, SR g opp (fun v => M v ∨ B v) s' v u → ¬ B v → ¬ B u → SR g opp M m v u := fun v u h h1 h2 => by
        have hm : ∀ x, (M x ∨ B x) → ¬ B x → M x := fun x h5 h6 => h5.resolve_right h6
        exact ⟨hm v h.1 h1, hm u h.2.1 h2, h.2.2.1, fun e => by rw [h.2.2.2 e, e3 v h1]⟩
      induction w with
      | @one v u h =>
        refine ⟨fun h1 => ?_, fun h1 h2 => .inr (q2 v u h h1 h2), fun h1 => ?_⟩
        · obtain ⟨a, b⟩ := q1 v u h h1
          exact ⟨a, .one b⟩
        · by_cases h2 : B u
          · exact .inl h2
          · exact .inr (.one (q3 v u h h1 h2))
      | @cons v x u t h w ih =>
        obtain ⟨i1, i2, i3⟩ := ih
        refine ⟨fun h1 => ?_, fun h1 h2 => ?_, fun h1 => ?_⟩
        · obtain ⟨a, b⟩ := q1 v x h h1
          obtain ⟨c, d⟩ := i1 a
          exact ⟨c, .cons b d⟩
        · obtain ⟨a, b⟩ := q2 v x h h1 h2
          by_cases hx : L x
          · exact .inl (i1 hx).1
          · rcases i2 hx a with h5 | h5
            · exact .inl h5
            · exact .inr ⟨h5.1, Nat.lt_trans h5.2 b⟩
        · by_cases h2 : B x
          · by_cases hx : L x
            · exact .inl (hLB _ (i1 hx).1)
            · rcases i2 hx h2 with h5 | h5
              · exact .inl (hLB _ h5)
              · exact .inl h5.1
          · rcases i3 h2 with h5 | h5
            · exact .inl h5
            · exact .inr (.cons (q3 v x h h1 h2) h5)
    obtain ⟨i1, i2, i3⟩ := claim w
    by_cases h1 : L v
    · exact hL.good v t (i1 h1).2
    · by_cases h2 : B v
      · rcases i2 h1 h2 with h5 | h5
        · exact absurd h5 h1
        · omega
      · rcases i3 h2 with h5 | h5
        · exact absurd h5 h2
        · exact hM.good v t h5
theorem zie_who {opp : Int} (ho2 : ∀ v, g.own v = who ∨ g.own v = opp) {L M : Nat → Prop} {m : Nat → Nat} (hM : Wins g who (fun v => D v ∧ ¬ Att g opp D L v) M m) : Wins g who D M m :=
  ⟨fun v h => (hM.sub v h).1, hM.own, fun v u h ho he hu => hM.opp v u h ho he ⟨hu, Att.out_own (hM.sub v h).1 (hM.sub v h).2 ((ho2 v).resolve_left ho) he⟩, hM.good⟩
end
theorem wins_cong {g : PG} {who : Int} {D U D' U' : Nat → Prop} {s : Nat → Nat} (h : Wins g who D U s) (hD : ∀ v, D v ↔ D' v) (hU : ∀ v, U v ↔ U' v) : Wins g who D' U' s := by
  have e1 : D = D' := funext fun v => propext (hD v)
  have e2 : U = U' := funext fun v => propext (hU v)
  rw [← e1, ← e2]; exact h
end Go.Proofs.Ytdbecmmeifdafaa

namespace Go.Proofs.Ytdbecmmeifdafaa
open Go.RowKit
set_option linter.unusedVariables false
set_option linter.unusedSimpArgs false

structure Pa where
  a : Ar
  prio : List Int
  deriving DecidableEq
def dPa (x : Pa) : List D := [DI x.a.owner, DII x.a.next, DI x.prio]
structure Pa.Ln (B : Nat) (x : Pa) : Prop where
  a : x.a.Ln B
  prio : LnI B x.prio
def Pa.cnt (x : Pa) : Nat := x.a.owner.length + sumL x.a.next + x.prio.length
end Go.Proofs.Ytdbecmmeifdafaa
