/- likeInts, of a row with its like -/
import Derived.Test.YtdbecmmeifdafaaB4zrs
import Derived.Test.YtdbecmmeifdafaaGEzrs
namespace Go.Proofs.Ytdbecmmeifdafaa
open Nat renaming reduceMod → zA, reduceMul → zB, reduceDiv → zC, reduceAdd → zD, reduceSub → zE, reduceEqDiff → zF, reduceBEq → zG, reduceLT → zH, reduceLeDiff → zI
open Go.RowKit
set_option linter.unusedVariables false
set_option linter.unusedSimpArgs false

attribute [-push_cast] rm
set_option maxRecDepth 20000 in
set_option maxHeartbeats 4000000 in
theorem likeInts_same (xs : List Int) (hl : xs.length ≤ 1048576) : Fn Try.prog tyT 19 [.c (DI xs), .c (DI xs)] [.c (.bool true)] := by
  refine Fn_of (fn := Try.f19) (ts := [4]) Try.func19 (by kernel_rfl) rfl rfl (by rw [Try.ntmps19]; exact Nat.le_of_ble_eq_true rfl) rfl (by simp only [szA, List.mem_cons, List.not_mem_nil, or_false, forall_eq_or_imp, forall_eq, VT.cells, szL]; try decide) ?_
  rw [Try.ntmps19]
  simp only [push_cast, ↓brB_true, ↓brB_false, ↓reduceIte, zA, zB, zC, zD, zE, zF, zG, zH, zI, reduceCtorEq]
  refine awp_seq' fun K hK => ?_
  refine awp_region tyOk tyPos [] rfl ?_
  simp only [push_cast, ↓brB_true, ↓brB_false, ↓reduceIte, zA, zB, zC, zD, zE, zF, zG, zH, zI, reduceCtorEq]
  repeat' apply And.intro
  all_goals try exact gB
  all_goals first | (refine hK _ ?_; clear hK K) | (simp only [push_cast]; done)
  refine awp_seq' fun K1 hK1 => ?_
  refine awp_seq' fun K hK => ?_
  refine awp_region tyOk tyPos [] rfl ?_
  simp only [push_cast, ↓brB_true, ↓brB_false, ↓reduceIte, zA, zB, zC, zD, zE, zF, zG, zH, zI, reduceCtorEq]
  repeat' apply And.intro
  all_goals try exact gB
  all_goals first | (refine hK _ ?_; clear hK K) | (simp only [push_cast]; done)
  refine awp_cond rfl (fun hc => ?_) (fun hc => ?_)
  skip
  · exfalso; first | (cases hc; done) | (simp only [push_cast] at hc; done) | (simp only [push_cast] at hc; omega) | omega
  refine awp_skip ?_
  (try simp only [AThen, ABlk, reduceIte, zF]); refine hK1 _ ?_
  refine awp_seq' fun K2 hK2 => ?_
  refine awp_seq' fun K hK => ?_
  refine awp_region tyOk tyPos [] rfl ?_
  simp only [push_cast, ↓brB_true, ↓brB_false, ↓reduceIte, zA, zB, zC, zD, zE, zF, zG, zH, zI, reduceCtorEq]
  repeat' apply And.intro
  all_goals try exact gB
  all_goals first | (refine hK _ ?_; clear hK K) | (simp only [push_cast]; done)
  refine awp_block ?_
  refine awp_loopU [4,5,11,12,13,14,15,16,17,18,19,20,21,22,23,24,25] [] (fun (k : Nat) => [(5, .int .i64 k)]) (fun k => []) (fun k => []) (fun k => k ≤ xs.length) (fun k => xs.length - k) 0 ?_ (by omega) ?_
  ·
    refine cov_of rfl ?_ ?_ ?_ <;> simp only [covS, covL, push_cast, ↓brB_true, ↓brB_false, ↓reduceIte, zA, zB, zC, zD, zE, zF, zG, zH, zI, reduceCtorEq]
  · rintro k hk KL0 hL0
    simp only [push_cast, ↓brB_true, ↓brB_false, ↓reduceIte, zA, zB, zC, zD, zE, zF, zG, zH, zI, reduceCtorEq]
    refine awp_seq' fun K3 hK3 => ?_
    refine awp_seq' fun K hK => ?_
    refine awp_region tyOk tyPos [] rfl ?_
    simp only [push_cast, ↓brB_true, ↓brB_false, ↓reduceIte, zA, zB, zC, zD, zE, zF, zG, zH, zI, reduceCtorEq]
    repeat' apply And.intro
    all_goals try exact gB
    all_goals first | (refine hK _ ?_; clear hK K) | (simp only [push_cast]; done)
    refine awp_cond rfl (fun hc => ?_) (fun hc => ?_) <;> (try simp only [push_cast] at hc)
    ·
      refine awp_skip ?_
      (try simp only [AThen, ABlk, reduceIte, zF]); refine hK3 _ ?_
      refine awp_seq' fun K4 hK4 => ?_
      refine awp_block ?_
      refine awp_seq' fun K hK => ?_
      refine awp_regionD0 false tyOk tyPos tyMix ?_ rfl ?_
      · kernel_rfl
      intro C hC
      simp only [push_cast, ↓brB_true, ↓brB_false, ↓reduceIte, zA, zB, zC, zD, zE, zF, zG, zH, zI, reduceCtorEq]
      repeat' apply And.intro
      all_goals first | omega | with_reducible assumption | (refine hC _ ?_; kernel_rfl) | (simp only [List.length_set, List.length_append, List.length_replicate, List.length_cons, List.length_nil]; omega) | skip
      all_goals first | (refine hK _ ?_; clear hC C hK K) | (simp only [push_cast]; done)
      refine awp_cond rfl (fun hc => ?_) (fun hc => ?_)
      skip
      · exfalso; first | (cases hc; done) | (simp only [push_cast] at hc; done) | (simp only [push_cast] at hc; omega) | omega
      refine awp_skip ?_
      (try simp only [AThen, ABlk, reduceIte, zF]); refine hK4 _ ?_
      refine awp_region tyOk tyPos [] rfl ?_
      simp only [push_cast, ↓brB_true, ↓brB_false, ↓reduceIte, zA, zB, zC, zD, zE, zF, zG, zH, zI, reduceCtorEq]
      repeat' apply And.intro
      all_goals try exact gB
      refine hL0 _ ⟨k + 1, by omega, by omega, ?_⟩
      refine cov_of rfl ?_ ?_ ?_ <;> simp only [covS, covL, push_cast, ↓brB_true, ↓brB_false, ↓reduceIte, zA, zB, zC, zD, zE, zF, zG, zH, zI, reduceCtorEq]
    ·
      refine awp_exit ?_
      have hkk : k = xs.length := by omega
      subst hkk
      (try simp only [AThen, ABlk, reduceIte, zF]); refine hK2 _ ?_
      refine awp_seq' fun K hK => ?_
      refine awp_region tyOk tyPos [] rfl ?_
      simp only [push_cast, ↓brB_true, ↓brB_false, ↓reduceIte, zA, zB, zC, zD, zE, zF, zG, zH, zI, reduceCtorEq]
      repeat' apply And.intro
      all_goals try exact gB
      all_goals first | (refine hK _ ?_; clear hK K) | (simp only [push_cast]; done)
      refine awp_ret ?_
      (try simp only [AThen, ABlk])
      refine ⟨Or.inl rfl, ?_⟩
      simp only [RetOk, push_cast, ↓brB_true, ↓brB_false, ↓reduceIte, zA, zB, zC, zD, zE, zF, zG, zH, zI, reduceCtorEq]
end Go.Proofs.Ytdbecmmeifdafaa

namespace Go.Proofs.Ytdbecmmeifdafaa
open Go.RowKit
set_option linter.unusedVariables false
set_option linter.unusedSimpArgs false

section
variable {P : Program} {np : Bool} {τ : Ty} {lo : Nat} {w0 : Fz} {ow : Nat → Option Pl} {hd : Nat → Value} {bk : Nat → Nat} {st : St} {a : Act} {w : World}
end
end Go.Proofs.Ytdbecmmeifdafaa

namespace Go.Proofs.Ytdbecmmeifdafaa
open Go.RowKit
set_option linter.unusedVariables false
set_option linter.unusedSimpArgs false

section
variable {P : Program} {np : Bool} {τ : Ty} {lo : Nat} {w0 : Fz} {ow : Nat → Option Pl} {hd : Nat → Value} {bk : Nat → Nat} {st : St} {a : Act} {w : World}
def actWE (o : Oper) (st : St) (K : Dl → Prop) : Prop :=
  match o.op with
  | .binOp .mul t x y r => match ev st x, ev st y with | .int .i64 a, .int .i64 b => K ⟨.int .i64 (IntKind.i64.wrap (a * b)), [], [], []⟩ | _, _ => False
  | .binOp .add t x y r => match ev st x, ev st y with | .int .i64 a, .int .i64 b => K ⟨.int .i64 (IntKind.i64.wrap (a + b)), [], [], []⟩ | _, _ => False
  | _ => False
theorem wrapX (op : BinOp) (f : Int → Int → Int) (hop : ∀ t x y a b w, (do eqGuard op t x y (.int .i64 a) (.int .i64 b); binOp op t (.int .i64 a) (.int .i64 b) : Sem Value).run P w = .ok (.int .i64 (IntKind.i64.wrap (f a b))) w) {o : Oper} {t : TypeId} {x y : Operand} {r : TypeId} {a b : Int} (ho : o.op = .binOp op t x y r) (hx : ev st x = .int .i64 a) (hy : ev st y = .int .i64 b) :
    ActX P true τ o st ⟨.int .i64 (IntKind.i64.wrap (f a b)), [], [], []⟩ := by
  refine ⟨rfl, trivial, ⟨_, _, rfl⟩, rfl, rfl, .inl rfl, fun st' hag hpf lo w0 a' w Q K' hdn hrel hK' => ?_⟩
  obtain ⟨ow, hd, bk, hr⟩ := hrel
  obtain ⟨dst, op', ty, pos, after, guard⟩ := o
  simp only at ho
  subst ho
  have h1 := ev_sound hr x
  rw [hag.e x (by simp [Op.operands]), hx] at h1
  simp only [AvR] at h1
  have h2 := ev_sound hr y
  rw [hag.e y (by simp [Op.operands]), hy] at h2
  simp only [AvR] at h2
  refine does_app hdn ⟨.int .i64 (IntKind.i64.wrap (f a b)), w, ow, hd, bk, .inl ?_, hr, by simp only [AvR]⟩ (plain_cov _) hK'
  simp only [execOp]
  rw [h1, h2, Sem.run_bind, hop, Result.andThen_ok, Sem.run_pure]
theorem actWE_act {o : Oper} {K : Dl → Prop} (h : actWE o st K) : ∃ δ, Act1 P true τ o st δ ∧ K δ := by
  unfold actWE at h
  split at h
  · rename_i t x y r ho
    split at h
    · rename_i a b hx hy
      exact ⟨_, .inl (wrapX .mul (· * ·) (fun t x y a b w => by simp [Sem.run_bind, eqGuard, binOp, Op.intArith]) ho hx hy), h⟩
    · exact h.elim
  · rename_i t x y r ho
    split at h
    · rename_i a b hx hy
      exact ⟨_, .inl (wrapX .add (· + ·) (fun t x y a b w => by simp [Sem.run_bind, eqGuard, binOp, Op.intArith]) ho hx hy), h⟩
    · exact h.elim
  · exact h.elim
def inD : List Nat → Option Tmp → Bool
  | x :: xs, some d => if x = d then true else inD xs (some d)
  | _, _ => false
def seqU (X : Oper → St → (Dl → Prop) → Prop) (P : Program) (np : Bool) (τ : Ty) (t : List Nat) (all : List Oper) (Q : St → Prop) : List Oper → St → Prop
  | [], st => Q st
  | o :: os, st =>
    match o.guard with
    | none => if inD t o.dst = true then X o st fun δ => seqU X P np τ t all Q os (st.app o.dst δ) else actE P np τ o st fun δ => seqU X P np τ t all Q os (st.app o.dst δ)
    | some _ => False
theorem seqU_sound (hτ : TyOk P τ) (hpos : TyPos τ) {X : Oper → St → (Dl → Prop) → Prop} (hX : ∀ o st K, X o st K → ∃ δ, Act1 P np τ o st δ ∧ K δ) {t : List Nat} {all : List Oper} (hm : makersOk np all = true) {Q : St → Prop} {Q' : Exit → Act → World → Prop} (hQ : ∀ st a w, Q st → Rel τ lo w0 st a w → Q' .normal a w) :
    ∀ (os : List Oper) (k : Nat) (st : St) (a : Act) (w : World), (∀ j, os[j]? = all[k + j]?) → dstOk a.tmps.size all = true → (∀ j o, k ≤ j → all[j]? = some o → makes np o = true → Free (own (dstN o)) st) → (np = true → PF st) → Rel τ lo w0 st a w → seqU X P np τ t all Q os st → wpList P all.toArray Q' os a w
  | [], k, st, a, w, _, _, _, _, hr, h => wpList_nil (hQ _ _ _ h hr)
  | o :: os, k, st, a, w, hl, hd, hinv, hpf, hr, h => by
    have ho : all[k]? = some o := by simpa using (hl 0).symm
    have hd1 : ∀ j, o.dst = some j → j < a.tmps.size := fun j hj => by
      have := List.all_eq_true.1 hd o (List.mem_of_getElem? ho)
      rw [hj] at this
      simpa using this
    refine wpList_step fun K' hK' => ?_
    simp only [seqU] at h
    split at h
    rotate_left
    · exact h.elim
    rename_i hg
    obtain ⟨δ, h1, h2⟩ : ∃ δ, Act1 P np τ o st δ ∧ seqU X P np τ t all Q os (st.app o.dst δ) := by
      split at h
      · exact hX _ _ _ h
      · exact actE_act h
    rw [if_pos (by simp [Region.wanted, hg])]
    have hf : makes np o = true → Free (own (dstN o)) st := hinv k o (Nat.le_refl _) ho
    have hstep : Step P np τ all o st δ := by unfold Step; rw [hg]; exact h1
    refine act1_sound hτ hpos hd1 hr hf hpf h1 fun x w' hr' => hK' _ _ (seqU_sound hτ hpos hX hm hQ os (k + 1) _ _ w' (fun j => by have := hl (j + 1); simpa [Nat.add_assoc, Nat.add_comm 1 j] using this) (by rw [size_put]; exact hd) (fun j oj hkj hj hmk => ?_) (fun e => by subst e; exact step_PF (hpf rfl) hf hstep) hr' h2)
    refine step_free (hinv j oj (by omega) hj hmk) (fun hmo n hn => ?_) hstep
    have hkl : k < all.length := (List.getElem?_eq_some_iff.1 ho).1
    have hjl : j < all.length := (List.getElem?_eq_some_iff.1 hj).1
    have h1 := List.all_eq_true.1 (List.all_eq_true.1 hm k (List.mem_range.2 hkl)) j (List.mem_range.2 hjl)
    rw [ho, hj] at h1
    simp only [hmo, hmk, Bool.and_self, Bool.not_true, Bool.or_false, Bool.or_eq_true, beq_iff_eq, bne_iff_ne, ne_eq] at h1
    rcases h1 with h1 | h1
    · omega
    · exact own_ne h1 n hn
theorem awp_regionNU (np : Bool) (X : Oper → St → (Dl → Prop) → Prop) (t : List Nat) (hX : ∀ o st K, X o st K → ∃ δ, Act1 P np τ o st δ ∧ K δ) (hτ : TyOk P τ) (hpos : TyPos τ) {Q : Exit → St → Prop} {id : Nat} {ops : List Oper} (hs : makersOk np ops = true) (hd : dstOk st.n ops = true) (h : seqU X P np τ t ops (Q .normal) ops (st.start np ops)) : awp P τ (.region id ops.toArray false) Q st := fun lo w0 a w hr => by
  have hn : a.tmps.size = st.n := by obtain ⟨ow, hd, bk, h⟩ := hr; exact h.size
  refine wp_region_lit (seqU_sound (np := np) hτ hpos hX hs (fun st a w h1 h2 => ⟨st, h2, h1⟩) ops 0 (st.start np ops) a w (by simp) (by rw [hn]; exact hd) (fun j o _ ho hm => start_free ho hm) (fun e => by unfold St.start; rw [if_pos e]; exact cut_PF _) (Rel_start hr ops) h)
end
attribute [push_cast] actWE inD seqU selV
end Go.Proofs.Ytdbecmmeifdafaa

namespace Go.Proofs.Ytdbecmmeifdafaa
open Nat renaming reduceMod → zA, reduceMul → zB, reduceDiv → zC, reduceAdd → zD, reduceSub → zE, reduceEqDiff → zF, reduceBEq → zG, reduceLT → zH, reduceLeDiff → zI
open Go.RowKit
set_option linter.unusedVariables false
set_option linter.unusedSimpArgs false

attribute [-push_cast] rm
theorem toNat45 : Int.toNat 45 = 45 := rfl
theorem min4564 : min 45 64 = 45 := rfl
attribute [push_cast] toNat45 min4564
theorem and_rg6 {a m : Int} (h0 : 0 ≤ m) (h1 : m ≤ 1073741823) : 0 ≤ andI .i64 a m ∧ andI .i64 a m ≤ m := by
  have e : (BitVec.ofInt 64 a &&& BitVec.ofInt 64 m).toNat ≤ m.toNat := by
    rw [BitVec.toNat_and]
    refine Nat.le_trans Nat.and_le_right ?_
    rw [BitVec.toNat_ofInt]
    have : ((2 ^ 64 : Nat) : Int) = 18446744073709551616 := by decide
    rw [this]
    omega
  have hw : IntKind.i64.wrap ((BitVec.ofInt 64 a &&& BitVec.ofInt 64 m).toNat : Int) = ((BitVec.ofInt 64 a &&& BitVec.ofInt 64 m).toNat : Int) := wrap_ok (by unfold i64ok; omega)
  unfold andI
  show 0 ≤ IntKind.i64.wrap ((BitVec.ofInt 64 a &&& BitVec.ofInt 64 m).toNat : Int) ∧ IntKind.i64.wrap ((BitVec.ofInt 64 a &&& BitVec.ofInt 64 m).toNat : Int) ≤ m
  rw [hw]
  omega
def cH (code : List Int) : Nat → Int
  | 0 => 560017 + code.length
  | k + 1 => andI .i64 (cH code k * 313 + gi code k + 11) 1073741823
theorem cH_rg {code : List Int} (hc : code.length ≤ 4096) : ∀ k, 0 ≤ cH code k ∧ cH code k ≤ 1073741823
  | 0 => by show 0 ≤ 560017 + (code.length : Int) ∧ 560017 + (code.length : Int) ≤ 1073741823; omega
  | k + 1 => and_rg6 (by decide) (by decide)
theorem cH_0 (code : List Int) : cH code 0 = 560017 + code.length := rfl
theorem cH_s (code : List Int) (k : Nat) : cH code (k + 1) = andI .i64 (cH code k * 313 + gi code k + 11) 1073741823 := rfl
attribute [irreducible] cH
def eH (h : Int) : Int := IntKind.i64.wrap (IntKind.i64.wrap (h * 6364136223846793005) + 1442695040888963407)
def eX (h : Int) : Int := andI .i64 (xorI .i64 (eH h / 2 ^ 33) (eH h / 2 ^ 45)) 255
def eB (code : List Int) (i h : Int) : Int := if i < code.length then andI .i64 (eX h + gi code i.toNat) 255 else eX h
theorem eX_rg (h : Int) : 0 ≤ eX h ∧ eX h ≤ 255 := and_rg6 (by decide) (by decide)
theorem eB_rg (code : List Int) (i h : Int) : 0 ≤ eB code i h ∧ eB code i h ≤ 255 := by
  unfold eB
  split
  · exact and_rg6 (by decide) (by decide)
  · exact eX_rg h
@[reducible] def dCu (code : List Int) (i h : Int) : List D := [.lst 5 (dU code), .int .i64 i, .int .i64 h]
set_option maxRecDepth 20000 in
set_option maxHeartbeats 4000000 in
theorem l1Byte_fn (code : List Int) (hby : BytesOk code) (i h : Int) (hi : 0 ≤ i ∧ i ≤ code.length) : FnB Try.prog tyT 144 (dCu code i h) [] (dCu code (dI1 code i) (eH h)) [.c (.int .i64 (eB code i h))] := by
  have hX : 0 ≤ andI .i64 (xorI .i64 (IntKind.i64.wrap (IntKind.i64.wrap (h * 6364136223846793005) + 1442695040888963407) / 2 ^ 33) (IntKind.i64.wrap (IntKind.i64.wrap (h * 6364136223846793005) + 1442695040888963407) / 2 ^ 45)) 255 ∧ andI .i64 (xorI .i64 (IntKind.i64.wrap (IntKind.i64.wrap (h * 6364136223846793005) + 1442695040888963407) / 2 ^ 33) (IntKind.i64.wrap (IntKind.i64.wrap (h * 6364136223846793005) + 1442695040888963407) / 2 ^ 45)) 255 ≤ 255 := eX_rg h
  have hcl := hby.1
  unfold dCu
  refine FnB_of (fn := Try.f144) (rs := [.tmp 2]) tyOk tyPos Try.func144 (by kernel_rfl) rfl rfl (by rw [Try.ntmps144]; exact Nat.le_of_ble_eq_true rfl) rfl (by simp only [szA, List.mem_cons, List.not_mem_nil, or_false, forall_eq_or_imp, forall_eq, false_implies, implies_true, VT.cells, szL]; try decide) (Nat.le_of_ble_eq_true rfl) (by simp only [szL]; decide) (Nat.le_of_ble_eq_true rfl) rfl ?_
  rw [Try.ntmps144]
  simp only [push_cast, ↓brB_true, ↓brB_false, ↓reduceIte, zA, zB, zC, zD, zE, zF, zG, zH, zI, reduceCtorEq]
  refine awp_seq' fun K hK => ?_
  refine awp_region tyOk tyPos [] rfl ?_
  simp only [push_cast, ↓brB_true, ↓brB_false, ↓reduceIte, zA, zB, zC, zD, zE, zF, zG, zH, zI, reduceCtorEq]
  repeat' apply And.intro
  all_goals try exact gB
  all_goals first | (refine hK _ ?_; clear hK K) | (simp only [push_cast]; done)
  refine awp_seq' fun K hK => ?_
  refine awp_regionNU true actWE [9, 10] (fun _ _ _ h => actWE_act h) tyOk tyPos ?_ rfl ?_
  · kernel_rfl
  all_goals simp only [push_cast, ↓brB_true, ↓brB_false, ↓reduceIte, zA, zB, zC, zD, zE, zF, zG, zH, zI, reduceCtorEq]
  all_goals repeat' (first | (apply brB_mk <;> (intro hg; (try simp only [push_cast] at hg))) | apply And.intro | (intro hg; (try simp only [push_cast] at hg)))
  all_goals try exact gA
  all_goals first | (refine hK _ ?_; clear hK K) | (simp only [push_cast]; done)
  refine awp_seq' fun K hK => ?_
  refine awp_regionD0 false tyOk tyPos tyMix ?_ rfl ?_
  · kernel_rfl
  intro C hC
  simp only [push_cast, ↓brB_true, ↓brB_false, ↓reduceIte, zA, zB, zC, zD, zE, zF, zG, zH, zI, reduceCtorEq]
  repeat' apply And.intro
  all_goals first | omega | with_reducible assumption | (refine hC _ ?_; kernel_rfl) | (simp only [List.length_set, List.length_append, List.length_replicate, List.length_cons, List.length_nil]; omega) | skip
  all_goals first | (refine hK _ ?_; clear hC C hK K) | (simp only [push_cast]; done)
  refine awp_seq' fun K1 hK1 => ?_
  refine awp_seq' fun K hK => ?_
  refine awp_regionD0 false tyOk tyPos tyMix ?_ rfl ?_
  · kernel_rfl
  intro C hC
  simp only [push_cast, ↓brB_true, ↓brB_false, ↓reduceIte, zA, zB, zC, zD, zE, zF, zG, zH, zI, reduceCtorEq]
  repeat' apply And.intro
  all_goals first | omega | with_reducible assumption | (refine hC _ ?_; kernel_rfl) | (simp only [List.length_set, List.length_append, List.length_replicate, List.length_cons, List.length_nil]; omega) | skip
  all_goals first | (refine hK _ ?_; clear hC C hK K) | (simp only [push_cast]; done)
  refine awp_cond rfl (fun hc => ?_) (fun hc => ?_) <;> (try simp only [push_cast] at hc)
  ·
    have hcb := hby.2 i.toNat (by omega)
    refine awp_seq' fun K hK => ?_
    refine awp_regionD0 false tyOk tyPos tyMix ?_ rfl ?_
    · kernel_rfl
    intro C hC
    simp only [push_cast, ↓brB_true, ↓brB_false, ↓reduceIte, zA, zB, zC, zD, zE, zF, zG, zH, zI, reduceCtorEq]
    repeat' apply And.intro
    all_goals first | omega | with_reducible assumption | (refine hC _ ?_; kernel_rfl) | (simp only [List.length_set, List.length_append, List.length_replicate, List.length_cons, List.length_nil]; omega) | skip
    all_goals first | (refine hK _ ?_; clear hC C hK K) | (simp only [push_cast]; done)
    refine awp_region tyOk tyPos [] rfl ?_
    simp only [push_cast, ↓brB_true, ↓brB_false, ↓reduceIte, zA, zB, zC, zD, zE, zF, zG, zH, zI, reduceCtorEq]
    repeat' apply And.intro
    all_goals try exact gB
    (try simp only [AThen, ABlk, reduceIte, zF]); refine hK1 _ ?_
    refine awp_seq' fun K hK => ?_
    refine awp_region tyOk tyPos [] rfl ?_
    simp only [push_cast, ↓brB_true, ↓brB_false, ↓reduceIte, zA, zB, zC, zD, zE, zF, zG, zH, zI, reduceCtorEq]
    repeat' apply And.intro
    all_goals try exact gB
    all_goals first | (refine hK _ ?_; clear hK K) | (simp only [push_cast]; done)
    refine awp_ret ?_
    (try simp only [AThen, ABlk])
    refine ⟨Or.inl rfl, ?_⟩
    simp only [RetB, RetOk, cellsB, resVars, resVar, push_cast, ↓brB_true, ↓brB_false, ↓reduceIte, zA, zB, zC, zD, zE, zF, zG, zH, zI, reduceCtorEq]
    all_goals first | exact ⟨by unfold eB; rw [if_pos hc]; rfl, (by unfold dI1; rw [if_pos hc]), rfl⟩ | exact ⟨by unfold eB; rw [if_neg hc]; rfl, (by unfold dI1; rw [if_neg hc]), rfl⟩
  ·
    refine awp_skip ?_
    (try simp only [AThen, ABlk, reduceIte, zF]); refine hK1 _ ?_
    refine awp_seq' fun K hK => ?_
    refine awp_region tyOk tyPos [] rfl ?_
    simp only [push_cast, ↓brB_true, ↓brB_false, ↓reduceIte, zA, zB, zC, zD, zE, zF, zG, zH, zI, reduceCtorEq]
    repeat' apply And.intro
    all_goals try exact gB
    all_goals first | (refine hK _ ?_; clear hK K) | (simp only [push_cast]; done)
    refine awp_ret ?_
    (try simp only [AThen, ABlk])
    refine ⟨Or.inl rfl, ?_⟩
    simp only [RetB, RetOk, cellsB, resVars, resVar, push_cast, ↓brB_true, ↓brB_false, ↓reduceIte, zA, zB, zC, zD, zE, zF, zG, zH, zI, reduceCtorEq]
    all_goals first | exact ⟨by unfold eB; rw [if_pos hc]; rfl, (by unfold dI1; rw [if_pos hc]), rfl⟩ | exact ⟨by unfold eB; rw [if_neg hc]; rfl, (by unfold dI1; rw [if_neg hc]), rfl⟩
set_option maxRecDepth 20000 in
set_option maxHeartbeats 4000000 in
theorem l1New_fn (code : List Int) (hby : BytesOk code) : FnP Try.prog tyT 87 [.c (.lst 5 (dU code))] [.int .i64 0, .int .i64 (cH code code.length)] := by
  have hcl := hby.1
  have hch := fun k => cH_rg hcl k
  refine FnP_of (fn := Try.f87) (rs := [.tmp 2]) tyOk tyPos Try.func87 (by kernel_rfl) rfl rfl (by rw [Try.ntmps87]; exact Nat.le_of_ble_eq_true rfl) rfl (by simp only [szA, List.mem_cons, List.not_mem_nil, or_false, forall_eq_or_imp, forall_eq, VT.cells, szL]; try decide) ?_
  rw [Try.ntmps87]
  simp only [push_cast, ↓brB_true, ↓brB_false, ↓reduceIte, zA, zB, zC, zD, zE, zF, zG, zH, zI, reduceCtorEq]
  refine awp_seq' fun K hK => ?_
  refine awp_region tyOk tyPos [] rfl ?_
  simp only [push_cast, ↓brB_true, ↓brB_false, ↓reduceIte, zA, zB, zC, zD, zE, zF, zG, zH, zI, reduceCtorEq]
  repeat' apply And.intro
  all_goals try exact gB
  all_goals first | (refine hK _ ?_; clear hK K) | (simp only [push_cast]; done)
  refine awp_seq' fun K hK => ?_
  refine awp_region tyOk tyPos [] rfl ?_
  simp only [push_cast, ↓brB_true, ↓brB_false, ↓reduceIte, zA, zB, zC, zD, zE, zF, zG, zH, zI, reduceCtorEq]
  repeat' apply And.intro
  all_goals try exact gB
  all_goals first | (refine hK _ ?_; clear hK K) | (simp only [push_cast]; done)
  refine awp_seq' fun K1 hK1 => ?_
  refine awp_seq' fun K hK => ?_
  refine awp_region tyOk tyPos [] rfl ?_
  simp only [push_cast, ↓brB_true, ↓brB_false, ↓reduceIte, zA, zB, zC, zD, zE, zF, zG, zH, zI, reduceCtorEq]
  repeat' apply And.intro
  all_goals try exact gB
  all_goals first | (refine hK _ ?_; clear hK K) | (simp only [push_cast]; done)
  refine awp_block ?_
  refine awp_loopU [3,4,8,9,10,11,12,13,14,15,16,17,18,19,20,21,22,23] [] (fun (k : Nat) => [(4, .int .i64 k), (3, .int .i64 (cH code k))]) (fun k => []) (fun k => []) (fun k => k ≤ code.length) (fun k => code.length - k) 0 ?_ (by omega) ?_
  ·
    rw [cH_0]
    refine cov_of rfl ?_ ?_ ?_ <;> simp only [covS, covL, push_cast, ↓brB_true, ↓brB_false, ↓reduceIte, zA, zB, zC, zD, zE, zF, zG, zH, zI, reduceCtorEq]
  · rintro k hk KL0 hL0
    simp only [push_cast, ↓brB_true, ↓brB_false, ↓reduceIte, zA, zB, zC, zD, zE, zF, zG, zH, zI, reduceCtorEq]
    refine awp_seq' fun K2 hK2 => ?_
    refine awp_seq' fun K hK => ?_
    refine awp_region tyOk tyPos [] rfl ?_
    simp only [push_cast, ↓brB_true, ↓brB_false, ↓reduceIte, zA, zB, zC, zD, zE, zF, zG, zH, zI, reduceCtorEq]
    repeat' apply And.intro
    all_goals try exact gB
    all_goals first | (refine hK _ ?_; clear hK K) | (simp only [push_cast]; done)
    refine awp_cond rfl (fun hc => ?_) (fun hc => ?_) <;> (try simp only [push_cast] at hc)
    ·
      refine awp_skip ?_
      (try simp only [AThen, ABlk, reduceIte, zF]); refine hK2 _ ?_
      refine awp_seq' fun K3 hK3 => ?_
      refine awp_block ?_
      have hbk := hby.2 k (by omega)
      have hck := hch k
      refine awp_region tyOk tyPos [] rfl ?_
      simp only [push_cast, ↓brB_true, ↓brB_false, ↓reduceIte, zA, zB, zC, zD, zE, zF, zG, zH, zI, reduceCtorEq]
      repeat' apply And.intro
      all_goals try exact gB
      (try simp only [AThen, ABlk, reduceIte, zF]); refine hK3 _ ?_
      refine awp_region tyOk tyPos [] rfl ?_
      simp only [push_cast, ↓brB_true, ↓brB_false, ↓reduceIte, zA, zB, zC, zD, zE, zF, zG, zH, zI, reduceCtorEq]
      repeat' apply And.intro
      all_goals try exact gB
      refine hL0 _ ⟨k + 1, by omega, by omega, ?_⟩
      rw [cH_s]
      refine cov_of rfl ?_ ?_ ?_ <;> simp only [covS, covL, push_cast, ↓brB_true, ↓brB_false, ↓reduceIte, zA, zB, zC, zD, zE, zF, zG, zH, zI, reduceCtorEq]
    ·
      refine awp_exit ?_
      have hkk : k = code.length := by omega
      subst hkk
      (try simp only [AThen, ABlk, reduceIte, zF]); refine hK1 _ ?_
      refine awp_seq' fun K hK => ?_
      refine awp_region tyOk tyPos [] rfl ?_
      simp only [push_cast, ↓brB_true, ↓brB_false, ↓reduceIte, zA, zB, zC, zD, zE, zF, zG, zH, zI, reduceCtorEq]
      repeat' apply And.intro
      all_goals try exact gB
      all_goals first | (refine hK _ ?_; clear hK K) | (simp only [push_cast]; done)
      refine awp_ret ?_
      (try simp only [AThen, ABlk])
      refine ⟨Or.inl rfl, ?_⟩
      simp only [RetP, retPOk, scAVs, resVars, resVar, push_cast, ↓brB_true, ↓brB_false, ↓reduceIte, zA, zB, zC, zD, zE, zF, zG, zH, zI, reduceCtorEq]
      first | exact ⟨⟨rfl, rfl, by simp [len_dU], by decide⟩, ⟨rfl, rfl⟩, ⟨rfl, rfl⟩, trivial⟩ | skip
end Go.Proofs.Ytdbecmmeifdafaa

namespace Go.Proofs.Ytdbecmmeifdafaa
open Nat renaming reduceMod → zA, reduceMul → zB, reduceDiv → zC, reduceAdd → zD, reduceSub → zE, reduceEqDiff → zF, reduceBEq → zG, reduceLT → zH, reduceLeDiff → zI
open Go.RowKit
set_option linter.unusedVariables false
set_option linter.unusedSimpArgs false

attribute [-push_cast] rm
theorem range3 : List.range 3 = [0, 1, 2] := rfl
theorem range4 : List.range 4 = [0, 1, 2, 3] := rfl
theorem range10 : List.range 10 = [0, 1, 2, 3, 4, 5, 6, 7, 8, 9] := rfl
attribute [push_cast] range3 range4 range10
def mH (code : List Int) : Nat → Int
  | 0 => cH code code.length
  | j + 1 => eH (mH code j)
theorem mH_0 (code : List Int) : mH code 0 = cH code code.length := rfl
theorem mH_s (code : List Int) (j : Nat) : mH code (j + 1) = eH (mH code j) := rfl
attribute [irreducible] mH
def bv (code : List Int) (j : Nat) : Int := eB code (nI code j) (mH code j)
theorem bv_rg (code : List Int) (j : Nat) : 0 ≤ bv code j ∧ bv code j ≤ 255 := eB_rg _ _ _
@[reducible] def cSt (code : List Int) (j : Nat) : List D := dCu code (nI code j) (mH code j)
theorem byte_fn {code : List Int} (hby : BytesOk code) (j : Nat) : FnB Try.prog tyT 144 (cSt code j) [] (cSt code (j + 1)) [.c (.int .i64 (bv code j))] := by
  have h := l1Byte_fn code hby _ (mH code j) (nI_rg code j)
  have e1 : dI1 code (nI code j) = nI code (j + 1) := (nI_s code j).symm
  have e2 : eH (mH code j) = mH code (j + 1) := (mH_s code j).symm
  rw [e1, e2] at h
  exact h
attribute [irreducible] bv
def bl (code : List Int) (j : Nat) (n : Int) : Int := (bv code j).tmod n
theorem bl_rg (code : List Int) (j : Nat) {n : Int} (hn : 1 ≤ n) : 0 ≤ bl code j n ∧ bl code j n < n :=
  ⟨Int.tmod_nonneg _ (bv_rg code j).1, Int.tmod_lt_of_pos _ (by omega)⟩
attribute [irreducible] bl
theorem bl_eq (code : List Int) (j : Nat) (n : Int) : bl code j n = (bv code j).tmod n := by unfold bl; rfl
def oc (code : List Int) (j : Nat) (n : Int) : Bool := bl code j n == 0
def odL : List Int := [-1, 0, 1, 2147483648, -2147483648, 1099511627776, 4611686018427387904, -4611686018427387904, 9223372036854775807, -9223372036854775808]
def nmV (code : List Int) (j : Nat) (most : Int) : Int :=
  if oc code j 10 then gi [-1, most, most + 1, gi odL (bl code (j + 1) 10).toNat] (bl code (j + 2) 4).toNat
  else if oc code (j + 1) 2 then bl code (j + 2) ((if 4 < most then 4 else most) + 1) else bl code (j + 2) (most + 1)
theorem nmV_1 {code : List Int} {j : Nat} {most : Int} (h : oc code j 10 = true) : nmV code j most = gi [-1, most, most + 1, gi odL (bl code (j + 1) 10).toNat] (bl code (j + 2) 4).toNat := if_pos h
theorem nmV_2 {code : List Int} {j : Nat} {most : Int} (h : oc code j 10 = false) (h2 : oc code (j + 1) 2 = true) : nmV code j most = bl code (j + 2) ((if 4 < most then 4 else most) + 1) := (if_neg (c := oc code j 10 = true) (by rw [h]; decide)).trans (if_pos h2)
theorem nmV_3 {code : List Int} {j : Nat} {most : Int} (h : oc code j 10 = false) (h2 : oc code (j + 1) 2 = false) : nmV code j most = bl code (j + 2) (most + 1) := (if_neg (c := oc code j 10 = true) (by rw [h]; decide)).trans (if_neg (by rw [h2]; decide))
def dS (code : List Int) (j : Nat) : Nat → List Int
  | 0 => []
  | v + 1 => if oc code (j + v) 3 then dS code j v ++ [(v : Int)] else dS code j v
theorem dS_yes {code : List Int} {j v : Nat} (h : oc code (j + v) 3 = true) : dS code j (v + 1) = dS code j v ++ [(v : Int)] := if_pos h
theorem dS_no {code : List Int} {j v : Nat} (h : ¬ oc code (j + v) 3 = true) : dS code j (v + 1) = dS code j v := if_neg h
theorem dS_le (code : List Int) (j : Nat) : ∀ v, (dS code j v).length ≤ v
  | 0 => Nat.le_refl _
  | v + 1 => by
    have := dS_le code j v
    unfold dS
    split
    · simp; omega
    · omega
set_option maxRecDepth 20000 in
set_option maxHeartbeats 4000000 in
theorem cbel_fn (code : List Int) (hby : BytesOk code) (j : Nat) (n : Int) (hn : 1 ≤ n ∧ n ≤ 256) : FnB Try.prog tyT 126 (cSt code j) [.c (.int .i64 n)] (cSt code (j + 1)) [.c (.int .i64 (bl code j n))] := by
  have hcl := hby.1
  have hB := byte_fn hby j
  rw [bl_eq]
  refine FnB_of (fn := Try.f126) (rs := [.tmp 4]) tyOk tyPos Try.func126 (by kernel_rfl) rfl rfl (by rw [Try.ntmps126]; exact Nat.le_of_ble_eq_true rfl) rfl (by simp only [szA, List.mem_cons, List.not_mem_nil, or_false, forall_eq_or_imp, forall_eq, false_implies, implies_true, VT.cells, szL]; try decide) (Nat.le_of_ble_eq_true rfl) (by simp only [szL]; decide) (Nat.le_of_ble_eq_true rfl) rfl ?_
  rw [Try.ntmps126]
  simp only [push_cast, ↓brB_true, ↓brB_false, ↓reduceIte, zA, zB, zC, zD, zE, zF, zG, zH, zI, reduceCtorEq]
  refine awp_seq' fun K hK => ?_
  refine awp_region tyOk tyPos [] rfl ?_
  simp only [push_cast, ↓brB_true, ↓brB_false, ↓reduceIte, zA, zB, zC, zD, zE, zF, zG, zH, zI, reduceCtorEq]
  repeat' apply And.intro
  all_goals try exact gB
  all_goals first | (refine hK _ ?_; clear hK K) | (simp only [push_cast]; done)
  refine awp_seq' fun K1 hK1 => ?_
  refine awp_seq' fun K hK => ?_
  refine awp_region tyOk tyPos [] rfl ?_
  simp only [push_cast, ↓brB_true, ↓brB_false, ↓reduceIte, zA, zB, zC, zD, zE, zF, zG, zH, zI, reduceCtorEq]
  repeat' apply And.intro
  all_goals try exact gB
  all_goals first | (refine hK _ ?_; clear hK K) | (simp only [push_cast]; done)
  refine awp_cond rfl (fun hc => ?_) (fun hc => ?_)
  skip
  · exfalso; first | (cases hc; done) | (simp only [push_cast] at hc; done) | (simp only [push_cast] at hc; omega) | omega
  refine awp_skip ?_
  (try simp only [AThen, ABlk, reduceIte, zF]); refine hK1 _ ?_
  refine awp_seq' fun K2 hK2 => ?_
  refine awp_seq' fun K hK => ?_
  refine awp_region tyOk tyPos [] rfl ?_
  simp only [push_cast, ↓brB_true, ↓brB_false, ↓reduceIte, zA, zB, zC, zD, zE, zF, zG, zH, zI, reduceCtorEq]
  repeat' apply And.intro
  all_goals try exact gB
  all_goals first | (refine hK _ ?_; clear hK K) | (simp only [push_cast]; done)
  refine awp_cond rfl (fun hc => ?_) (fun hc => ?_)
  rotate_left
  · exfalso; first | (cases hc; done) | (simp only [push_cast] at hc; done) | (simp only [push_cast] at hc; omega) | omega
  refine awp_seq' fun K hK => ?_
  refine awp_regionN false tyOk tyPos ?_ rfl ?_
  · kernel_rfl
  all_goals refine seqE_cut 2 fun K9 hK9 => ?_
  all_goals simp only [push_cast, ↓brB_true, ↓brB_false, ↓reduceIte, zA, zB, zC, zD, zE, zF, zG, zH, zI, reduceCtorEq]
  all_goals repeat' (first | (apply brB_mk <;> (intro hg; (try simp only [push_cast] at hg))) | (refine ⟨_, _, hB, ?_⟩; simp only [push_cast, ↓brB_true, ↓brB_false, ↓reduceIte, zA, zB, zC, zD, zE, zF, zG, zH, zI, reduceCtorEq]) | apply And.intro | (intro hg; (try simp only [push_cast] at hg)))
  all_goals try exact gA
  all_goals first | (refine hK9 _ ?_; clear hK9 K9) | (simp only [push_cast]; done)
  all_goals simp only [push_cast, ↓brB_true, ↓brB_false, ↓reduceIte, zA, zB, zC, zD, zE, zF, zG, zH, zI, reduceCtorEq]
  all_goals repeat' (first | (apply brB_mk <;> (intro hg; (try simp only [push_cast] at hg))) | (refine ⟨_, _, hB, ?_⟩; simp only [push_cast, ↓brB_true, ↓brB_false, ↓reduceIte, zA, zB, zC, zD, zE, zF, zG, zH, zI, reduceCtorEq]) | apply And.intro | (intro hg; (try simp only [push_cast] at hg)))
  all_goals try exact gA
  all_goals first | (refine hK _ ?_; clear hK K) | (simp only [push_cast]; done)
  refine awp_ret ?_
  (try simp only [AThen, ABlk])
  refine ⟨Or.inl rfl, ?_⟩
  simp only [RetB, RetOk, cellsB, resVars, resVar, push_cast, ↓brB_true, ↓brB_false, ↓reduceIte, zA, zB, zC, zD, zE, zF, zG, zH, zI, reduceCtorEq]
set_option maxRecDepth 20000 in
set_option maxHeartbeats 4000000 in
theorem conce_fn (code : List Int) (hby : BytesOk code) (j : Nat) (n : Int) (hn : 1 ≤ n ∧ n ≤ 256) : FnB Try.prog tyT 125 (cSt code j) [.c (.int .i64 n)] (cSt code (j + 1)) [.c (.bool (oc code j n))] := by
  have hcl := hby.1
  have hB := cbel_fn code hby j n hn
  refine FnB_of (fn := Try.f125) (rs := [.tmp 4]) tyOk tyPos Try.func125 (by kernel_rfl) rfl rfl (by rw [Try.ntmps125]; exact Nat.le_of_ble_eq_true rfl) rfl (by simp only [szA, List.mem_cons, List.not_mem_nil, or_false, forall_eq_or_imp, forall_eq, false_implies, implies_true, VT.cells, szL]; try decide) (Nat.le_of_ble_eq_true rfl) (by simp only [szL]; decide) (Nat.le_of_ble_eq_true rfl) rfl ?_
  rw [Try.ntmps125]
  simp only [push_cast, ↓brB_true, ↓brB_false, ↓reduceIte, zA, zB, zC, zD, zE, zF, zG, zH, zI, reduceCtorEq]
  refine awp_seq' fun K hK => ?_
  refine awp_region tyOk tyPos [] rfl ?_
  simp only [push_cast, ↓brB_true, ↓brB_false, ↓reduceIte, zA, zB, zC, zD, zE, zF, zG, zH, zI, reduceCtorEq]
  repeat' apply And.intro
  all_goals try exact gB
  all_goals first | (refine hK _ ?_; clear hK K) | (simp only [push_cast]; done)
  refine awp_seq' fun K hK => ?_
  refine awp_regionN false tyOk tyPos ?_ rfl ?_
  · kernel_rfl
  all_goals refine seqE_cut 3 fun K9 hK9 => ?_
  all_goals simp only [push_cast, ↓brB_true, ↓brB_false, ↓reduceIte, zA, zB, zC, zD, zE, zF, zG, zH, zI, reduceCtorEq]
  all_goals repeat' (first | (apply brB_mk <;> (intro hg; (try simp only [push_cast] at hg))) | (refine ⟨_, _, hB, ?_⟩; simp only [push_cast, ↓brB_true, ↓brB_false, ↓reduceIte, zA, zB, zC, zD, zE, zF, zG, zH, zI, reduceCtorEq]) | apply And.intro | (intro hg; (try simp only [push_cast] at hg)))
  all_goals try exact gA
  all_goals first | (refine hK9 _ ?_; clear hK9 K9) | (simp only [push_cast]; done)
  all_goals simp only [push_cast, ↓brB_true, ↓brB_false, ↓reduceIte, zA, zB, zC, zD, zE, zF, zG, zH, zI, reduceCtorEq]
  all_goals repeat' (first | (apply brB_mk <;> (intro hg; (try simp only [push_cast] at hg))) | (refine ⟨_, _, hB, ?_⟩; simp only [push_cast, ↓brB_true, ↓brB_false, ↓reduceIte, zA, zB, zC, zD, zE, zF, zG, zH, zI, reduceCtorEq]) | apply And.intro | (intro hg; (try simp only [push_cast] at hg)))
  all_goals try exact gA
  all_goals first | (refine hK _ ?_; clear hK K) | (simp only [push_cast]; done)
  refine awp_ret ?_
  (try simp only [AThen, ABlk])
  refine ⟨Or.inl rfl, ?_⟩
  simp only [RetB, RetOk, cellsB, resVars, resVar, push_cast, ↓brB_true, ↓brB_false, ↓reduceIte, zA, zB, zC, zD, zE, zF, zG, zH, zI, reduceCtorEq]
  rfl
set_option maxRecDepth 20000 in
set_option maxHeartbeats 4000000 in
theorem codd_fn (code : List Int) (hby : BytesOk code) (j : Nat)  : FnB Try.prog tyT 157 (cSt code j) [] (cSt code (j + 1)) [.c (.int .i64 (gi odL (bl code j 10).toNat))] := by
  have hcl := hby.1
  have hB := cbel_fn code hby j 10 (by decide)
  have hr := bl_rg code j (n := 10) (by decide)
  refine FnB_of (fn := Try.f157) (rs := [.tmp 2]) tyOk tyPos Try.func157 (by kernel_rfl) rfl rfl (by rw [Try.ntmps157]; exact Nat.le_of_ble_eq_true rfl) rfl (by simp only [szA, List.mem_cons, List.not_mem_nil, or_false, forall_eq_or_imp, forall_eq, false_implies, implies_true, VT.cells, szL]; try decide) (Nat.le_of_ble_eq_true rfl) (by simp only [szL]; decide) (Nat.le_of_ble_eq_true rfl) rfl ?_
  rw [Try.ntmps157]
  simp only [push_cast, ↓brB_true, ↓brB_false, ↓reduceIte, zA, zB, zC, zD, zE, zF, zG, zH, zI, reduceCtorEq]
  refine awp_seq' fun K hK => ?_
  refine awp_region tyOk tyPos [] rfl ?_
  all_goals simp only [push_cast, ↓brB_true, ↓brB_false, ↓reduceIte, zA, zB, zC, zD, zE, zF, zG, zH, zI, reduceCtorEq]
  all_goals repeat' (first | (apply brB_mk <;> (intro hg; (try simp only [push_cast] at hg))) | apply And.intro | (intro hg; (try simp only [push_cast] at hg)))
  all_goals first | exact gA | (show HasC (.int .i64) (dI odL) _; rw [HasC_dI]; show _ < 10; omega) | skip
  all_goals first | (refine hK _ ?_; clear hK K) | (simp only [push_cast]; done)
  refine awp_seq' fun K hK => ?_
  refine awp_regionN false tyOk tyPos ?_ rfl ?_
  · kernel_rfl
  all_goals refine seqE_cut 3 fun K9 hK9 => ?_
  all_goals simp only [push_cast, ↓brB_true, ↓brB_false, ↓reduceIte, zA, zB, zC, zD, zE, zF, zG, zH, zI, reduceCtorEq]
  all_goals repeat' (first | (apply brB_mk <;> (intro hg; (try simp only [push_cast] at hg))) | (refine ⟨_, _, hB, ?_⟩; simp only [push_cast, ↓brB_true, ↓brB_false, ↓reduceIte, zA, zB, zC, zD, zE, zF, zG, zH, zI, reduceCtorEq]) | apply And.intro | (intro hg; (try simp only [push_cast] at hg)))
  all_goals first | exact gA | (show HasC (.int .i64) (dI odL) _; rw [HasC_dI]; show _ < 10; omega) | skip
  all_goals first | (refine hK9 _ ?_; clear hK9 K9) | (simp only [push_cast]; done)
  all_goals simp only [push_cast, ↓brB_true, ↓brB_false, ↓reduceIte, zA, zB, zC, zD, zE, zF, zG, zH, zI, reduceCtorEq]
  all_goals repeat' (first | (apply brB_mk <;> (intro hg; (try simp only [push_cast] at hg))) | (refine ⟨_, _, hB, ?_⟩; simp only [push_cast, ↓brB_true, ↓brB_false, ↓reduceIte, zA, zB, zC, zD, zE, zF, zG, zH, zI, reduceCtorEq]) | apply And.intro | (intro hg; (try simp only [push_cast] at hg)))
  all_goals first | exact gA | (show HasC (.int .i64) (dI odL) _; rw [HasC_dI]; show _ < 10; omega) | skip
  all_goals first | (refine hK _ ?_; clear hK K) | (simp only [push_cast]; done)
  refine awp_ret ?_
  (try simp only [AThen, ABlk])
  refine ⟨Or.inl rfl, ?_⟩
  simp only [RetB, RetOk, cellsB, resVars, resVar, push_cast, ↓brB_true, ↓brB_false, ↓reduceIte, zA, zB, zC, zD, zE, zF, zG, zH, zI, reduceCtorEq]
  all_goals first | exact getI_dI odL _ | skip
set_option maxRecDepth 20000 in
set_option maxHeartbeats 4000000 in
theorem l1Min9_fn (x y : Int) : Fn Try.prog tyT 158 [.c (.int .i64 x), .c (.int .i64 y)] [.c (.int .i64 (if y < x then y else x))] := by
  refine Fn_of (fn := Try.f158) (ts := [4]) Try.func158 (by kernel_rfl) rfl rfl (by rw [Try.ntmps158]; exact Nat.le_of_ble_eq_true rfl) rfl (by simp only [szA, List.mem_cons, List.not_mem_nil, or_false, forall_eq_or_imp, forall_eq, VT.cells, szL]; try decide) ?_
  rw [Try.ntmps158]
  simp only [push_cast, ↓brB_true, ↓brB_false, ↓reduceIte, zA, zB, zC, zD, zE, zF, zG, zH, zI, reduceCtorEq]
  refine awp_seq' fun K hK => ?_
  refine awp_region tyOk tyPos [] rfl ?_
  simp only [push_cast, ↓brB_true, ↓brB_false, ↓reduceIte, zA, zB, zC, zD, zE, zF, zG, zH, zI, reduceCtorEq]
  repeat' apply And.intro
  all_goals try exact gB
  all_goals first | (refine hK _ ?_; clear hK K) | (simp only [push_cast]; done)
  refine awp_seq' fun K1 hK1 => ?_
  refine awp_seq' fun K hK => ?_
  refine awp_region tyOk tyPos [] rfl ?_
  simp only [push_cast, ↓brB_true, ↓brB_false, ↓reduceIte, zA, zB, zC, zD, zE, zF, zG, zH, zI, reduceCtorEq]
  repeat' apply And.intro
  all_goals try exact gB
  all_goals first | (refine hK _ ?_; clear hK K) | (simp only [push_cast]; done)
  refine awp_cond rfl (fun hc => ?_) (fun hc => ?_) <;> (try simp only [push_cast] at hc)
  ·
    refine awp_seq' fun K hK => ?_
    refine awp_region tyOk tyPos [] rfl ?_
    simp only [push_cast, ↓brB_true, ↓brB_false, ↓reduceIte, zA, zB, zC, zD, zE, zF, zG, zH, zI, reduceCtorEq]
    repeat' apply And.intro
    all_goals try exact gB
    all_goals first | (refine hK _ ?_; clear hK K) | (simp only [push_cast]; done)
    refine awp_ret ?_
    (try simp only [AThen, ABlk])
    refine ⟨Or.inl rfl, ?_⟩
    simp only [RetOk, push_cast, ↓brB_true, ↓brB_false, ↓reduceIte, zA, zB, zC, zD, zE, zF, zG, zH, zI, reduceCtorEq]
    rw [if_neg (by omega)]
  ·
    refine awp_skip ?_
    (try simp only [AThen, ABlk, reduceIte, zF]); refine hK1 _ ?_
    refine awp_seq' fun K hK => ?_
    refine awp_region tyOk tyPos [] rfl ?_
    simp only [push_cast, ↓brB_true, ↓brB_false, ↓reduceIte, zA, zB, zC, zD, zE, zF, zG, zH, zI, reduceCtorEq]
    repeat' apply And.intro
    all_goals try exact gB
    all_goals first | (refine hK _ ?_; clear hK K) | (simp only [push_cast]; done)
    refine awp_ret ?_
    (try simp only [AThen, ABlk])
    refine ⟨Or.inl rfl, ?_⟩
    simp only [RetOk, push_cast, ↓brB_true, ↓brB_false, ↓reduceIte, zA, zB, zC, zD, zE, zF, zG, zH, zI, reduceCtorEq]
    split <;> omega
set_option maxRecDepth 20000 in
set_option maxHeartbeats 4000000 in
theorem cset_fn (code : List Int) (hby : BytesOk code) (j : Nat) (n : Nat) (hn : n ≤ 100) : FnB Try.prog tyT 155 (cSt code j) [.c (.int .i64 n)] (cSt code (j + n)) [.c (DI (dS code j n))] := by
  have hcl := hby.1
  refine FnB_of (fn := Try.f155) (rs := [.tmp 4]) tyOk tyPos Try.func155 (by kernel_rfl) rfl rfl (by rw [Try.ntmps155]; exact Nat.le_of_ble_eq_true rfl) rfl (by simp only [szA, List.mem_cons, List.not_mem_nil, or_false, forall_eq_or_imp, forall_eq, false_implies, implies_true, VT.cells, szL]; try decide) (Nat.le_of_ble_eq_true rfl) (by simp only [szL]; decide) (Nat.le_of_ble_eq_true rfl) rfl ?_
  rw [Try.ntmps155]
  simp only [push_cast, ↓brB_true, ↓brB_false, ↓reduceIte, zA, zB, zC, zD, zE, zF, zG, zH, zI, reduceCtorEq]
  refine awp_seq' fun K hK => ?_
  refine awp_region tyOk tyPos [] rfl ?_
  simp only [push_cast, ↓brB_true, ↓brB_false, ↓reduceIte, zA, zB, zC, zD, zE, zF, zG, zH, zI, reduceCtorEq]
  repeat' apply And.intro
  all_goals try exact gB
  all_goals first | (refine hK _ ?_; clear hK K) | (simp only [push_cast]; done)
  refine awp_seq' fun K hK => ?_
  refine awp_region tyOk tyPos [] rfl ?_
  simp only [push_cast, ↓brB_true, ↓brB_false, ↓reduceIte, zA, zB, zC, zD, zE, zF, zG, zH, zI, reduceCtorEq]
  repeat' apply And.intro
  all_goals try exact gB
  all_goals first | (refine hK _ ?_; clear hK K) | (simp only [push_cast]; done)
  refine awp_seq' fun K1 hK1 => ?_
  refine awp_seq' fun K hK => ?_
  refine awp_region tyOk tyPos [] rfl ?_
  simp only [push_cast, ↓brB_true, ↓brB_false, ↓reduceIte, zA, zB, zC, zD, zE, zF, zG, zH, zI, reduceCtorEq]
  repeat' apply And.intro
  all_goals try exact gB
  all_goals first | (refine hK _ ?_; clear hK K) | (simp only [push_cast]; done)
  refine awp_block ?_
  refine awp_loopU [5,6,8,9,10,11,12,13,14,15,16,17,18,1000000] [80] (fun (v : Nat) => [(6, .int .i64 v), (5, .sl 80 [] 0 (dS code j v).length 2)]) (fun v => [(1000000, [.sl 16000000 [] 0 code.length 5, .int .i64 (nI code (j + v)), .int .i64 (mH code (j + v))])]) (fun v => [(80, ⟨.ex, 2, dI (dS code j v), none⟩), (16000000, ⟨.sh, 5, dU code, some 16000000⟩)]) (fun v => v ≤ n) (fun v => n - v) 0 ?_ (by omega) ?_
  ·
    rw [show dS code j 0 = [] from rfl, show dI ([] : List Int) = [] from rfl]
    refine cov_of rfl ?_ ?_ ?_ <;> simp only [covS, covL, push_cast, ↓brB_true, ↓brB_false, ↓reduceIte, zA, zB, zC, zD, zE, zF, zG, zH, zI, reduceCtorEq]
  · rintro v hv KL0 hL0
    have hdl := dS_le code j v
    simp only [push_cast, ↓brB_true, ↓brB_false, ↓reduceIte, zA, zB, zC, zD, zE, zF, zG, zH, zI, reduceCtorEq]
    refine awp_seq' fun K2 hK2 => ?_
    refine awp_seq' fun K hK => ?_
    refine awp_region tyOk tyPos [] rfl ?_
    simp only [push_cast, ↓brB_true, ↓brB_false, ↓reduceIte, zA, zB, zC, zD, zE, zF, zG, zH, zI, reduceCtorEq]
    repeat' apply And.intro
    all_goals try exact gB
    all_goals first | (refine hK _ ?_; clear hK K) | (simp only [push_cast]; done)
    refine awp_cond rfl (fun hc => ?_) (fun hc => ?_) <;> (try simp only [push_cast] at hc)
    ·
      refine awp_skip ?_
      (try simp only [AThen, ABlk, reduceIte, zF]); refine hK2 _ ?_
      refine awp_seq' fun K3 hK3 => ?_
      refine awp_block ?_
      have hB := conce_fn code hby (j + v) 3 (by decide)
      refine awp_seq' fun K hK => ?_
      refine awp_regionN false tyOk tyPos ?_ rfl ?_
      · kernel_rfl
      all_goals refine seqE_cut 2 fun K9 hK9 => ?_
      all_goals simp only [push_cast, ↓brB_true, ↓brB_false, ↓reduceIte, zA, zB, zC, zD, zE, zF, zG, zH, zI, reduceCtorEq]
      all_goals repeat' (first | (apply brB_mk <;> (intro hg; (try simp only [push_cast] at hg))) | (refine ⟨_, _, hB, ?_⟩; simp only [push_cast, ↓brB_true, ↓brB_false, ↓reduceIte, zA, zB, zC, zD, zE, zF, zG, zH, zI, reduceCtorEq]) | apply And.intro | (intro hg; (try simp only [push_cast] at hg)))
      all_goals try exact gA
      all_goals first | (refine hK9 _ ?_; clear hK9 K9) | (simp only [push_cast]; done)
      all_goals simp only [push_cast, ↓brB_true, ↓brB_false, ↓reduceIte, zA, zB, zC, zD, zE, zF, zG, zH, zI, reduceCtorEq]
      all_goals repeat' (first | (apply brB_mk <;> (intro hg; (try simp only [push_cast] at hg))) | (refine ⟨_, _, hB, ?_⟩; simp only [push_cast, ↓brB_true, ↓brB_false, ↓reduceIte, zA, zB, zC, zD, zE, zF, zG, zH, zI, reduceCtorEq]) | apply And.intro | (intro hg; (try simp only [push_cast] at hg)))
      all_goals try exact gA
      all_goals first | (refine hK _ ?_; clear hK K) | (simp only [push_cast]; done)
      refine awp_cond rfl (fun hc => ?_) (fun hc => ?_) <;> (try simp only [push_cast] at hc)
      ·
        refine awp_region tyOk tyPos [] rfl ?_
        simp only [push_cast, ↓brB_true, ↓brB_false, ↓reduceIte, zA, zB, zC, zD, zE, zF, zG, zH, zI, reduceCtorEq]
        repeat' apply And.intro
        all_goals try exact gB
        (try simp only [AThen, ABlk, reduceIte, zF]); refine hK3 _ ?_
        refine awp_region tyOk tyPos [] rfl ?_
        simp only [push_cast, ↓brB_true, ↓brB_false, ↓reduceIte, zA, zB, zC, zD, zE, zF, zG, zH, zI, reduceCtorEq]
        repeat' apply And.intro
        all_goals try exact gB
        refine hL0 _ ⟨v + 1, by omega, by omega, ?_⟩
        rw [dS_yes hc]
        refine cov_of rfl ?_ ?_ ?_ <;> simp only [covS, covL, push_cast, ↓brB_true, ↓brB_false, ↓reduceIte, zA, zB, zC, zD, zE, zF, zG, zH, zI, reduceCtorEq]
        all_goals first | (rw [List.length_append]; rfl) | exact rfl | skip
      ·
        refine awp_skip ?_
        (try simp only [AThen, ABlk, reduceIte, zF]); refine hK3 _ ?_
        refine awp_region tyOk tyPos [] rfl ?_
        simp only [push_cast, ↓brB_true, ↓brB_false, ↓reduceIte, zA, zB, zC, zD, zE, zF, zG, zH, zI, reduceCtorEq]
        repeat' apply And.intro
        all_goals try exact gB
        refine hL0 _ ⟨v + 1, by omega, by omega, ?_⟩
        rw [dS_no (by rw [hc]; decide)]
        refine cov_of rfl ?_ ?_ ?_ <;> simp only [covS, covL, push_cast, ↓brB_true, ↓brB_false, ↓reduceIte, zA, zB, zC, zD, zE, zF, zG, zH, zI, reduceCtorEq]
        all_goals first | (rw [List.length_append]; rfl) | exact rfl | skip
    ·
      refine awp_exit ?_
      have hvv : v = n := by omega
      subst hvv
      (try simp only [AThen, ABlk, reduceIte, zF]); refine hK1 _ ?_
      refine awp_seq' fun K hK => ?_
      refine awp_region tyOk tyPos [] rfl ?_
      simp only [push_cast, ↓brB_true, ↓brB_false, ↓reduceIte, zA, zB, zC, zD, zE, zF, zG, zH, zI, reduceCtorEq]
      repeat' apply And.intro
      all_goals try exact gB
      all_goals first | (refine hK _ ?_; clear hK K) | (simp only [push_cast]; done)
      refine awp_ret ?_
      (try simp only [AThen, ABlk])
      refine ⟨Or.inl rfl, ?_⟩
      simp only [RetB, RetOk, cellsB, resVars, resVar, push_cast, ↓brB_true, ↓brB_false, ↓reduceIte, zA, zB, zC, zD, zE, zF, zG, zH, zI, reduceCtorEq]
      trace_state
set_option maxRecDepth 20000 in
set_option maxHeartbeats 4000000 in
theorem cnum_fn (code : List Int) (hby : BytesOk code) (j : Nat) (most : Int) (hm : 0 ≤ most ∧ most ≤ 255) : FnB Try.prog tyT 143 (cSt code j) [.c (.int .i64 most)] (cSt code (j + 3)) [.c (.int .i64 (nmV code j most))] := by
  have hcl := hby.1
  have hB1 := conce_fn code hby j 10 (by decide)
  have hB2 := codd_fn code hby (j + 1)
  have hB3 := cbel_fn code hby (j + 2) 4 (by decide)
  have hr3 := bl_rg code (j + 2) (n := 4) (by decide)
  have hB4 := conce_fn code hby (j + 1) 2 (by decide)
  have hB5 := cbel_fn code hby (j + 2) ((if 4 < most then 4 else most) + 1) (by split <;> omega)
  have hB6 := cbel_fn code hby (j + 2) (most + 1) (by omega)
  have hM := l1Min9_fn most 4
  refine FnB_of (fn := Try.f143) (rs := [.tmp 4]) tyOk tyPos Try.func143 (by kernel_rfl) rfl rfl (by rw [Try.ntmps143]; exact Nat.le_of_ble_eq_true rfl) rfl (by simp only [szA, List.mem_cons, List.not_mem_nil, or_false, forall_eq_or_imp, forall_eq, false_implies, implies_true, VT.cells, szL]; try decide) (Nat.le_of_ble_eq_true rfl) (by simp only [szL]; decide) (Nat.le_of_ble_eq_true rfl) rfl ?_
  rw [Try.ntmps143]
  simp only [push_cast, ↓brB_true, ↓brB_false, ↓reduceIte, zA, zB, zC, zD, zE, zF, zG, zH, zI, reduceCtorEq]
  refine awp_seq' fun K hK => ?_
  refine awp_region tyOk tyPos [] rfl ?_
  all_goals simp only [push_cast, ↓brB_true, ↓brB_false, ↓reduceIte, zA, zB, zC, zD, zE, zF, zG, zH, zI, reduceCtorEq]
  all_goals repeat' (first | (apply brB_mk <;> (intro hg; (try simp only [push_cast] at hg))) | apply And.intro | (intro hg; (try simp only [push_cast] at hg)))
  all_goals first | exact gA | (show HasC (.int .i64) (dI [-1, most, most + 1, _]) _; rw [HasC_dI]; show _ < 4; omega) | skip
  all_goals first | (refine hK _ ?_; clear hK K) | (simp only [push_cast]; done)
  refine awp_seq' fun K1 hK1 => ?_
  refine awp_seq' fun K hK => ?_
  refine awp_regionN false tyOk tyPos ?_ rfl ?_
  · kernel_rfl
  all_goals refine seqE_cut 2 fun K9 hK9 => ?_
  all_goals simp only [push_cast, ↓brB_true, ↓brB_false, ↓reduceIte, zA, zB, zC, zD, zE, zF, zG, zH, zI, reduceCtorEq]
  all_goals repeat' (first | (apply brB_mk <;> (intro hg; (try simp only [push_cast] at hg))) | (refine ⟨_, _, hB1, ?_⟩; simp only [push_cast, ↓brB_true, ↓brB_false, ↓reduceIte, zA, zB, zC, zD, zE, zF, zG, zH, zI, reduceCtorEq]) | apply And.intro | (intro hg; (try simp only [push_cast] at hg)))
  all_goals first | exact gA | (show HasC (.int .i64) (dI [-1, most, most + 1, _]) _; rw [HasC_dI]; show _ < 4; omega) | skip
  all_goals first | (refine hK9 _ ?_; clear hK9 K9) | (simp only [push_cast]; done)
  all_goals simp only [push_cast, ↓brB_true, ↓brB_false, ↓reduceIte, zA, zB, zC, zD, zE, zF, zG, zH, zI, reduceCtorEq]
  all_goals repeat' (first | (apply brB_mk <;> (intro hg; (try simp only [push_cast] at hg))) | (refine ⟨_, _, hB1, ?_⟩; simp only [push_cast, ↓brB_true, ↓brB_false, ↓reduceIte, zA, zB, zC, zD, zE, zF, zG, zH, zI, reduceCtorEq]) | apply And.intro | (intro hg; (try simp only [push_cast] at hg)))
  all_goals first | exact gA | (show HasC (.int .i64) (dI [-1, most, most + 1, _]) _; rw [HasC_dI]; show _ < 4; omega) | skip
  all_goals first | (refine hK _ ?_; clear hK K) | (simp only [push_cast]; done)
  refine awp_cond rfl (fun hc => ?_) (fun hc => ?_) <;> (try simp only [push_cast] at hc)
  ·
    refine awp_seq' fun K hK => ?_
    refine awp_regionN false tyOk tyPos ?_ rfl ?_
    · kernel_rfl
    all_goals refine seqE_cut 5 fun K9 hK9 => ?_
    all_goals simp only [push_cast, ↓brB_true, ↓brB_false, ↓reduceIte, zA, zB, zC, zD, zE, zF, zG, zH, zI, reduceCtorEq]
    all_goals repeat' (first | (apply brB_mk <;> (intro hg; (try simp only [push_cast] at hg))) | (refine ⟨_, _, hB2, ?_⟩; simp only [push_cast, ↓brB_true, ↓brB_false, ↓reduceIte, zA, zB, zC, zD, zE, zF, zG, zH, zI, reduceCtorEq]) | (refine ⟨_, _, hB3, ?_⟩; simp only [push_cast, ↓brB_true, ↓brB_false, ↓reduceIte, zA, zB, zC, zD, zE, zF, zG, zH, zI, reduceCtorEq]) | apply And.intro | (intro hg; (try simp only [push_cast] at hg)))
    all_goals first | exact gA | (show HasC (.int .i64) (dI [-1, most, most + 1, _]) _; rw [HasC_dI]; show _ < 4; omega) | skip
    all_goals first | (refine hK9 _ ?_; clear hK9 K9) | (simp only [push_cast]; done)
    all_goals refine seqE_cut 3 fun K9 hK9 => ?_
    all_goals simp only [push_cast, ↓brB_true, ↓brB_false, ↓reduceIte, zA, zB, zC, zD, zE, zF, zG, zH, zI, reduceCtorEq]
    all_goals repeat' (first | (apply brB_mk <;> (intro hg; (try simp only [push_cast] at hg))) | (refine ⟨_, _, hB2, ?_⟩; simp only [push_cast, ↓brB_true, ↓brB_false, ↓reduceIte, zA, zB, zC, zD, zE, zF, zG, zH, zI, reduceCtorEq]) | (refine ⟨_, _, hB3, ?_⟩; simp only [push_cast, ↓brB_true, ↓brB_false, ↓reduceIte, zA, zB, zC, zD, zE, zF, zG, zH, zI, reduceCtorEq]) | apply And.intro | (intro hg; (try simp only [push_cast] at hg)))
    all_goals first | exact gA | (show HasC (.int .i64) (dI [-1, most, most + 1, _]) _; rw [HasC_dI]; show _ < 4; omega) | skip
    all_goals first | (refine hK9 _ ?_; clear hK9 K9) | (simp only [push_cast]; done)
    all_goals simp only [push_cast, ↓brB_true, ↓brB_false, ↓reduceIte, zA, zB, zC, zD, zE, zF, zG, zH, zI, reduceCtorEq]
    all_goals repeat' (first | (apply brB_mk <;> (intro hg; (try simp only [push_cast] at hg))) | (refine ⟨_, _, hB2, ?_⟩; simp only [push_cast, ↓brB_true, ↓brB_false, ↓reduceIte, zA, zB, zC, zD, zE, zF, zG, zH, zI, reduceCtorEq]) | (refine ⟨_, _, hB3, ?_⟩; simp only [push_cast, ↓brB_true, ↓brB_false, ↓reduceIte, zA, zB, zC, zD, zE, zF, zG, zH, zI, reduceCtorEq]) | apply And.intro | (intro hg; (try simp only [push_cast] at hg)))
    all_goals first | exact gA | (show HasC (.int .i64) (dI [-1, most, most + 1, _]) _; rw [HasC_dI]; show _ < 4; omega) | skip
    all_goals first | (refine hK _ ?_; clear hK K) | (simp only [push_cast]; done)
    refine awp_ret ?_
    (try simp only [AThen, ABlk])
    refine ⟨Or.inl rfl, ?_⟩
    simp only [RetB, RetOk, cellsB, resVars, resVar, push_cast, ↓brB_true, ↓brB_false, ↓reduceIte, zA, zB, zC, zD, zE, zF, zG, zH, zI, reduceCtorEq]
    rw [nmV_1 (by with_reducible assumption)]; exact getI_dI [-1, most, most + 1, _] _
  ·
    refine awp_skip ?_
    (try simp only [AThen, ABlk, reduceIte, zF]); refine hK1 _ ?_
    refine awp_seq' fun K2 hK2 => ?_
    refine awp_seq' fun K hK => ?_
    refine awp_regionN false tyOk tyPos ?_ rfl ?_
    · kernel_rfl
    all_goals refine seqE_cut 2 fun K9 hK9 => ?_
    all_goals simp only [push_cast, ↓brB_true, ↓brB_false, ↓reduceIte, zA, zB, zC, zD, zE, zF, zG, zH, zI, reduceCtorEq]
    all_goals repeat' (first | (apply brB_mk <;> (intro hg; (try simp only [push_cast] at hg))) | (refine ⟨_, _, hB4, ?_⟩; simp only [push_cast, ↓brB_true, ↓brB_false, ↓reduceIte, zA, zB, zC, zD, zE, zF, zG, zH, zI, reduceCtorEq]) | apply And.intro | (intro hg; (try simp only [push_cast] at hg)))
    all_goals first | exact gA | (show HasC (.int .i64) (dI [-1, most, most + 1, _]) _; rw [HasC_dI]; show _ < 4; omega) | skip
    all_goals first | (refine hK9 _ ?_; clear hK9 K9) | (simp only [push_cast]; done)
    all_goals simp only [push_cast, ↓brB_true, ↓brB_false, ↓reduceIte, zA, zB, zC, zD, zE, zF, zG, zH, zI, reduceCtorEq]
    all_goals repeat' (first | (apply brB_mk <;> (intro hg; (try simp only [push_cast] at hg))) | (refine ⟨_, _, hB4, ?_⟩; simp only [push_cast, ↓brB_true, ↓brB_false, ↓reduceIte, zA, zB, zC, zD, zE, zF, zG, zH, zI, reduceCtorEq]) | apply And.intro | (intro hg; (try simp only [push_cast] at hg)))
    all_goals first | exact gA | (show HasC (.int .i64) (dI [-1, most, most + 1, _]) _; rw [HasC_dI]; show _ < 4; omega) | skip
    all_goals first | (refine hK _ ?_; clear hK K) | (simp only [push_cast]; done)
    refine awp_cond rfl (fun hc => ?_) (fun hc => ?_) <;> (try simp only [push_cast] at hc)
    ·
      refine awp_seq' fun K hK => ?_
      refine awp_regionN false tyOk tyPos ?_ rfl ?_
      · kernel_rfl
      all_goals refine seqE_cut 3 fun K9 hK9 => ?_
      all_goals simp only [push_cast, ↓brB_true, ↓brB_false, ↓reduceIte, zA, zB, zC, zD, zE, zF, zG, zH, zI, reduceCtorEq]
      all_goals repeat' (first | (apply brB_mk <;> (intro hg; (try simp only [push_cast] at hg))) | (refine ⟨_, hM, ?_⟩; simp only [push_cast, ↓brB_true, ↓brB_false, ↓reduceIte, zA, zB, zC, zD, zE, zF, zG, zH, zI, reduceCtorEq]) | (refine ⟨_, _, hB5, ?_⟩; simp only [push_cast, ↓brB_true, ↓brB_false, ↓reduceIte, zA, zB, zC, zD, zE, zF, zG, zH, zI, reduceCtorEq]) | apply And.intro | (intro hg; (try simp only [push_cast] at hg)))
      all_goals first | exact gA | (show HasC (.int .i64) (dI [-1, most, most + 1, _]) _; rw [HasC_dI]; show _ < 4; omega) | skip
      all_goals first | (refine hK9 _ ?_; clear hK9 K9) | (simp only [push_cast]; done)
      all_goals refine seqE_cut 2 fun K9 hK9 => ?_
      all_goals simp only [push_cast, ↓brB_true, ↓brB_false, ↓reduceIte, zA, zB, zC, zD, zE, zF, zG, zH, zI, reduceCtorEq]
      all_goals repeat' (first | (apply brB_mk <;> (intro hg; (try simp only [push_cast] at hg))) | (refine ⟨_, hM, ?_⟩; simp only [push_cast, ↓brB_true, ↓brB_false, ↓reduceIte, zA, zB, zC, zD, zE, zF, zG, zH, zI, reduceCtorEq]) | (refine ⟨_, _, hB5, ?_⟩; simp only [push_cast, ↓brB_true, ↓brB_false, ↓reduceIte, zA, zB, zC, zD, zE, zF, zG, zH, zI, reduceCtorEq]) | apply And.intro | (intro hg; (try simp only [push_cast] at hg)))
      all_goals first | exact gA | (show HasC (.int .i64) (dI [-1, most, most + 1, _]) _; rw [HasC_dI]; show _ < 4; omega) | skip
      all_goals first | (refine hK9 _ ?_; clear hK9 K9) | (simp only [push_cast]; done)
      all_goals simp only [push_cast, ↓brB_true, ↓brB_false, ↓reduceIte, zA, zB, zC, zD, zE, zF, zG, zH, zI, reduceCtorEq]
      all_goals repeat' (first | (apply brB_mk <;> (intro hg; (try simp only [push_cast] at hg))) | (refine ⟨_, hM, ?_⟩; simp only [push_cast, ↓brB_true, ↓brB_false, ↓reduceIte, zA, zB, zC, zD, zE, zF, zG, zH, zI, reduceCtorEq]) | (refine ⟨_, _, hB5, ?_⟩; simp only [push_cast, ↓brB_true, ↓brB_false, ↓reduceIte, zA, zB, zC, zD, zE, zF, zG, zH, zI, reduceCtorEq]) | apply And.intro | (intro hg; (try simp only [push_cast] at hg)))
      all_goals first | exact gA | (show HasC (.int .i64) (dI [-1, most, most + 1, _]) _; rw [HasC_dI]; show _ < 4; omega) | skip
      all_goals first | (refine hK _ ?_; clear hK K) | (simp only [push_cast]; done)
      refine awp_ret ?_
      (try simp only [AThen, ABlk])
      refine ⟨Or.inl rfl, ?_⟩
      simp only [RetB, RetOk, cellsB, resVars, resVar, push_cast, ↓brB_true, ↓brB_false, ↓reduceIte, zA, zB, zC, zD, zE, zF, zG, zH, zI, reduceCtorEq]
      rw [nmV_2 (by with_reducible assumption) (by with_reducible assumption)]
    ·
      refine awp_skip ?_
      (try simp only [AThen, ABlk, reduceIte, zF]); refine hK2 _ ?_
      refine awp_seq' fun K hK => ?_
      refine awp_regionN false tyOk tyPos ?_ rfl ?_
      · kernel_rfl
      all_goals refine seqE_cut 4 fun K9 hK9 => ?_
      all_goals simp only [push_cast, ↓brB_true, ↓brB_false, ↓reduceIte, zA, zB, zC, zD, zE, zF, zG, zH, zI, reduceCtorEq]
      all_goals repeat' (first | (apply brB_mk <;> (intro hg; (try simp only [push_cast] at hg))) | (refine ⟨_, _, hB6, ?_⟩; simp only [push_cast, ↓brB_true, ↓brB_false, ↓reduceIte, zA, zB, zC, zD, zE, zF, zG, zH, zI, reduceCtorEq]) | apply And.intro | (intro hg; (try simp only [push_cast] at hg)))
      all_goals first | exact gA | (show HasC (.int .i64) (dI [-1, most, most + 1, _]) _; rw [HasC_dI]; show _ < 4; omega) | skip
      all_goals first | (refine hK9 _ ?_; clear hK9 K9) | (simp only [push_cast]; done)
      all_goals simp only [push_cast, ↓brB_true, ↓brB_false, ↓reduceIte, zA, zB, zC, zD, zE, zF, zG, zH, zI, reduceCtorEq]
      all_goals repeat' (first | (apply brB_mk <;> (intro hg; (try simp only [push_cast] at hg))) | (refine ⟨_, _, hB6, ?_⟩; simp only [push_cast, ↓brB_true, ↓brB_false, ↓reduceIte, zA, zB, zC, zD, zE, zF, zG, zH, zI, reduceCtorEq]) | apply And.intro | (intro hg; (try simp only [push_cast] at hg)))
      all_goals first | exact gA | (show HasC (.int .i64) (dI [-1, most, most + 1, _]) _; rw [HasC_dI]; show _ < 4; omega) | skip
      all_goals first | (refine hK _ ?_; clear hK K) | (simp only [push_cast]; done)
      refine awp_ret ?_
      (try simp only [AThen, ABlk])
      refine ⟨Or.inl rfl, ?_⟩
      simp only [RetB, RetOk, cellsB, resVars, resVar, push_cast, ↓brB_true, ↓brB_false, ↓reduceIte, zA, zB, zC, zD, zE, zF, zG, zH, zI, reduceCtorEq]
      rw [nmV_3 (by with_reducible assumption) (by with_reducible assumption)]
end Go.Proofs.Ytdbecmmeifdafaa

namespace Go.Proofs.Ytdbecmmeifdafaa
open Go.RowKit
set_option linter.unusedVariables false
set_option linter.unusedSimpArgs false

def ilv (ps : List Pr) : List (List Int) := ps.flatMap fun p => [p.ask, p.give]
def gp (ps : List Pr) (k : Nat) : Pr := ps.getD k ⟨[], []⟩
theorem ilv_cons (p : Pr) (ps : List Pr) : ilv (p :: ps) = p.ask :: p.give :: ilv ps := rfl
theorem m2d (n : Nat) : n * 2 / 2 = n := by omega
theorem len_ilv (ps : List Pr) : (ilv ps).length = ps.length * 2 := by
  induction ps with
  | nil => rfl
  | cons p ps ih => rw [ilv_cons, List.length_cons, List.length_cons, ih, List.length_cons]; omega
theorem gl_ilv0 (ps : List Pr) (k : Nat) : gl (ilv ps) (k * 2) = (gp ps k).ask := by
  induction ps generalizing k with
  | nil => rfl
  | cons p ps ih =>
    cases k with
    | zero => rfl
    | succ k => rw [show (k + 1) * 2 = k * 2 + 1 + 1 from by omega, ilv_cons]; exact ih k
theorem gl_ilv1 (ps : List Pr) (k : Nat) : gl (ilv ps) (k * 2 + 1) = (gp ps k).give := by
  induction ps generalizing k with
  | nil => rfl
  | cons p ps ih =>
    cases k with
    | zero => rfl
    | succ k => rw [show (k + 1) * 2 + 1 = k * 2 + 1 + 1 + 1 from by omega, ilv_cons]; exact ih k
theorem gp_lt {ps : List Pr} {k : Nat} (h : k < ps.length) : ps[k]? = some (gp ps k) := by
  unfold gp
  rw [List.getD_eq_getElem?_getD, List.getElem?_eq_getElem h]
  rfl
theorem gp_mem {ps : List Pr} {k : Nat} (h : k < ps.length) : gp ps k ∈ ps := List.mem_of_getElem? (gp_lt h)
attribute [push_cast] m2d len_ilv gl_ilv0 gl_ilv1
theorem ilv_app (ps qs : List Pr) : ilv (ps ++ qs) = ilv ps ++ ilv qs := List.flatMap_append ..
theorem take_ilvA (ps : List Pr) : (ilv ps).take (ps.length * 2) = ilv ps := List.take_of_length_le (by rw [len_ilv]; exact Nat.le_refl _)
attribute [push_cast] take_ilvA
def PLn (B : Nat) (ps : List Pr) : Prop := ps.length ≤ B ∧ ∀ p ∈ ps, p.Ln B
theorem gp_le {B : Nat} {ps : List Pr} (h : PLn B ps) (k : Nat) : (gp ps k).Ln B := by
  rcases Nat.lt_or_ge k ps.length with hk | hk
  · exact h.2 _ (gp_mem hk)
  · unfold gp
    rw [List.getD_eq_getElem?_getD, List.getElem?_eq_none hk]
    exact ⟨Nat.zero_le _, Nat.zero_le _⟩
theorem PLn.mono {B C : Nat} (hB : B ≤ C) {ps : List Pr} (h : PLn B ps) : PLn C ps := ⟨Nat.le_trans h.1 hB, fun p hp => Pr.ln_mono hB (h.2 p hp)⟩
end Go.Proofs.Ytdbecmmeifdafaa

namespace Go.Proofs.Ytdbecmmeifdafaa
open Nat renaming reduceMod → zA, reduceMul → zB, reduceDiv → zC, reduceAdd → zD, reduceSub → zE, reduceEqDiff → zF, reduceBEq → zG, reduceLT → zH, reduceLeDiff → zI
open Go.RowKit
set_option linter.unusedVariables false
set_option linter.unusedSimpArgs false

attribute [-push_cast] rm
theorem ilv_snoc (ps : List Pr) (p : Pr) : ilv (ps ++ [p]) = ilv ps ++ [p.ask, p.give] := by rw [ilv_app]; rfl
theorem dII_snoc2 (xs : List (List Int)) (a b : List Int) : dII (xs ++ [a, b]) = dII xs ++ [DI a, DI b] := by simp [dII]
theorem take_ilvN {ps : List Pr} {t : Nat} (h : ps.length = t) : List.take (t * 2) (ilv ps) = ilv ps := List.take_of_length_le (by rw [len_ilv, h]; exact Nat.le_refl _)
def prs (code : List Int) (j : Nat) : Nat → List Pr
  | 0 => []
  | t + 1 => prs code j t ++ [⟨dS code (j + 12 * t) 6, dS code (j + 12 * t + 6) 6⟩]
theorem prs_0 (code : List Int) (j : Nat) : prs code j 0 = [] := rfl
theorem prs_s (code : List Int) (j t : Nat) : prs code j (t + 1) = prs code j t ++ [⟨dS code (j + 12 * t) 6, dS code (j + 12 * t + 6) 6⟩] := rfl
theorem prs_len (code : List Int) (j : Nat) : ∀ t, (prs code j t).length = t
  | 0 => rfl
  | t + 1 => by rw [prs_s, List.length_append, prs_len code j t]; rfl
theorem prs_mem (code : List Int) (j : Nat) : ∀ t, ∀ p ∈ prs code j t, p.ask.length ≤ 6 ∧ p.give.length ≤ 6
  | 0, p, h => by rw [prs_0] at h; cases h
  | t + 1, p, h => by
    rw [prs_s, List.mem_append, List.mem_singleton] at h
    rcases h with h | rfl
    · exact prs_mem code j t p h
    · exact ⟨dS_le _ _ _, dS_le _ _ _⟩
attribute [irreducible] prs
theorem gp_of {P : Pr → Prop} {ps : List Pr} (h : ∀ p ∈ ps, P p) (h0 : P ⟨[], []⟩) (k : Nat) : P (gp ps k) := by
  rcases Nat.lt_or_ge k ps.length with hk | hk
  · exact h _ (gp_mem hk)
  · unfold gp
    rw [List.getD_eq_getElem?_getD, List.getElem?_eq_none hk]
    exact h0
def dwK (code : List Int) (j : Nat) : Nat := (bl code j 4).toNat
def dwP (code : List Int) (j : Nat) : List Pr :=
  if oc code (j + 1 + 12 * dwK code j) 8 = true ∧ 0 < dwK code j then prs code (j + 1) (dwK code j) ++ [gp (prs code (j + 1) (dwK code j)) 0] else prs code (j + 1) (dwK code j)
def dwJ (code : List Int) (j : Nat) : Nat := j + 1 + 12 * dwK code j + 1
set_option maxRecDepth 20000 in
set_option maxHeartbeats 4000000 in
theorem l16Copy_fn (p : Pr) (ha : p.ask.length ≤ 1048576) (hg : p.give.length ≤ 1048576) : Fn Try.prog tyT 156 [.agg (dPr p)] [.agg (dPr p)] := by
  unfold dPr
  refine Fn_ofR (fn := Try.f156) (rs := [.cell 2 66]) tyOk tyPos Try.func156 (by kernel_rfl) rfl rfl (by rw [Try.ntmps156]; exact Nat.le_of_ble_eq_true rfl) rfl (by simp only [szA, List.mem_cons, List.not_mem_nil, or_false, forall_eq_or_imp, forall_eq, VT.cells, szL]; try decide) ?_
  rw [Try.ntmps156]
  simp only [push_cast, ↓brB_true, ↓brB_false, ↓reduceIte, zA, zB, zC, zD, zE, zF, zG, zH, zI, reduceCtorEq]
  refine awp_seq' fun K hK => ?_
  refine awp_region tyOk tyPos [] rfl ?_
  simp only [push_cast, ↓brB_true, ↓brB_false, ↓reduceIte, zA, zB, zC, zD, zE, zF, zG, zH, zI, reduceCtorEq]
  repeat' apply And.intro
  all_goals try exact gB
  all_goals first | (refine hK _ ?_; clear hK K) | (simp only [push_cast]; done)
  refine awp_seq' fun K hK => ?_
  refine awp_regionD0 false tyOk tyPos tyMix ?_ rfl ?_
  · kernel_rfl
  intro C hC
  simp only [push_cast, ↓brB_true, ↓brB_false, ↓reduceIte, zA, zB, zC, zD, zE, zF, zG, zH, zI, reduceCtorEq]
  repeat' apply And.intro
  all_goals first | omega | with_reducible assumption | (refine hC _ ?_; kernel_rfl) | (simp only [List.length_set, List.length_append, List.length_replicate, List.length_cons, List.length_nil]; omega) | skip
  all_goals first | (refine hK _ ?_; clear hC C hK K) | (simp only [push_cast]; done)
  refine awp_ret ?_
  (try simp only [AThen, ABlk])
  refine ⟨Or.inl rfl, ?_⟩
  simp only [RetOk, resVars, resVar, push_cast, ↓brB_true, ↓brB_false, ↓reduceIte, zA, zB, zC, zD, zE, zF, zG, zH, zI, reduceCtorEq]
  trace_state
set_option maxRecDepth 20000 in
set_option maxHeartbeats 4000000 in
theorem l16Draw_fn (code : List Int) (hby : BytesOk code) (j : Nat) : FnB Try.prog tyT 141 (cSt code j) [.c (.int .i64 6)] (cSt code (dwJ code j)) [.c (.lst 66 (dII (ilv (dwP code j))))] := by
  have hcl := hby.1
  have hr0 := bl_rg code j (n := 4) (by decide)
  have hB0 := cbel_fn code hby j 4 (by decide)
  unfold dwJ dwP
  obtain ⟨K0, hK0⟩ : ∃ n : Nat, dwK code j = n := ⟨_, rfl⟩
  rw [show bl code j 4 = (K0 : Int) from by rw [← hK0]; exact (Int.toNat_of_nonneg hr0.1).symm] at hB0 hr0
  rw [hK0]
  have hB3 := conce_fn code hby (j + 1 + 12 * K0) 8 (by decide)
  have hpl := prs_len code (j + 1)
  refine FnB_of (fn := Try.f141) (rs := [.tmp 4]) tyOk tyPos Try.func141 (by kernel_rfl) rfl rfl (by rw [Try.ntmps141]; exact Nat.le_of_ble_eq_true rfl) rfl (by simp only [szA, List.mem_cons, List.not_mem_nil, or_false, forall_eq_or_imp, forall_eq, false_implies, implies_true, VT.cells, szL]; try decide) (Nat.le_of_ble_eq_true rfl) (by simp only [szL]; decide) (Nat.le_of_ble_eq_true rfl) rfl ?_
  rw [Try.ntmps141]
  simp only [push_cast, ↓brB_true, ↓brB_false, ↓reduceIte, zA, zB, zC, zD, zE, zF, zG, zH, zI, reduceCtorEq]
  refine awp_seq' fun K hK => ?_
  refine awp_region tyOk tyPos [] rfl ?_
  all_goals simp only [push_cast, ↓brB_true, ↓brB_false, ↓reduceIte, zA, zB, zC, zD, zE, zF, zG, zH, zI, reduceCtorEq]
  all_goals repeat' (first | (apply brB_mk <;> (intro hg; (try simp only [push_cast] at hg))) | apply And.intro | (intro hg; (try simp only [push_cast] at hg)))
  all_goals first | exact gA | (exact getE_dII (by rw [len_ilv, hpl]; omega)) | skip
  all_goals first | (refine hK _ ?_; clear hK K) | (simp only [push_cast]; done)
  refine awp_seq' fun K hK => ?_
  refine awp_regionN false tyOk tyPos ?_ rfl ?_
  · kernel_rfl
  simp only [push_cast, ↓brB_true, ↓brB_false, ↓reduceIte, zA, zB, zC, zD, zE, zF, zG, zH, zI, reduceCtorEq]
  all_goals repeat' (first | (apply brB_mk <;> (intro hg; (try simp only [push_cast] at hg))) | apply And.intro | (intro hg; (try simp only [push_cast] at hg)))
  all_goals first | exact gA | (exact getE_dII (by rw [len_ilv, hpl]; omega)) | skip
  all_goals first | (refine hK _ ?_; clear hK K) | (simp only [push_cast]; done)
  refine awp_seq' fun K1 hK1 => ?_
  refine awp_settle 66 5 (Nat.le_of_ble_eq_true rfl) ?_
  simp only [push_cast, ↓brB_true, ↓brB_false, ↓reduceIte, zA, zB, zC, zD, zE, zF, zG, zH, zI, reduceCtorEq]
  refine awp_seq' fun K hK => ?_
  refine awp_regionN false tyOk tyPos ?_ rfl ?_
  · kernel_rfl
  all_goals refine seqE_cut 2 fun K9 hK9 => ?_
  all_goals simp only [push_cast, ↓brB_true, ↓brB_false, ↓reduceIte, zA, zB, zC, zD, zE, zF, zG, zH, zI, reduceCtorEq]
  all_goals repeat' (first | (apply brB_mk <;> (intro hg; (try simp only [push_cast] at hg))) | (refine ⟨_, _, hB0, ?_⟩; simp only [push_cast, ↓brB_true, ↓brB_false, ↓reduceIte, zA, zB, zC, zD, zE, zF, zG, zH, zI, reduceCtorEq]) | apply And.intro | (intro hg; (try simp only [push_cast] at hg)))
  all_goals first | exact gA | (exact getE_dII (by rw [len_ilv, hpl]; omega)) | skip
  all_goals first | (refine hK9 _ ?_; clear hK9 K9) | (simp only [push_cast]; done)
  all_goals simp only [push_cast, ↓brB_true, ↓brB_false, ↓reduceIte, zA, zB, zC, zD, zE, zF, zG, zH, zI, reduceCtorEq]
  all_goals repeat' (first | (apply brB_mk <;> (intro hg; (try simp only [push_cast] at hg))) | (refine ⟨_, _, hB0, ?_⟩; simp only [push_cast, ↓brB_true, ↓brB_false, ↓reduceIte, zA, zB, zC, zD, zE, zF, zG, zH, zI, reduceCtorEq]) | apply And.intro | (intro hg; (try simp only [push_cast] at hg)))
  all_goals first | exact gA | (exact getE_dII (by rw [len_ilv, hpl]; omega)) | skip
  all_goals first | (refine hK _ ?_; clear hK K) | (simp only [push_cast]; done)
  refine awp_block ?_
  refine awp_loopU [5,6,10,11,12,13,14,15,16,17,18,19,20,21,22,23,1000000] [80] (fun (t : Nat) => [(6, .int .i64 ((K0 : Int) - t)), (5, .sl 80 [] 0 t 66)]) (fun t => [(1000000, [.sl 16000000 [] 0 code.length 5, .int .i64 (nI code (j + 1 + 12 * t)), .int .i64 (mH code (j + 1 + 12 * t))])]) (fun t => [(80, ⟨.ex, 66, dII (ilv (prs code (j + 1) t)), none⟩), (16000000, ⟨.sh, 5, dU code, some 16000000⟩)]) (fun t => t ≤ K0) (fun t => K0 - t) 0 ?_ (by omega) ?_
  ·
    rw [prs_0, show dII (ilv []) = [] from rfl]
    refine cov_of rfl ?_ ?_ ?_ <;> simp only [covS, covL, push_cast, ↓brB_true, ↓brB_false, ↓reduceIte, zA, zB, zC, zD, zE, zF, zG, zH, zI, reduceCtorEq]
  · rintro t ht KL0 hL0
    have hplt := hpl t
    simp only [push_cast, ↓brB_true, ↓brB_false, ↓reduceIte, zA, zB, zC, zD, zE, zF, zG, zH, zI, reduceCtorEq]
    refine awp_seq' fun K2 hK2 => ?_
    refine awp_seq' fun K hK => ?_
    refine awp_region tyOk tyPos [] rfl ?_
    all_goals simp only [push_cast, ↓brB_true, ↓brB_false, ↓reduceIte, zA, zB, zC, zD, zE, zF, zG, zH, zI, reduceCtorEq]
    all_goals repeat' (first | (apply brB_mk <;> (intro hg; (try simp only [push_cast] at hg))) | apply And.intro | (intro hg; (try simp only [push_cast] at hg)))
    all_goals first | exact gA | (exact getE_dII (by rw [len_ilv, hpl]; omega)) | skip
    all_goals first | (refine hK _ ?_; clear hK K) | (simp only [push_cast]; done)
    refine awp_cond rfl (fun hc => ?_) (fun hc => ?_) <;> (try simp only [push_cast] at hc)
    ·
      refine awp_skip ?_
      (try simp only [AThen, ABlk, reduceIte, zF]); refine hK2 _ ?_
      refine awp_seq' fun K3 hK3 => ?_
      refine awp_block ?_
      have hB1 := cset_fn code hby (j + 1 + 12 * t) 6 (by decide)
      have hB2 := cset_fn code hby (j + 1 + 12 * t + 6) 6 (by decide)
      have hd1 := dS_le code (j + 1 + 12 * t) 6
      have hd2 := dS_le code (j + 1 + 12 * t + 6) 6
      refine awp_regionN false tyOk tyPos ?_ rfl ?_
      · kernel_rfl
      all_goals refine seqE_cut 4 fun K9 hK9 => ?_
      all_goals simp only [push_cast, ↓brB_true, ↓brB_false, ↓reduceIte, zA, zB, zC, zD, zE, zF, zG, zH, zI, reduceCtorEq]
      all_goals repeat' (first | (apply brB_mk <;> (intro hg; (try simp only [push_cast] at hg))) | (refine ⟨_, _, hB1, ?_⟩; simp only [push_cast, ↓brB_true, ↓brB_false, ↓reduceIte, zA, zB, zC, zD, zE, zF, zG, zH, zI, reduceCtorEq]) | (refine ⟨_, _, hB2, ?_⟩; simp only [push_cast, ↓brB_true, ↓brB_false, ↓reduceIte, zA, zB, zC, zD, zE, zF, zG, zH, zI, reduceCtorEq]) | apply And.intro | (intro hg; (try simp only [push_cast] at hg)))
      all_goals first | exact gA | (exact getE_dII (by rw [len_ilv, hpl]; omega)) | skip
      all_goals first | (refine hK9 _ ?_; clear hK9 K9) | (simp only [push_cast]; done)
      all_goals refine seqE_cut 3 fun K9 hK9 => ?_
      all_goals simp only [push_cast, ↓brB_true, ↓brB_false, ↓reduceIte, zA, zB, zC, zD, zE, zF, zG, zH, zI, reduceCtorEq]
      all_goals repeat' (first | (apply brB_mk <;> (intro hg; (try simp only [push_cast] at hg))) | (refine ⟨_, _, hB1, ?_⟩; simp only [push_cast, ↓brB_true, ↓brB_false, ↓reduceIte, zA, zB, zC, zD, zE, zF, zG, zH, zI, reduceCtorEq]) | (refine ⟨_, _, hB2, ?_⟩; simp only [push_cast, ↓brB_true, ↓brB_false, ↓reduceIte, zA, zB, zC, zD, zE, zF, zG, zH, zI, reduceCtorEq]) | apply And.intro | (intro hg; (try simp only [push_cast] at hg)))
      all_goals first | exact gA | (exact getE_dII (by rw [len_ilv, hpl]; omega)) | skip
      all_goals first | (refine hK9 _ ?_; clear hK9 K9) | (simp only [push_cast]; done)
      all_goals simp only [push_cast, ↓brB_true, ↓brB_false, ↓reduceIte, zA, zB, zC, zD, zE, zF, zG, zH, zI, reduceCtorEq]
      all_goals repeat' (first | (apply brB_mk <;> (intro hg; (try simp only [push_cast] at hg))) | (refine ⟨_, _, hB1, ?_⟩; simp only [push_cast, ↓brB_true, ↓brB_false, ↓reduceIte, zA, zB, zC, zD, zE, zF, zG, zH, zI, reduceCtorEq]) | (refine ⟨_, _, hB2, ?_⟩; simp only [push_cast, ↓brB_true, ↓brB_false, ↓reduceIte, zA, zB, zC, zD, zE, zF, zG, zH, zI, reduceCtorEq]) | apply And.intro | (intro hg; (try simp only [push_cast] at hg)))
      all_goals first | exact gA | (exact getE_dII (by rw [len_ilv, hpl]; omega)) | skip
      (try simp only [AThen, ABlk, reduceIte, zF]); refine hK3 _ ?_
      refine awp_settle 66 5 (Nat.le_of_ble_eq_true rfl) ?_
      simp only [push_cast, ↓brB_true, ↓brB_false, ↓reduceIte, zA, zB, zC, zD, zE, zF, zG, zH, zI, reduceCtorEq]
      refine awp_region tyOk tyPos [] rfl ?_
      all_goals simp only [push_cast, ↓brB_true, ↓brB_false, ↓reduceIte, zA, zB, zC, zD, zE, zF, zG, zH, zI, reduceCtorEq]
      all_goals repeat' (first | (apply brB_mk <;> (intro hg; (try simp only [push_cast] at hg))) | apply And.intro | (intro hg; (try simp only [push_cast] at hg)))
      all_goals first | exact gA | (exact getE_dII (by rw [len_ilv, hpl]; omega)) | skip
      refine hL0 _ ⟨t + 1, by omega, by omega, ?_⟩
      rw [prs_s, ilv_snoc, dII_snoc2]
      (try rw [take_ilvN (hpl t)])
      refine cov_of rfl ?_ ?_ ?_ <;> simp only [covS, covL, push_cast, ↓brB_true, ↓brB_false, ↓reduceIte, zA, zB, zC, zD, zE, zF, zG, zH, zI, reduceCtorEq]
      all_goals first | (refine congrArg (AV.int .i64) ?_; omega) | exact ⟨by refine congrArg (AV.int .i64) ?_; omega, rfl⟩ | exact rfl | skip
    ·
      refine awp_exit ?_
      have htt : K0 = t := by omega
      subst htt
      (try simp only [AThen, ABlk, reduceIte, zF]); refine hK1 _ ?_
      refine awp_seq' fun K4 hK4 => ?_
      refine awp_seq' fun K hK => ?_
      refine awp_regionN false tyOk tyPos ?_ rfl ?_
      · kernel_rfl
      all_goals refine seqE_cut 2 fun K9 hK9 => ?_
      all_goals simp only [push_cast, ↓brB_true, ↓brB_false, ↓reduceIte, zA, zB, zC, zD, zE, zF, zG, zH, zI, reduceCtorEq]
      all_goals repeat' (first | (apply brB_mk <;> (intro hg; (try simp only [push_cast] at hg))) | (refine ⟨_, _, hB3, ?_⟩; simp only [push_cast, ↓brB_true, ↓brB_false, ↓reduceIte, zA, zB, zC, zD, zE, zF, zG, zH, zI, reduceCtorEq]) | apply And.intro | (intro hg; (try simp only [push_cast] at hg)))
      all_goals first | exact gA | (exact getE_dII (by rw [len_ilv, hpl]; omega)) | skip
      all_goals first | (refine hK9 _ ?_; clear hK9 K9) | (simp only [push_cast]; done)
      all_goals simp only [push_cast, ↓brB_true, ↓brB_false, ↓reduceIte, zA, zB, zC, zD, zE, zF, zG, zH, zI, reduceCtorEq]
      all_goals repeat' (first | (apply brB_mk <;> (intro hg; (try simp only [push_cast] at hg))) | (refine ⟨_, _, hB3, ?_⟩; simp only [push_cast, ↓brB_true, ↓brB_false, ↓reduceIte, zA, zB, zC, zD, zE, zF, zG, zH, zI, reduceCtorEq]) | apply And.intro | (intro hg; (try simp only [push_cast] at hg)))
      all_goals first | exact gA | (exact getE_dII (by rw [len_ilv, hpl]; omega)) | skip
      all_goals first | (refine hK _ ?_; clear hK K) | (simp only [push_cast]; done)
      all_goals refine awp_cond rfl (fun hc => ?_) (fun hc => ?_)
      all_goals (first | (cases hc; done) | skip)
      all_goals (try simp only [push_cast] at hc)
      all_goals first
        | (
            refine awp_skip ?_
            (try simp only [AThen, ABlk, reduceIte, zF]); refine hK4 _ ?_
            refine awp_settle 66 5 (Nat.le_of_ble_eq_true rfl) ?_
            simp only [push_cast, ↓brB_true, ↓brB_false, ↓reduceIte, zA, zB, zC, zD, zE, zF, zG, zH, zI, reduceCtorEq]
            refine awp_seq' fun K hK => ?_
            refine awp_region tyOk tyPos [] rfl ?_
            all_goals simp only [push_cast, ↓brB_true, ↓brB_false, ↓reduceIte, zA, zB, zC, zD, zE, zF, zG, zH, zI, reduceCtorEq]
            all_goals repeat' (first | (apply brB_mk <;> (intro hg; (try simp only [push_cast] at hg))) | apply And.intro | (intro hg; (try simp only [push_cast] at hg)))
            all_goals first | exact gA | (exact getE_dII (by rw [len_ilv, hpl]; omega)) | skip
            all_goals first | (refine hK _ ?_; clear hK K) | (simp only [push_cast]; done)
            refine awp_ret ?_
            (try simp only [AThen, ABlk])
            refine ⟨Or.inl rfl, ?_⟩
            simp only [RetB, RetOk, cellsB, resVars, resVar, push_cast, ↓brB_true, ↓brB_false, ↓reduceIte, zA, zB, zC, zD, zE, zF, zG, zH, zI, reduceCtorEq]
            all_goals first | (rw [if_neg (by rintro ⟨h8, h9⟩; first | omega | exact absurd (hg.symm.trans h8) (by decide))]; exact ⟨rfl, by omega⟩) | (rw [if_pos ⟨by with_reducible assumption, by omega⟩, ilv_snoc, dII_snoc2, take_ilvN (hpl K0), e0, e1]; exact ⟨rfl, by rw [List.length_append, hpl]; rfl⟩) | skip
            done)
        | (
            have hg0 := gp_of (P := fun p => p.ask.length ≤ 6 ∧ p.give.length ≤ 6) (prs_mem code (j + 1) K0) ⟨by decide, by decide⟩ 0
            have hC := l16Copy_fn (gp (prs code (j + 1) K0) 0) (by omega) (by omega)
            have e0 : gl (ilv (prs code (j + 1) K0)) 0 = (gp (prs code (j + 1) K0) 0).ask := gl_ilv0 _ 0
            have e1 : gl (ilv (prs code (j + 1) K0)) 1 = (gp (prs code (j + 1) K0) 0).give := gl_ilv1 _ 0
            unfold dPr at hC
            rw [← e0, ← e1] at hC hg0
            refine awp_regionN false tyOk tyPos ?_ rfl ?_
            · kernel_rfl
            all_goals refine seqE_cut 5 fun K9 hK9 => ?_
            all_goals simp only [push_cast, ↓brB_true, ↓brB_false, ↓reduceIte, zA, zB, zC, zD, zE, zF, zG, zH, zI, reduceCtorEq]
            all_goals repeat' (first | (apply brB_mk <;> (intro hg; (try simp only [push_cast] at hg))) | (refine ⟨_, hC, ?_⟩; simp only [push_cast, ↓brB_true, ↓brB_false, ↓reduceIte, zA, zB, zC, zD, zE, zF, zG, zH, zI, reduceCtorEq]) | apply And.intro | (intro hg; (try simp only [push_cast] at hg)))
            all_goals first | exact gA | (exact getE_dII (by rw [len_ilv, hpl]; omega)) | skip
            all_goals first | (refine hK9 _ ?_; clear hK9 K9) | (simp only [push_cast]; done)
            all_goals simp only [push_cast, ↓brB_true, ↓brB_false, ↓reduceIte, zA, zB, zC, zD, zE, zF, zG, zH, zI, reduceCtorEq]
            all_goals repeat' (first | (apply brB_mk <;> (intro hg; (try simp only [push_cast] at hg))) | (refine ⟨_, hC, ?_⟩; simp only [push_cast, ↓brB_true, ↓brB_false, ↓reduceIte, zA, zB, zC, zD, zE, zF, zG, zH, zI, reduceCtorEq]) | apply And.intro | (intro hg; (try simp only [push_cast] at hg)))
            all_goals first | exact gA | (exact getE_dII (by rw [len_ilv, hpl]; omega)) | skip
            (try simp only [AThen, ABlk, reduceIte, zF]); refine hK4 _ ?_
            refine awp_settle 66 5 (Nat.le_of_ble_eq_true rfl) ?_
            simp only [push_cast, ↓brB_true, ↓brB_false, ↓reduceIte, zA, zB, zC, zD, zE, zF, zG, zH, zI, reduceCtorEq]
            refine awp_seq' fun K hK => ?_
            refine awp_region tyOk tyPos [] rfl ?_
            all_goals simp only [push_cast, ↓brB_true, ↓brB_false, ↓reduceIte, zA, zB, zC, zD, zE, zF, zG, zH, zI, reduceCtorEq]
            all_goals repeat' (first | (apply brB_mk <;> (intro hg; (try simp only [push_cast] at hg))) | apply And.intro | (intro hg; (try simp only [push_cast] at hg)))
            all_goals first | exact gA | (exact getE_dII (by rw [len_ilv, hpl]; omega)) | skip
            all_goals first | (refine hK _ ?_; clear hK K) | (simp only [push_cast]; done)
            refine awp_ret ?_
            (try simp only [AThen, ABlk])
            refine ⟨Or.inl rfl, ?_⟩
            simp only [RetB, RetOk, cellsB, resVars, resVar, push_cast, ↓brB_true, ↓brB_false, ↓reduceIte, zA, zB, zC, zD, zE, zF, zG, zH, zI, reduceCtorEq]
            all_goals first | (rw [if_neg (by rintro ⟨h8, h9⟩; first | omega | exact absurd (hg.symm.trans h8) (by decide))]; exact ⟨rfl, by omega⟩) | (rw [if_pos ⟨by with_reducible assumption, by omega⟩, ilv_snoc, dII_snoc2, take_ilvN (hpl K0), e0, e1]; exact ⟨rfl, by rw [List.length_append, hpl]; rfl⟩) | skip
            done)
end Go.Proofs.Ytdbecmmeifdafaa
