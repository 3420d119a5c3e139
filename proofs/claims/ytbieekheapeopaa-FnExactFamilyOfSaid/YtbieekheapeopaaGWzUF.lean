/- Plain lemmas that all walks of this seat use: endings, old memory below a block number, bounds tests. No program. -/
import Derived.WalkKit
import Derived.ProofKit
import Derived.OpenShut
import Derived.Lib.Hide
import Derived.Lib.SmallJoins
import Derived.Deep.QuietTactic
import Derived.BigQuiet
import Derived.RegionTactic
import Derived.ChangeAlike
import Derived.StillTailTactics
import Derived.Test.YtbieekheapeopaaGDzUF
namespace Go.Proofs.Ytbieekheapeopaa
open Nat renaming reduceMod → zA, reduceMul → zB, reduceDiv → zC, reduceAdd → zD, reduceSub → zE, reduceEqDiff → zF, reduceBEq → zG, reduceLT → zH, reduceLeDiff → zI
open Go.ChangeShapes Go.WideShapes Go.ChangeAt Go.RowKit

section
variable {H : Type} {enc : TypeId × Value → H} {P : Program}
/-- The row's last step where of the call's end 'Below' is known (after the kit's extra-small.md, 9). -/
theorem post_of_below {f : Func} {s : ChangeSpec} {apart fresh handsOn again : Bool} {W W' : World} {args : Array Value} {v : Value} {ds gs : List (DataW H)} {before pa pv : List MemPlace}
    (hW : DataW.Whole enc P f.params.toList s.vars apart W args.toList ds gs before)
    (hres : ∀ (b : Nat) (sp : Nat → Bool) (hd : Bool), DataW.TrodAll enc P W' b sp hd f.resultTypes.toList (v.resultList f.resultTypes.size) (s.fn H (ds ++ gs)).results [])
    (hargs : ∀ sp : Nat → Bool, (∀ p ∈ before, sp p.block = true) → DataW.TrodAll enc P W' 0 sp true f.params.toList args.toList (s.fn H (ds ++ gs)).args pa)
    (hvars : ∀ sp : Nat → Bool, (∀ p ∈ before, sp p.block = true) → DataW.TrodVars enc P W' sp s.vars (s.fn H (ds ++ gs)).vars pv)
    (hps : before = pa ++ pv) (hb : Below W.heap.size W W')
    (hok : ∀ (j : Nat) (t : TypeId) (r : Value), f.resultTypes[j]? = some t → (v.resultList f.resultTypes.size)[j]? = some r → Value.okWide P W' .any 0 t r) :
    s.post enc P f apart fresh handsOn again W args v W' := by
  have hlt : ∀ p ∈ before, p.block < W.heap.size := fun p hp => hW.lt p hp
  have hold : ∀ p ∈ before, (fun b => decide (b < W.heap.size)) p.block = true := fun p hp => by simpa using hlt p hp
  refine ⟨ds, gs, before, [], pa, pv, hW, hres _ _ _, hargs _ hold, hvars _ hold, World.keptBut_mono (fun p hp => ⟨hp, ?_⟩) (hb.frame (· ∈ before)), fun _ => ?_⟩
  · rw [hps, List.mem_append] at hp
    exact Or.inr hp
  · obtain ⟨_, _, _, _, _, hz, hn⟩ := hW
    refine ⟨hok, _, _, ([] ++ pa) ++ pv, ⟨[] ++ pa, pv, trodAll_append (hargs _ (fun _ _ => rfl)) (hres _ _ _), hvars _ (fun _ _ => rfl), rfl, ?_, ?_⟩, ?_⟩
    · intro b off hp
      have hin : MemPlace.cell b off ∈ before := by rw [hps]; simpa using hp
      rw [hb.frozen (hlt _ hin)]
      exact hz b off hin
    · intro ha
      have := hn ha
      rw [hps] at this
      simpa using this
    · intro p hp _
      rw [hps]
      simpa using hp

theorem stay_all (hl : laidOutB P = true) {W W' : World} {sp : Nat → Bool} (hb : Below W.heap.size W W') : ∀ (ts : List TypeId) (vs : List Value) (ds : List (DataW H)) (ps : List MemPlace),
    (∀ t ∈ ts, P.readableRec t = true ∧ t < P.types.size) → DataW.TrodAll enc P W 0 (fun _ => true) true ts vs ds ps → (∀ x ∈ ps, x.block < W.heap.size) → (∀ x ∈ ps, sp x.block = true) → DataW.TrodAll enc P W' 0 sp true ts vs ds ps
  | [], vs, ds, ps, _, h, _, _ => by
    obtain ⟨rfl, rfl, rfl⟩ := trodAll_nil h
    exact trodAll_mk0
  | t :: ts, vs, ds, ps, ht, h, hlt, hs => by
    obtain ⟨v, vs', d, ds', p, q, rfl, rfl, rfl, h0, h1⟩ := trodAll_cons h
    have ht0 := ht t (by simp)
    exact trodAll_cons_mk (WideElems.Trod_stays hl ht0.1 ht0.2 h0 (fun x hx => hb.same (hlt x (by simp [hx]))) (fun x hx => hs x (by simp [hx])))
      (stay_all hl hb ts vs' ds' q (fun u hu => ht u (by simp [hu])) h1 (fun x hx => hlt x (by simp [hx])) (fun x hx => hs x (by simp [hx])))

/-- The row's last step of a law: the call has answered true, and below the first new block all is as it was. -/
theorem law_post {f : Func} {s : ChangeSpec} {fresh handsOn again : Bool} {tb : TypeId} {W W' : World} {args : Array Value} {ds gs : List (DataW H)} {before : List MemPlace}
    (hl : laidOutB P = true) (hts : ∀ t ∈ f.params.toList, P.readableRec t = true ∧ t < P.types.size) (hr : f.resultTypes = #[tb]) (htb : P.underlying tb = some .bool) (hv : s.vars = [])
    (hW : DataW.Whole enc P f.params.toList s.vars false W args.toList ds gs before) (hs1 : (s.fn H (ds ++ gs)).results = [.lit (.bool true)]) (hs2 : (s.fn H (ds ++ gs)).args = ds)
    (hs3 : (s.fn H (ds ++ gs)).vars = []) (hb : Below W.heap.size W W') (hk : ∀ W' : World, Value.okWide P W' .any 0 tb (.bool true)) : s.post enc P f false fresh handsOn again W args (.bool true) W' := by
  have hW0 := hW
  obtain ⟨p, q, hA, hV, rfl, hfz, hnd⟩ := hW
  rw [hv] at hV
  obtain ⟨rfl, rfl⟩ := trodVars_none hV
  have hlt : ∀ x ∈ p, x.block < W.heap.size := fun x hx => hW0.lt x (by simp [hx])
  refine post_of_below (pa := p) (pv := []) hW0 (fun b sp hd => ?_) (fun sp hs => ?_) (fun sp _ => ?_) rfl hb ?_
  · rw [hs1, hr]
    exact trodAll_mk1 (shut_bool htb true)
  · rw [hs2]
    exact stay_all hl hb _ _ _ _ hts hA hlt (fun x hx => hs x (by simp [hx]))
  · rw [hs3, hv]
    rfl
  · intro j t r hj hrj
    rw [hr] at hj hrj
    have : j = 0 := by
      rcases Nat.eq_zero_or_pos j with h | h
      · exact h
      · rw [Array.getElem?_eq_none (by simp; omega)] at hj; cases hj
    subst this
    simp [Value.resultList] at hj hrj
    subst hj; subst hrj
    exact hk _
end
end Go.Proofs.Ytbieekheapeopaa

/- Plain laws on arenas, weighted arenas, lassos: no program. -/
namespace Go.Proofs.Ytbieekheapeopaa
open Nat renaming reduceMod → zA, reduceMul → zB, reduceDiv → zC, reduceAdd → zD, reduceSub → zE, reduceEqDiff → zF, reduceBEq → zG, reduceLT → zH, reduceLeDiff → zI
open Go.RowKit
set_option linter.unusedVariables false
set_option linter.unusedSimpArgs false

def allB (n : Nat) (p : Nat → Bool) : Bool := (List.range n).all p
theorem allB_true {n : Nat} {p : Nat → Bool} (h : ∀ k, k < n → p k = true) : allB n p = true := by
  unfold allB; rw [List.all_eq_true]; intro k hk; exact h k (List.mem_range.1 hk)
theorem allB_false {n k : Nat} {p : Nat → Bool} (hk : k < n) (h : p k = false) : allB n p = false := by
  unfold allB; rw [List.all_eq_false]; exact ⟨k, List.mem_range.2 hk, by simp [h]⟩
theorem allB_at {n k : Nat} {p : Nat → Bool} (h : allB n p = true) (hk : k < n) : p k = true := by
  unfold allB at h; rw [List.all_eq_true] at h; exact h k (List.mem_range.2 hk)
def riseAt (xs : List Int) (n : Int) (k : Nat) : Bool := decide (0 ≤ gi xs k ∧ gi xs k < n ∧ (k = 0 ∨ gi xs (k - 1) < gi xs k))
def isSetB (xs : List Int) (n : Int) : Bool := allB xs.length (riseAt xs n)
theorem set_ge {xs : List Int} {n : Int} (h : isSetB xs n = true) : ∀ k, k < xs.length → (k : Int) ≤ gi xs k := by
  intro k
  induction k with
  | zero =>
    intro hk
    have := allB_at h hk
    unfold riseAt at this
    have := of_decide_eq_true this
    omega
  | succ k ih =>
    intro hk
    have h1 := ih (by omega)
    have := allB_at h hk
    unfold riseAt at this
    have := of_decide_eq_true this
    simp at this
    omega
theorem set_len {xs : List Int} {n : Int} (h : isSetB xs n = true) (h0 : 0 ≤ n) : (xs.length : Int) ≤ n := by
  rcases Nat.eq_zero_or_pos xs.length with h1 | h1
  · omega
  · have h2 := set_ge h (xs.length - 1) (by omega)
    have h3 := allB_at h (k := xs.length - 1) (by omega)
    unfold riseAt at h3
    have h3 := of_decide_eq_true h3
    omega
/-- The first place of x in xs, the length where there is none. -/
def fidx (xs : List Int) (x : Int) : Nat := xs.findIdx (fun y => y == x)
def hasB (xs : List Int) (x : Int) : Bool := decide (fidx xs x < xs.length)
theorem fidx_at {xs : List Int} {x : Int} {k : Nat} (hk : k < xs.length) (h : ∀ j, j < k → ¬ gi xs j = x) (he : gi xs k = x) : fidx xs x = k := by
  unfold fidx
  rw [List.findIdx_eq hk]
  have hg : ∀ j (hj : j < xs.length), xs[j] = gi xs j := fun j hj => by unfold gi; rw [List.getD_eq_getElem?_getD, List.getElem?_eq_getElem hj]; rfl
  refine ⟨by rw [hg, he]; simp, fun j hj => ?_⟩
  rw [hg]
  simpa using h j hj
theorem fidx_none {xs : List Int} {x : Int} (h : ∀ j, j < xs.length → ¬ gi xs j = x) : fidx xs x = xs.length := by
  unfold fidx
  rw [List.findIdx_eq_length]
  intro y hy
  obtain ⟨j, hj, rfl⟩ := List.mem_iff_getElem.1 hy
  have := h j hj
  unfold gi at this
  rw [List.getD_eq_getElem?_getD, List.getElem?_eq_getElem hj] at this
  simpa using this
theorem hasB_iff (xs : List Int) (x : Int) : hasB xs x = true ↔ x ∈ xs := by
  unfold hasB
  rw [decide_eq_true_eq]
  unfold fidx
  rw [List.findIdx_lt_length]
  constructor
  · rintro ⟨y, hy, he⟩
    have : y = x := by simpa using he
    exact this ▸ hy
  · exact fun h => ⟨x, h, by simp⟩
/-- A valid weighted arena whose costs are at most bd away from 0. -/
structure WOk (a : Wt) (bd : Int) : Prop where
  n1 : 1 ≤ a.a.owner.length
  n24 : a.a.owner.length ≤ 24
  next : a.a.next.length = a.a.owner.length
  cost : a.cost.length = a.a.owner.length
  own : ∀ v, v < a.a.owner.length → 0 ≤ gi a.a.owner v ∧ gi a.a.owner v ≤ 1
  deg : ∀ v, v < a.a.owner.length → 1 ≤ (gl a.a.next v).length ∧ (gl a.a.next v).length ≤ 16
  set_ : ∀ v, v < a.a.owner.length → isSetB (gl a.a.next v) a.a.owner.length = true
  row : ∀ v, v < a.a.owner.length → (gl a.cost v).length = (gl a.a.next v).length
  bd : ∀ v k, v < a.a.owner.length → k < (gl a.cost v).length → -bd ≤ gi (gl a.cost v) k ∧ gi (gl a.cost v) k ≤ bd
def stepCost (a : Wt) (v : Nat) (u : Int) : Int := gi (gl a.cost v) (fidx (gl a.a.next v) u)
end Go.Proofs.Ytbieekheapeopaa

/- small functions of both sides -/
namespace Go.Proofs.Ytbieekheapeopaa
open Nat renaming reduceMod → zA, reduceMul → zB, reduceDiv → zC, reduceAdd → zD, reduceSub → zE, reduceEqDiff → zF, reduceBEq → zG, reduceLT → zH, reduceLeDiff → zI
open Go.RowKit
set_option linter.unusedVariables false
set_option linter.unusedSimpArgs false

set_option maxHeartbeats 1000000 in
theorem l1In_fn (x lo hi : Int) : Fn Try.prog tyT 77 [.c (.int .i64 x), .c (.int .i64 lo), .c (.int .i64 hi)] [.c (.bool (decide (lo ≤ x ∧ x ≤ hi)))] := by
  refine Fn_of (fn := Try.f77) (ts := [6]) Try.func77 (by kernel_rfl) rfl rfl (by rw [Try.ntmps77]; exact Nat.le_of_ble_eq_true rfl) rfl (by simp only [szA, List.mem_cons, List.not_mem_nil, or_false, forall_eq_or_imp, forall_eq, VT.cells, szL]; try decide) ?_
  rw [Try.ntmps77]
  simp only [push_cast, ↓brB_true, ↓brB_false, ↓reduceIte, zA, zB, zC, zD, zE, zF, zG, zH, zI, reduceCtorEq]
  refine awp_seq' fun K hK => ?_
  refine awp_region tyOk tyPos [] rfl ?_
  simp only [push_cast, ↓brB_true, ↓brB_false, ↓reduceIte, zA, zB, zC, zD, zE, zF, zG, zH, zI, reduceCtorEq]
  repeat' apply And.intro
  all_goals first | exact True.intro | exact rfl | omega | with_reducible assumption | (simp only [List.length_set, List.length_append, List.length_replicate, List.length_cons, List.length_nil]; omega) | skip
  all_goals first | (refine hK _ ?_; clear hK K) | (simp only [push_cast]; done)
  refine awp_seq' fun K hK => ?_
  refine awp_regionN false tyOk tyPos ?_ rfl ?_
  · kernel_rfl
  simp only [push_cast, ↓brB_true, ↓brB_false, ↓reduceIte, zA, zB, zC, zD, zE, zF, zG, zH, zI, reduceCtorEq]
  repeat' (first | (apply brB_mk <;> (intro hg; (try simp only [push_cast] at hg))) | apply And.intro | (intro hg; (try simp only [push_cast] at hg)))
  all_goals first | exact True.intro | exact rfl | contradiction | omega | with_reducible assumption | skip
  all_goals (refine hK _ ?_; clear hK K)
  all_goals refine awp_ret ?_
  all_goals (try simp only [AThen, ABlk])
  all_goals refine ⟨Or.inl rfl, ?_⟩
  all_goals simp only [RetOk, push_cast, ↓brB_true, ↓brB_false, ↓reduceIte, zA, zB, zC, zD, zE, zF, zG, zH, zI, reduceCtorEq]
  · rw [decide_eq_decide]; omega
  · symm; rw [decide_eq_false_iff_not]; omega
set_option maxHeartbeats 2000000 in
theorem isSet_fn (xs : List Int) (n : Int) (hl : xs.length ≤ 1048576) : Fn Try.prog tyT 86 [.c (DI xs), .c (.int .i64 n)] [.c (.bool (isSetB xs n))] := by
  refine Fn_of (fn := Try.f86) (ts := [4]) Try.func86 (by kernel_rfl) rfl rfl (by rw [Try.ntmps86]; exact Nat.le_of_ble_eq_true rfl) rfl (by simp only [szA, List.mem_cons, List.not_mem_nil, or_false, forall_eq_or_imp, forall_eq, VT.cells, szL]; try decide) ?_
  rw [Try.ntmps86]
  simp only [push_cast, ↓brB_true, ↓brB_false, ↓reduceIte, zA, zB, zC, zD, zE, zF, zG, zH, zI, reduceCtorEq]
  refine awp_seq' fun K hK => ?_
  refine awp_region tyOk tyPos [] rfl ?_
  simp only [push_cast, ↓brB_true, ↓brB_false, ↓reduceIte, zA, zB, zC, zD, zE, zF, zG, zH, zI, reduceCtorEq]
  repeat' apply And.intro
  all_goals first | exact True.intro | exact rfl | omega | with_reducible assumption | (simp only [List.length_set, List.length_append, List.length_replicate, List.length_cons, List.length_nil]; omega) | skip
  all_goals first | (refine hK _ ?_; clear hK K) | (simp only [push_cast]; done)
  refine awp_seq' fun K1 hK1 => ?_
  refine awp_seq' fun K hK => ?_
  refine awp_region tyOk tyPos [] rfl ?_
  simp only [push_cast, ↓brB_true, ↓brB_false, ↓reduceIte, zA, zB, zC, zD, zE, zF, zG, zH, zI, reduceCtorEq]
  repeat' apply And.intro
  all_goals first | exact True.intro | exact rfl | omega | with_reducible assumption | (simp only [List.length_set, List.length_append, List.length_replicate, List.length_cons, List.length_nil]; omega) | skip
  all_goals first | (refine hK _ ?_; clear hK K) | (simp only [push_cast]; done)
  refine awp_block ?_
  refine awp_loopU [4,5,6,9,10,11,12,13,14,15,16,17,18,19,20,21,22,23,24,25,26,27,28,29,30,31,32,33,34] [] (fun k : Nat => [(9, .int .i64 k)]) (fun _ => []) (fun k => []) (fun k => k ≤ xs.length ∧ ∀ j, j < k → riseAt xs n j = true) (fun k => xs.length - k) 0 ?_ ⟨by omega, fun j hj => by omega⟩ ?_
  · refine cov_of rfl ?_ ?_ ?_ <;> simp only [covS, covL, push_cast, ↓brB_true, ↓brB_false, ↓reduceIte, zA, zB, zC, zD, zE, zF, zG, zH, zI, reduceCtorEq]
  · rintro k ⟨hk, hall⟩ K0 hK0
    simp only [push_cast, ↓brB_true, ↓brB_false, ↓reduceIte, zA, zB, zC, zD, zE, zF, zG, zH, zI, reduceCtorEq]
    refine awp_seq' fun K hK => ?_
    refine awp_region tyOk tyPos [] rfl ?_
    simp only [push_cast, ↓brB_true, ↓brB_false, ↓reduceIte, zA, zB, zC, zD, zE, zF, zG, zH, zI, reduceCtorEq]
    repeat' apply And.intro
    all_goals first | exact True.intro | exact rfl | omega | with_reducible assumption | (simp only [List.length_set, List.length_append, List.length_replicate, List.length_cons, List.length_nil]; omega) | skip
    all_goals first | (refine hK _ ?_; clear hK K) | (simp only [push_cast]; done)
    refine awp_seq' fun K2 hK2 => ?_
    refine awp_cond rfl (fun hc => ?_) (fun hc => ?_) <;> (try simp only [push_cast] at hc)
    · refine awp_skip ?_
      (try simp only [AThen, ABlk, reduceIte, zF]); refine hK2 _ ?_
      refine awp_seq' fun K3 hK3 => ?_
      refine awp_block ?_
      refine awp_seq' fun K hK => ?_
      refine awp_region tyOk tyPos [] rfl ?_
      simp only [push_cast, ↓brB_true, ↓brB_false, ↓reduceIte, zA, zB, zC, zD, zE, zF, zG, zH, zI, reduceCtorEq]
      repeat' apply And.intro
      all_goals first | exact True.intro | exact rfl | omega | with_reducible assumption | (simp only [List.length_set, List.length_append, List.length_replicate, List.length_cons, List.length_nil]; omega) | skip
      all_goals first | (refine hK _ ?_; clear hK K) | (simp only [push_cast]; done)
      refine awp_seq' fun K hK => ?_
      refine awp_regionN false tyOk tyPos ?_ rfl ?_
      · kernel_rfl
      simp only [push_cast, ↓brB_true, ↓brB_false, ↓reduceIte, zA, zB, zC, zD, zE, zF, zG, zH, zI, reduceCtorEq]
      repeat' (first | (apply brB_mk <;> (intro hg; (try simp only [push_cast] at hg))) | apply And.intro | (intro hg; (try simp only [push_cast] at hg)))
      all_goals first | exact True.intro | exact rfl | contradiction | omega | with_reducible assumption | skip
      all_goals (refine hK _ ?_; clear hK K)
      all_goals refine awp_cond rfl (fun hc => ?_) (fun hc => ?_)
      all_goals (first | (cases hc; done) | skip)
      all_goals (try simp only [push_cast] at hc)
      all_goals first
        | (refine awp_skip ?_
           (try simp only [AThen, ABlk, reduceIte, zF]); refine hK3 _ ?_
           refine awp_region tyOk tyPos [] rfl ?_
           simp only [push_cast, ↓brB_true, ↓brB_false, ↓reduceIte, zA, zB, zC, zD, zE, zF, zG, zH, zI, reduceCtorEq]
           repeat' apply And.intro
           all_goals first | exact True.intro | exact rfl | omega | with_reducible assumption | (simp only [List.length_set, List.length_append, List.length_replicate, List.length_cons, List.length_nil]; omega) | skip
           refine hK0 _ ⟨k + 1, ⟨by omega, fun j hj => ?_⟩, by omega, ?_⟩
           · by_cases hjk : j = k
             · subst hjk; unfold riseAt; rw [decide_eq_true_eq]; omega
             · exact hall j (by omega)
           · refine cov_of rfl ?_ ?_ ?_ <;> simp only [covS, covL, push_cast, ↓brB_true, ↓brB_false, ↓reduceIte, zA, zB, zC, zD, zE, zF, zG, zH, zI, reduceCtorEq])
        | (skip
           refine awp_seq' fun K hK => ?_
           refine awp_region tyOk tyPos [] rfl ?_
           simp only [push_cast, ↓brB_true, ↓brB_false, ↓reduceIte, zA, zB, zC, zD, zE, zF, zG, zH, zI, reduceCtorEq]
           repeat' apply And.intro
           all_goals first | exact True.intro | exact rfl | omega | with_reducible assumption | (simp only [List.length_set, List.length_append, List.length_replicate, List.length_cons, List.length_nil]; omega) | skip
           all_goals first | (refine hK _ ?_; clear hK K) | (simp only [push_cast]; done)
           refine awp_ret ?_
           (try simp only [AThen, ABlk])
           refine ⟨Or.inl rfl, ?_⟩
           simp only [RetOk, push_cast, ↓brB_true, ↓brB_false, ↓reduceIte, zA, zB, zC, zD, zE, zF, zG, zH, zI, reduceCtorEq]
           symm
           refine allB_false (k := k) (by omega) ?_
           unfold riseAt; rw [decide_eq_false_iff_not]; omega)
    · refine awp_exit ?_
      (try simp only [AThen, ABlk, reduceIte, zF]); refine hK1 _ ?_
      refine awp_seq' fun K hK => ?_
      refine awp_region tyOk tyPos [] rfl ?_
      simp only [push_cast, ↓brB_true, ↓brB_false, ↓reduceIte, zA, zB, zC, zD, zE, zF, zG, zH, zI, reduceCtorEq]
      repeat' apply And.intro
      all_goals first | exact True.intro | exact rfl | omega | with_reducible assumption | (simp only [List.length_set, List.length_append, List.length_replicate, List.length_cons, List.length_nil]; omega) | skip
      all_goals first | (refine hK _ ?_; clear hK K) | (simp only [push_cast]; done)
      refine awp_ret ?_
      (try simp only [AThen, ABlk])
      refine ⟨Or.inl rfl, ?_⟩
      simp only [RetOk, push_cast, ↓brB_true, ↓brB_false, ↓reduceIte, zA, zB, zC, zD, zE, zF, zG, zH, zI, reduceCtorEq]
      symm
      exact allB_true fun j hj => hall j (by omega)
set_option maxHeartbeats 2000000 in
theorem l1Rises_fn (xs : List Int) (n : Int) (hl : xs.length ≤ 1048576) (h0 : -9223372036854775807 ≤ n) (h1 : n ≤ 9223372036854775807) : Fn Try.prog tyT 156 [.c (DI xs), .c (.int .i64 n)] [.c (.bool (isSetB xs n))] := by
  refine Fn_of (fn := Try.f156) (ts := [4]) Try.func156 (by kernel_rfl) rfl rfl (by rw [Try.ntmps156]; exact Nat.le_of_ble_eq_true rfl) rfl (by simp only [szA, List.mem_cons, List.not_mem_nil, or_false, forall_eq_or_imp, forall_eq, VT.cells, szL]; try decide) ?_
  rw [Try.ntmps156]
  simp only [push_cast, ↓brB_true, ↓brB_false, ↓reduceIte, zA, zB, zC, zD, zE, zF, zG, zH, zI, reduceCtorEq]
  refine awp_seq' fun K hK => ?_
  refine awp_region tyOk tyPos [] rfl ?_
  simp only [push_cast, ↓brB_true, ↓brB_false, ↓reduceIte, zA, zB, zC, zD, zE, zF, zG, zH, zI, reduceCtorEq]
  repeat' apply And.intro
  all_goals first | exact True.intro | exact rfl | omega | with_reducible assumption | (simp only [List.length_set, List.length_append, List.length_replicate, List.length_cons, List.length_nil]; omega) | skip
  all_goals first | (refine hK _ ?_; clear hK K) | (simp only [push_cast]; done)
  refine awp_seq' fun K1 hK1 => ?_
  refine awp_seq' fun K hK => ?_
  refine awp_region tyOk tyPos [] rfl ?_
  simp only [push_cast, ↓brB_true, ↓brB_false, ↓reduceIte, zA, zB, zC, zD, zE, zF, zG, zH, zI, reduceCtorEq]
  repeat' apply And.intro
  all_goals first | exact True.intro | exact rfl | omega | with_reducible assumption | (simp only [List.length_set, List.length_append, List.length_replicate, List.length_cons, List.length_nil]; omega) | skip
  all_goals first | (refine hK _ ?_; clear hK K) | (simp only [push_cast]; done)
  refine awp_block ?_
  refine awp_loopU [4,5,6,7,8,9,10,11,12,13,14,15,16,17,18,19,20,21,22,23,24,25,26,27,28,29,30,31,32,33,34,35] [] (fun k : Nat => [(5, .int .i64 k)]) (fun _ => []) (fun k => []) (fun k => k ≤ xs.length ∧ ∀ j, j < k → riseAt xs n j = true) (fun k => xs.length - k) 0 ?_ ⟨by omega, fun j hj => by omega⟩ ?_
  · refine cov_of rfl ?_ ?_ ?_ <;> simp only [covS, covL, push_cast, ↓brB_true, ↓brB_false, ↓reduceIte, zA, zB, zC, zD, zE, zF, zG, zH, zI, reduceCtorEq]
  · rintro k ⟨hk, hall⟩ K0 hK0
    simp only [push_cast, ↓brB_true, ↓brB_false, ↓reduceIte, zA, zB, zC, zD, zE, zF, zG, zH, zI, reduceCtorEq]
    refine awp_seq' fun K2 hK2 => ?_
    refine awp_seq' fun K hK => ?_
    refine awp_region tyOk tyPos [] rfl ?_
    simp only [push_cast, ↓brB_true, ↓brB_false, ↓reduceIte, zA, zB, zC, zD, zE, zF, zG, zH, zI, reduceCtorEq]
    repeat' apply And.intro
    all_goals first | exact True.intro | exact rfl | omega | with_reducible assumption | (simp only [List.length_set, List.length_append, List.length_replicate, List.length_cons, List.length_nil]; omega) | skip
    all_goals first | (refine hK _ ?_; clear hK K) | (simp only [push_cast]; done)
    refine awp_cond rfl (fun hc => ?_) (fun hc => ?_) <;> (try simp only [push_cast] at hc)
    · refine awp_skip ?_
      (try simp only [AThen, ABlk, reduceIte, zF]); refine hK2 _ ?_
      refine awp_seq' fun K3 hK3 => ?_
      refine awp_block ?_
      refine awp_seq' fun K hK => ?_
      refine awp_regionD0 false tyOk tyPos tyMix ?_ rfl ?_
      · kernel_rfl
      intro C hC
      simp only [push_cast, ↓brB_true, ↓brB_false, ↓reduceIte, zA, zB, zC, zD, zE, zF, zG, zH, zI, reduceCtorEq]
      repeat' (first | (apply brB_mk <;> (intro hg; (try simp only [push_cast] at hg))) | (refine ⟨_, l1In_fn _ _ _, ?_⟩; simp only [push_cast, ↓brB_true, ↓brB_false, ↓reduceIte, zA, zB, zC, zD, zE, zF, zG, zH, zI, reduceCtorEq]) | apply And.intro | (intro hg; (try simp only [push_cast] at hg)))
      all_goals first | exact True.intro | exact rfl | contradiction | omega | with_reducible assumption | (refine hC _ ?_; kernel_rfl) | skip
      all_goals (refine hK _ ?_; clear hK K)
      all_goals refine awp_cond rfl (fun hc => ?_) (fun hc => ?_)
      all_goals (first | (cases hc; done) | skip)
      all_goals (try simp only [push_cast] at hc)
      all_goals first
        | (refine awp_skip ?_
           (try simp only [AThen, ABlk, reduceIte, zF]); refine hK3 _ ?_
           refine awp_region tyOk tyPos [] rfl ?_
           simp only [push_cast, ↓brB_true, ↓brB_false, ↓reduceIte, zA, zB, zC, zD, zE, zF, zG, zH, zI, reduceCtorEq]
           repeat' apply And.intro
           all_goals first | exact True.intro | exact rfl | omega | with_reducible assumption | (simp only [List.length_set, List.length_append, List.length_replicate, List.length_cons, List.length_nil]; omega) | skip
           refine hK0 _ ⟨k + 1, ⟨by omega, fun j hj => ?_⟩, by omega, ?_⟩
           · by_cases hjk : j = k
             · subst hjk; unfold riseAt; rw [decide_eq_true_eq]; omega
             · exact hall j (by omega)
           · refine cov_of rfl ?_ ?_ ?_ <;> simp only [covS, covL, push_cast, ↓brB_true, ↓brB_false, ↓reduceIte, zA, zB, zC, zD, zE, zF, zG, zH, zI, reduceCtorEq])
        | (skip
           refine awp_seq' fun K hK => ?_
           refine awp_region tyOk tyPos [] rfl ?_
           simp only [push_cast, ↓brB_true, ↓brB_false, ↓reduceIte, zA, zB, zC, zD, zE, zF, zG, zH, zI, reduceCtorEq]
           repeat' apply And.intro
           all_goals first | exact True.intro | exact rfl | omega | with_reducible assumption | (simp only [List.length_set, List.length_append, List.length_replicate, List.length_cons, List.length_nil]; omega) | skip
           all_goals first | (refine hK _ ?_; clear hK K) | (simp only [push_cast]; done)
           refine awp_ret ?_
           (try simp only [AThen, ABlk])
           refine ⟨Or.inl rfl, ?_⟩
           simp only [RetOk, push_cast, ↓brB_true, ↓brB_false, ↓reduceIte, zA, zB, zC, zD, zE, zF, zG, zH, zI, reduceCtorEq]
           symm
           refine allB_false (k := k) (by omega) ?_
           unfold riseAt; rw [decide_eq_false_iff_not]; omega)
    · refine awp_exit ?_
      (try simp only [AThen, ABlk, reduceIte, zF]); refine hK1 _ ?_
      refine awp_seq' fun K hK => ?_
      refine awp_region tyOk tyPos [] rfl ?_
      simp only [push_cast, ↓brB_true, ↓brB_false, ↓reduceIte, zA, zB, zC, zD, zE, zF, zG, zH, zI, reduceCtorEq]
      repeat' apply And.intro
      all_goals first | exact True.intro | exact rfl | omega | with_reducible assumption | (simp only [List.length_set, List.length_append, List.length_replicate, List.length_cons, List.length_nil]; omega) | skip
      all_goals first | (refine hK _ ?_; clear hK K) | (simp only [push_cast]; done)
      refine awp_ret ?_
      (try simp only [AThen, ABlk])
      refine ⟨Or.inl rfl, ?_⟩
      simp only [RetOk, push_cast, ↓brB_true, ↓brB_false, ↓reduceIte, zA, zB, zC, zD, zE, zF, zG, zH, zI, reduceCtorEq]
      symm
      exact allB_true fun j hj => hall j (by omega)
set_option maxHeartbeats 1000000 in
theorem l1Set_fn (xs : List Int) (n : Int) (hl : xs.length ≤ 1048576) (h0 : 0 ≤ n) (h1 : n ≤ 9223372036854775807) : Fn Try.prog tyT 137 [.c (DI xs), .c (.int .i64 n)] [.c (.bool (isSetB xs n))] := by
  refine Fn_of (fn := Try.f137) (ts := [4]) Try.func137 (by kernel_rfl) rfl rfl (by rw [Try.ntmps137]; exact Nat.le_of_ble_eq_true rfl) rfl (by simp only [szA, List.mem_cons, List.not_mem_nil, or_false, forall_eq_or_imp, forall_eq, VT.cells, szL]; try decide) ?_
  rw [Try.ntmps137]
  simp only [push_cast, ↓brB_true, ↓brB_false, ↓reduceIte, zA, zB, zC, zD, zE, zF, zG, zH, zI, reduceCtorEq]
  refine awp_seq' fun K hK => ?_
  refine awp_region tyOk tyPos [] rfl ?_
  simp only [push_cast, ↓brB_true, ↓brB_false, ↓reduceIte, zA, zB, zC, zD, zE, zF, zG, zH, zI, reduceCtorEq]
  repeat' apply And.intro
  all_goals first | exact True.intro | exact rfl | omega | with_reducible assumption | (simp only [List.length_set, List.length_append, List.length_replicate, List.length_cons, List.length_nil]; omega) | skip
  all_goals first | (refine hK _ ?_; clear hK K) | (simp only [push_cast]; done)
  refine awp_seq' fun K hK => ?_
  refine awp_regionN false tyOk tyPos ?_ rfl ?_
  · kernel_rfl
  simp only [push_cast, ↓brB_true, ↓brB_false, ↓reduceIte, zA, zB, zC, zD, zE, zF, zG, zH, zI, reduceCtorEq]
  repeat' (first | (apply brB_mk <;> (intro hg; (try simp only [push_cast] at hg))) | (refine ⟨_, l1Rises_fn xs n hl (by omega) (by omega), ?_⟩; simp only [push_cast, ↓brB_true, ↓brB_false, ↓reduceIte, zA, zB, zC, zD, zE, zF, zG, zH, zI, reduceCtorEq]) | apply And.intro | (intro hg; (try simp only [push_cast] at hg)))
  all_goals first | exact True.intro | exact rfl | contradiction | omega | with_reducible assumption | skip
  all_goals (refine hK _ ?_; clear hK K)
  all_goals refine awp_ret ?_
  all_goals (try simp only [AThen, ABlk])
  all_goals refine ⟨Or.inl rfl, ?_⟩
  all_goals simp only [RetOk, push_cast, ↓brB_true, ↓brB_false, ↓reduceIte, zA, zB, zC, zD, zE, zF, zG, zH, zI, reduceCtorEq]
  symm
  cases hc : isSetB xs n with
  | false => rfl
  | true => exfalso; have := set_len hc h0; omega
end Go.Proofs.Ytbieekheapeopaa

/- arenas and weighted arenas: both sides' tests -/
namespace Go.Proofs.Ytbieekheapeopaa
open Nat renaming reduceMod → zA, reduceMul → zB, reduceDiv → zC, reduceAdd → zD, reduceSub → zE, reduceEqDiff → zF, reduceBEq → zG, reduceLT → zH, reduceLeDiff → zI
open Go.RowKit
set_option linter.unusedVariables false
set_option linter.unusedSimpArgs false

end Go.Proofs.Ytbieekheapeopaa

/- weighted arenas: both sides' tests -/
namespace Go.Proofs.Ytbieekheapeopaa
open Nat renaming reduceMod → zA, reduceMul → zB, reduceDiv → zC, reduceAdd → zD, reduceSub → zE, reduceEqDiff → zF, reduceBEq → zG, reduceLT → zH, reduceLeDiff → zI
open Go.RowKit
set_option linter.unusedVariables false
set_option linter.unusedSimpArgs false

end Go.Proofs.Ytbieekheapeopaa

/- small functions of both sides: search, vertices, copies -/
namespace Go.Proofs.Ytbieekheapeopaa
open Nat renaming reduceMod → zA, reduceMul → zB, reduceDiv → zC, reduceAdd → zD, reduceSub → zE, reduceEqDiff → zF, reduceBEq → zG, reduceLT → zH, reduceLeDiff → zI
open Go.RowKit
set_option linter.unusedVariables false
set_option linter.unusedSimpArgs false

end Go.Proofs.Ytbieekheapeopaa

/- lassos: both sides' tests -/
namespace Go.Proofs.Ytbieekheapeopaa
open Nat renaming reduceMod → zA, reduceMul → zB, reduceDiv → zC, reduceAdd → zD, reduceSub → zE, reduceEqDiff → zF, reduceBEq → zG, reduceLT → zH, reduceLeDiff → zI
open Go.RowKit
set_option linter.unusedVariables false
set_option linter.unusedSimpArgs false

end Go.Proofs.Ytbieekheapeopaa

/- lassos, and the costs along them: both sides -/
namespace Go.Proofs.Ytbieekheapeopaa
open Nat renaming reduceMod → zA, reduceMul → zB, reduceDiv → zC, reduceAdd → zD, reduceSub → zE, reduceEqDiff → zF, reduceBEq → zG, reduceLT → zH, reduceLeDiff → zI
open Go.RowKit
set_option linter.unusedVariables false
set_option linter.unusedSimpArgs false

end Go.Proofs.Ytbieekheapeopaa

/- costs along a loop: both sides -/
namespace Go.Proofs.Ytbieekheapeopaa
open Nat renaming reduceMod → zA, reduceMul → zB, reduceDiv → zC, reduceAdd → zD, reduceSub → zE, reduceEqDiff → zF, reduceBEq → zG, reduceLT → zH, reduceLeDiff → zI
open Go.RowKit
set_option linter.unusedVariables false
set_option linter.unusedSimpArgs false

/-- The cost of a step; 0 where there is none. -/
def stepC (w : Wt) (v u : Int) : Int := if hasB (gl w.a.next v.toNat) u = true then stepCost w v.toNat u else 0
def nextAt (xs : List Int) (t : Int) (i : Nat) : Int := if i + 1 < xs.length then gi xs (i + 1) else t
def along (w : Wt) (xs : List Int) (t : Int) : List Int := (List.range xs.length).map fun i => stepC w (gi xs i) (nextAt xs t i)
end Go.Proofs.Ytbieekheapeopaa
