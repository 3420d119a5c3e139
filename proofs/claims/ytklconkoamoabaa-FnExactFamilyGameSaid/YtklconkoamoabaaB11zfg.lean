/- the game of places over an arena, as data: the game so far, its bounds -/
import Derived.Test.YtklconkoamoabaaB10zfg
import Derived.Test.YtklconkoamoabaaB7zfg
import Derived.Test.YtklconkoamoabaaFazfg
namespace Go.Proofs.Ytklconkoamoabaa
open Go.RowKit
set_option linter.unusedVariables false
set_option linter.unusedSimpArgs false

def usA (a : Ar) (p : Plc) : List Int := gl a.next p.at_.toNat
section
variable (a : Ar) (rc : Plc → List Int) (pr : Plc → Int) (p0 : Plc)
def ownG (n : Nat) : List Int := (List.range n).map fun j => gi a.owner (plQ (usA a) rc p0 j).at_.toNat
def nxG (n : Nat) : List (List Int) := (List.range n).map fun j => nxQ (usA a) rc p0 j
def prG (n : Nat) : List Int := (List.range n).map fun j => pr (plQ (usA a) rc p0 j)
def gmA (n : Nat) : Pa := ⟨⟨ownG a rc p0 n, nxG a rc p0 n⟩, prG a rc pr p0 n⟩
def gmR (c : Bool) : Pa := if c && okQ (usA a) rc p0 then gmA a rc pr p0 (stQ (usA a) rc p0 257).length else ⟨⟨[], []⟩, []⟩
def plR (c : Bool) : List Plc := if c && okQ (usA a) rc p0 then stQ (usA a) rc p0 257 else []
end
variable {a : Ar} {rc : Plc → List Int} {pr : Plc → Int} {p0 : Plc}
theorem ownG_len (n : Nat) : (ownG a rc p0 n).length = n := by simp [ownG]
theorem nxG_len (n : Nat) : (nxG a rc p0 n).length = n := by simp [nxG]
theorem prG_len (n : Nat) : (prG a rc pr p0 n).length = n := by simp [prG]
theorem ownG_s (n : Nat) : ownG a rc p0 (n + 1) = ownG a rc p0 n ++ [gi a.owner (plQ (usA a) rc p0 n).at_.toNat] := by simp [ownG, List.range_succ]
theorem nxG_s (n : Nat) : nxG a rc p0 (n + 1) = nxG a rc p0 n ++ [nxQ (usA a) rc p0 n] := by simp [nxG, List.range_succ]
theorem prG_s (n : Nat) : prG a rc pr p0 (n + 1) = prG a rc pr p0 n ++ [pr (plQ (usA a) rc p0 n)] := by simp [prG, List.range_succ]
theorem ownG_0 : ownG a rc p0 0 = [] := rfl
theorem nxG_0 : nxG a rc p0 0 = [] := rfl
theorem prG_0 : prG a rc pr p0 0 = [] := rfl
theorem gmR_no {c : Bool} (h : (c && okQ (usA a) rc p0) = false) : gmR a rc pr p0 c = ⟨⟨[], []⟩, []⟩ := by unfold gmR; rw [h]; rfl
theorem plR_no {c : Bool} (h : (c && okQ (usA a) rc p0) = false) : plR a rc p0 c = [] := by unfold plR; rw [h]; rfl
theorem gmR_yes {c : Bool} {i : Nat} (hc : c = true) (hi : i ≤ 256) (h : ¬ i < (stQ (usA a) rc p0 i).length) (h2 : i ≤ (stQ (usA a) rc p0 i).length) : (c && okQ (usA a) rc p0) = true ∧ gmR a rc pr p0 c = gmA a rc pr p0 i ∧ plR a rc p0 c = stQ (usA a) rc p0 i := by
  obtain ⟨h3, h4⟩ := okQ_end hi h
  have h5 : (c && okQ (usA a) rc p0) = true := by rw [hc, h3]; rfl
  have h6 : (stQ (usA a) rc p0 i).length = i := by omega
  refine ⟨h5, ?_, ?_⟩
  · unfold gmR; rw [h5, if_pos rfl, h4, h6]
  · unfold plR; rw [h5, if_pos rfl, h4]
theorem us_rg (ha : arenaB a = true) {p : Plc} (h : 0 ≤ p.at_ ∧ p.at_ < a.owner.length) : 1 ≤ (usA a p).length ∧ (usA a p).length ≤ 16 ∧ ∀ u ∈ usA a p, 0 ≤ u ∧ u < a.owner.length := by
  have hv : p.at_.toNat < a.owner.length := by omega
  obtain ⟨h1, h2, h3, h4, h5⟩ := arenaB_at ha hv
  refine ⟨h3, h4, fun u hu => ?_⟩
  have hu : u ∈ gl a.next p.at_.toNat := hu
  obtain ⟨j, hj, rfl⟩ := List.mem_iff_getElem.1 hu
  have := allB_at h5 hj
  unfold riseAt at this
  have := of_decide_eq_true this
  have e : gi (gl a.next p.at_.toNat) j = (gl a.next p.at_.toNat)[j] := by
    unfold gi
    rw [List.getD_eq_getElem?_getD, List.getElem?_eq_getElem hj]
    rfl
  rw [e] at this
  exact ⟨this.1, this.2.1⟩

theorem gq_app {ps qs : List Plc} {i : Nat} (h : i < ps.length) : gq (ps ++ qs) i = gq ps i := by
  unfold gq
  rw [List.getD_eq_getElem?_getD, List.getElem?_append_left h, List.getD_eq_getElem?_getD]
theorem rowT_gq {r us : List Int} {ps : List Plc} {i : Nat} (hi : i < ps.length) : ∀ {k : Nat}, k ≤ us.length → gq (rowT r us ps k).1 i = gq ps i
  | 0, _ => rfl
  | k + 1, h => by
    have h1 := rowT_gq (r := r) (us := us) hi (k := k) (by omega)
    have h3 := (rowT_len (r := r) (us := us) (ps := ps) (k := k) (by omega)).2.1
    by_cases h2 : ixQ (sameQ (gi us k) r) (rowT r us ps k).1 < 0
    · rw [rowT_new (by omega) h2]
      show gq ((rowT r us ps k).1 ++ [_]) i = _
      rw [gq_app (by omega)]; exact h1
    · rw [rowT_old (by omega) h2]; exact h1
structure PlOk (a : Ar) (rc : Plc → List Int) (p0 : Plc) (V : List Int → Prop) (B : Nat) : Prop where
  first : 0 ≤ p0.at_ ∧ p0.at_ < (a.owner.length : Int) ∧ V p0.record
  next : ∀ p : Plc, 0 ≤ p.at_ → p.at_ < (a.owner.length : Int) → V p.record → V (rc p)
  small : ∀ r, V r → r.length ≤ B
theorem pl_all {V : List Int → Prop} {B : Nat} (ha : arenaB a = true) (h : PlOk a rc p0 V B) (i : Nat) : ∀ p ∈ stQ (usA a) rc p0 i, 0 ≤ p.at_ ∧ p.at_ < a.owner.length ∧ V p.record :=
  stQ_all (O := fun p => 0 ≤ p.at_ ∧ p.at_ < a.owner.length ∧ V p.record) h.first (fun p hp u hu => by
    have := (us_rg ha ⟨hp.1, hp.2.1⟩).2.2 u hu
    exact ⟨this.1, this.2, h.next p hp.1 hp.2.1 hp.2.2⟩) i
theorem pl_row {V : List Int → Prop} {B : Nat} (ha : arenaB a = true) (h : PlOk a rc p0 V B) {i k : Nat} (hi : i < (stQ (usA a) rc p0 i).length) (hk : k ≤ (usA a (gq (stQ (usA a) rc p0 i) i)).length) : ∀ p ∈ (rowT (rc (gq (stQ (usA a) rc p0 i) i)) (usA a (gq (stQ (usA a) rc p0 i) i)) (stQ (usA a) rc p0 i) k).1, 0 ≤ p.at_ ∧ p.at_ < a.owner.length ∧ V p.record := by
  have hp := pl_all ha h i _ (gq_mem hi)
  exact rowT_all (O := fun p => 0 ≤ p.at_ ∧ p.at_ < a.owner.length ∧ V p.record) (pl_all ha h i) (fun u hu => by
    have := (us_rg ha ⟨hp.1, hp.2.1⟩).2.2 u hu
    exact ⟨this.1, this.2, h.next _ hp.1 hp.2.1 hp.2.2⟩) hk
theorem nx_len {V : List Int → Prop} {B : Nat} (ha : arenaB a = true) (h : PlOk a rc p0 V B) {n : Nat} (hn : n ≤ 1048576) (hall : ∀ j, j < n → j < (stQ (usA a) rc p0 j).length) : LnII 1048576 (nxG a rc p0 n) := by
  refine ⟨by rw [nxG_len]; exact hn, fun r hr => ?_⟩
  unfold nxG at hr
  obtain ⟨j, hj, rfl⟩ := List.mem_map.1 hr
  have hj := hall j (List.mem_range.1 hj)
  have hp := pl_all ha h j _ (gq_mem hj)
  have h2 := (us_rg ha ⟨hp.1, hp.2.1⟩).2.1
  unfold nxQ
  rw [sortI_len]
  have h3 := (rowT_len (r := rc (gq (stQ (usA a) rc p0 j) j)) (us := usA a (gq (stQ (usA a) rc p0 j) j)) (ps := stQ (usA a) rc p0 j) (Nat.le_refl _)).1
  show (rowT _ _ _ _).2.length ≤ _
  rw [h3]
  omega
theorem st_open {n : Nat} (h : n ≤ (stQ (usA a) rc p0 257).length) (hn : n ≤ 257) : ∀ j, j < n → j < (stQ (usA a) rc p0 j).length := fun j hj => by
  rcases Nat.lt_or_ge j (stQ (usA a) rc p0 j).length with h1 | h1
  · exact h1
  · have := stQ_stop (us := usA a) (rc := rc) (p0 := p0) (i := j) (by omega) (j := 257) (by omega)
    rw [this] at h
    omega
theorem gmR_Ln {V : List Int → Prop} {B : Nat} {c : Bool} (ha : c = true → arenaB a = true ∧ PlOk a rc p0 V B) : (gmR a rc pr p0 c).Ln 1048576 := by
  cases hc : (c && okQ (usA a) rc p0) with
  | false =>
    rw [gmR_no hc]
    exact ⟨⟨by unfold LnI; simp, ⟨by simp, by simp⟩⟩, by unfold LnI; simp⟩
  | true =>
    have h1 := hc
    rw [Bool.and_eq_true] at h1
    obtain ⟨h2, h3⟩ := ha h1.1
    have h4 : (stQ (usA a) rc p0 257).length ≤ 256 := by have := h1.2; unfold okQ at this; exact of_decide_eq_true this
    unfold gmR
    rw [hc, if_pos rfl]
    have h5 := st_open (a := a) (rc := rc) (p0 := p0) (n := (stQ (usA a) rc p0 257).length) (Nat.le_refl _) (by omega)
    obtain ⟨n9, hn9⟩ : ∃ n9, n9 = (stQ (usA a) rc p0 257).length := ⟨_, rfl⟩
    rw [← hn9] at h4 h5 ⊢
    refine ⟨⟨?_, nx_len h2 h3 (by omega) h5⟩, ?_⟩
    · show (ownG a rc p0 _).length ≤ _; rw [ownG_len]; omega
    · show (prG a rc pr p0 _).length ≤ _; rw [prG_len]; omega
theorem plR_Ln {V : List Int → Prop} {B : Nat} {c : Bool} (hB : B ≤ 1048576) (ha : c = true → arenaB a = true ∧ PlOk a rc p0 V B) : QLn 1048576 (plR a rc p0 c) := by
  cases hc : (c && okQ (usA a) rc p0) with
  | false =>
    rw [plR_no hc]
    exact ⟨by simp, by simp⟩
  | true =>
    have h1 := hc
    rw [Bool.and_eq_true] at h1
    obtain ⟨h2, h3⟩ := ha h1.1
    have h4 : (stQ (usA a) rc p0 257).length ≤ 256 := by have := h1.2; unfold okQ at this; exact of_decide_eq_true this
    unfold plR
    rw [hc, if_pos rfl]
    exact ⟨by omega, fun p hp => Nat.le_trans (h3.small _ (pl_all h2 h3 257 p hp).2.2) hB⟩

theorem set_mono {xs : List Int} {n m : Int} (h : isSetB xs n = true) (hm : n ≤ m) : isSetB xs m = true := by
  refine allB_true fun k hk => ?_
  have := allB_at h hk
  unfold riseAt at this ⊢
  have := of_decide_eq_true this
  exact decide_eq_true (by omega)
theorem famI_mono {f : Fm} {n m : Int} (h : famI f n = true) (hm : n ≤ m) : famI f m = true := by
  unfold famI at h ⊢
  rw [Bool.and_eq_true, Bool.and_eq_true] at h ⊢
  refine ⟨set_mono h.1 hm, h.2.1, allB_true fun i hi => ?_⟩
  have := allB_at h.2.2 hi
  unfold famAt at this ⊢
  rw [Bool.and_eq_true] at this ⊢
  exact ⟨set_mono this.1 hm, this.2⟩
theorem nextV_perm {r : List Int} (hn : r.Nodup) (v : Int) : (nextV r v).Perm r := by
  cases h : hasB r v with
  | false => rw [nextV_no h]
  | true =>
    rw [nextV_yes h]
    have h1 := List.perm_cons_erase ((hasB_iff _ _).1 h)
    rw [List.Nodup.erase_eq_filter hn] at h1
    have e : (fun x => !decide (x = v)) = (fun x => x != v) := funext fun x => by
      by_cases h : x = v <;> simp [h]
    rw [e]
    exact h1.symm
theorem nextV_vis {f : Fm} {r : List Int} {v : Int} (h : visB f r = true) : visB f (nextV r v) = true := by
  obtain ⟨h1, h2, h3, h4, h5⟩ := vis_facts h
  rw [visB_is h1]
  refine decide_eq_true ?_
  rw [← h2]
  exact perm_sorted_eq ((sortI_perm _).trans ((nextV_perm h4 v).trans (sortI_perm _).symm)) (sortI_sorted _) (sortI_sorted _)
theorem vis_names {f : Fm} (h : famI f 256 = true) : visB f f.names = true := by
  rw [visB_is h]
  exact decide_eq_true (perm_sorted_eq (sortI_perm _) (sortI_sorted _) (pw_le (set_pw (famI_names h).1)))
def rcF (p : Plc) : List Int := nextV p.record p.at_
def prF (f : Fm) (p : Plc) : Int := prioV f p.record p.at_
def fgC (a : Ar) (f : Fm) (s : Int) : Bool := arenaB a && (famB f a.owner.length && decide (0 ≤ s ∧ s ≤ (a.owner.length : Int) - 1))
def fgB (a : Ar) (f : Fm) (s : Int) : Bool := fgC a f s && okQ (usA a) rcF ⟨s, f.names⟩
def fgG (a : Ar) (f : Fm) (s : Int) : Pa := gmR a rcF (prF f) ⟨s, f.names⟩ (fgC a f s)
def fgP (a : Ar) (f : Fm) (s : Int) : List Plc := plR a rcF ⟨s, f.names⟩ (fgC a f s)
theorem fgC_facts {a : Ar} {f : Fm} {s : Int} (h : fgC a f s = true) : arenaB a = true ∧ famI f 256 = true ∧ PlOk a rcF ⟨s, f.names⟩ (fun r => visB f r = true) 4 := by
  unfold fgC at h
  rw [Bool.and_eq_true, Bool.and_eq_true, decide_eq_true_eq] at h
  obtain ⟨h1, h2, h3⟩ := h
  have hl := arenaB_len h1
  have h4 : famI f 256 = true := famI_mono (by rw [famB_is (by omega)] at h2; exact h2) (by omega)
  exact ⟨h1, h4, ⟨⟨h3.1, by show s < _; omega, vis_names h4⟩, fun p _ _ h => nextV_vis h, fun r hr => (vis_facts hr).2.2.1⟩⟩
theorem fgG_len {a : Ar} {f : Fm} {s : Int} : (fgG a f s).Ln 1048576 := gmR_Ln (V := fun r => visB f r = true) (B := 4) fun h => ⟨(fgC_facts h).1, (fgC_facts h).2.2⟩
theorem fgP_len {a : Ar} {f : Fm} {s : Int} : QLn 1048576 (fgP a f s) := plR_Ln (V := fun r => visB f r = true) (B := 4) (by decide) fun h => ⟨(fgC_facts h).1, (fgC_facts h).2.2⟩
theorem fg_no1 {a : Ar} {f : Fm} {s : Int} (h : fgC a f s = false) : fgB a f s = false ∧ fgG a f s = ⟨⟨[], []⟩, []⟩ ∧ fgP a f s = [] := by
  have : (fgC a f s && okQ (usA a) rcF ⟨s, f.names⟩) = false := by rw [h]; rfl
  exact ⟨this, gmR_no this, plR_no this⟩
theorem fg_no2 {a : Ar} {f : Fm} {s : Int} (h : okQ (usA a) rcF ⟨s, f.names⟩ = false) : fgB a f s = false ∧ fgG a f s = ⟨⟨[], []⟩, []⟩ ∧ fgP a f s = [] := by
  have : (fgC a f s && okQ (usA a) rcF ⟨s, f.names⟩) = false := by rw [h, Bool.and_false]
  exact ⟨this, gmR_no this, plR_no this⟩
theorem fgC_no1 {a : Ar} {f : Fm} {s : Int} (h : arenaB a = false) : fgC a f s = false := by unfold fgC; rw [h]; rfl
theorem fgC_no2 {a : Ar} {f : Fm} {s : Int} (h : famB f a.owner.length = false) : fgC a f s = false := by unfold fgC; rw [h, Bool.false_and, Bool.and_false]
theorem fgC_no3 {a : Ar} {f : Fm} {s : Int} (h : ¬ (0 ≤ s ∧ s ≤ (a.owner.length : Int) - 1)) : fgC a f s = false := by unfold fgC; rw [decide_eq_false h, Bool.and_false, Bool.and_false]
theorem fgC_yes {a : Ar} {f : Fm} {s : Int} (h1 : arenaB a = true) (h2 : famB f a.owner.length = true) (h3 : 0 ≤ s ∧ s ≤ (a.owner.length : Int) - 1) : fgC a f s = true := by unfold fgC; rw [h1, h2, decide_eq_true h3]; rfl
end Go.Proofs.Ytklconkoamoabaa

namespace Go.Proofs.Ytklconkoamoabaa
open Nat renaming reduceMod → zA, reduceMul → zB, reduceDiv → zC, reduceAdd → zD, reduceSub → zE, reduceEqDiff → zF, reduceBEq → zG, reduceLT → zH, reduceLeDiff → zI
open Go.RowKit
set_option linter.unusedVariables false
set_option linter.unusedSimpArgs false

set_option maxRecDepth 20000 in
set_option maxHeartbeats 4000000 in
theorem FamilyGameS_fn (a : Ar) (ha : a.Ln 1048576) (f : Fm) (hf : f.Ln 1048576) (s : Int) : Fn Try.prog tyT 25 [.agg (dAr a), .agg (dFm f), .c (.int .i64 s)] [.agg (dPa (fgG a f s)), .c (.lst 78 (dPls (fgP a f s))), .c (.bool (fgB a f s))] := by
  have hno := ha.owner
  have hnn := ha.next.1
  have hrr : ∀ v, (gl a.next v).length ≤ 1048576 := fun v => gl_le ha.next v
  unfold LnI at hno
  have hA := ArenaOkS_fn a ha
  have hF := FamilyOkS_fn f hf (a.owner.length : Int)
  have hI := l1In_fn s 0 ((a.owner.length : Int) - 1)
  have hPr := fun r hr v => l18Prio_fn f hf r hr v
  have hfn := hf.names
  unfold LnI at hfn
  unfold dAr at hA
  unfold dFm at hF hPr
  unfold dAr dFm dPa
  refine Fn_ofR (fn := Try.f25) (rs := [.cell 6 48, .tmp 7, .tmp 8]) tyOk tyPos Try.func25 (by kernel_rfl) rfl rfl (by rw [Try.ntmps25]; exact Nat.le_of_ble_eq_true rfl) rfl (by simp only [szA, List.mem_cons, List.not_mem_nil, or_false, forall_eq_or_imp, forall_eq, VT.cells, szL]; try decide) ?_
  rw [Try.ntmps25]
  simp only [push_cast, ↓brB_true, ↓brB_false, ↓reduceIte, zA, zB, zC, zD, zE, zF, zG, zH, zI, reduceCtorEq]
  refine awp_seq' fun K hK => ?_
  refine awp_region tyOk tyPos [] rfl ?_
  all_goals simp only [push_cast, ↓brB_true, ↓brB_false, ↓reduceIte, zA, zB, zC, zD, zE, zF, zG, zH, zI, reduceCtorEq]
  all_goals repeat' (first | (apply brB_mk <;> (intro hg; (try simp only [push_cast] at hg))) | apply And.intro | (intro hg; (try simp only [push_cast] at hg)))
  all_goals first | exact gA | (exact getE_dPls (by omega)) | skip
  all_goals first | (refine hK _ ?_; clear hK K) | (simp only [push_cast]; done)
  refine awp_seq' fun K hK => ?_
  refine awp_region tyOk tyPos [] rfl ?_
  all_goals simp only [push_cast, ↓brB_true, ↓brB_false, ↓reduceIte, zA, zB, zC, zD, zE, zF, zG, zH, zI, reduceCtorEq]
  all_goals repeat' (first | (apply brB_mk <;> (intro hg; (try simp only [push_cast] at hg))) | apply And.intro | (intro hg; (try simp only [push_cast] at hg)))
  all_goals first | exact gA | (exact getE_dPls (by omega)) | skip
  all_goals first | (refine hK _ ?_; clear hK K) | (simp only [push_cast]; done)
  refine awp_seq' fun K1 hK1 => ?_
  refine awp_seq' fun K hK => ?_
  refine awp_regionN false tyOk tyPos ?_ rfl ?_
  · kernel_rfl
  all_goals refine seqE_cut 2 fun K9 hK9 => ?_
  all_goals simp only [push_cast, ↓brB_true, ↓brB_false, ↓reduceIte, zA, zB, zC, zD, zE, zF, zG, zH, zI, reduceCtorEq]
  all_goals repeat' (first | (apply brB_mk <;> (intro hg; (try simp only [push_cast] at hg))) | (refine ⟨_, hA, ?_⟩; simp only [push_cast, ↓brB_true, ↓brB_false, ↓reduceIte, zA, zB, zC, zD, zE, zF, zG, zH, zI, reduceCtorEq]) | apply And.intro | (intro hg; (try simp only [push_cast] at hg)))
  all_goals first | exact gA | (exact getE_dPls (by omega)) | skip
  all_goals first | (refine hK9 _ ?_; clear hK9 K9) | (simp only [push_cast]; done)
  all_goals refine seqE_cut 5 fun K9 hK9 => ?_
  all_goals simp only [push_cast, ↓brB_true, ↓brB_false, ↓reduceIte, zA, zB, zC, zD, zE, zF, zG, zH, zI, reduceCtorEq]
  all_goals repeat' (first | (apply brB_mk <;> (intro hg; (try simp only [push_cast] at hg))) | (refine ⟨_, hF, ?_⟩; simp only [push_cast, ↓brB_true, ↓brB_false, ↓reduceIte, zA, zB, zC, zD, zE, zF, zG, zH, zI, reduceCtorEq]) | apply And.intro | (intro hg; (try simp only [push_cast] at hg)))
  all_goals first | exact gA | (exact getE_dPls (by omega)) | skip
  all_goals first | (refine hK9 _ ?_; clear hK9 K9) | (simp only [push_cast]; done)
  all_goals refine seqE_cut 7 fun K9 hK9 => ?_
  all_goals simp only [push_cast, ↓brB_true, ↓brB_false, ↓reduceIte, zA, zB, zC, zD, zE, zF, zG, zH, zI, reduceCtorEq]
  all_goals repeat' (first | (apply brB_mk <;> (intro hg; (try simp only [push_cast] at hg))) | (refine ⟨_, hI, ?_⟩; simp only [push_cast, ↓brB_true, ↓brB_false, ↓reduceIte, zA, zB, zC, zD, zE, zF, zG, zH, zI, reduceCtorEq]) | apply And.intro | (intro hg; (try simp only [push_cast] at hg)))
  all_goals first | exact gA | (exact getE_dPls (by omega)) | skip
  all_goals first | (refine hK9 _ ?_; clear hK9 K9) | (simp only [push_cast]; done)
  all_goals simp only [push_cast, ↓brB_true, ↓brB_false, ↓reduceIte, zA, zB, zC, zD, zE, zF, zG, zH, zI, reduceCtorEq]
  all_goals repeat' (first | (apply brB_mk <;> (intro hg; (try simp only [push_cast] at hg))) | (refine ⟨_, hA, ?_⟩; simp only [push_cast, ↓brB_true, ↓brB_false, ↓reduceIte, zA, zB, zC, zD, zE, zF, zG, zH, zI, reduceCtorEq]) | (refine ⟨_, hF, ?_⟩; simp only [push_cast, ↓brB_true, ↓brB_false, ↓reduceIte, zA, zB, zC, zD, zE, zF, zG, zH, zI, reduceCtorEq]) | (refine ⟨_, hI, ?_⟩; simp only [push_cast, ↓brB_true, ↓brB_false, ↓reduceIte, zA, zB, zC, zD, zE, zF, zG, zH, zI, reduceCtorEq]) | apply And.intro | (intro hg; (try simp only [push_cast] at hg)))
  all_goals first | exact gA | (exact getE_dPls (by omega)) | skip
  all_goals first | (refine hK _ ?_; clear hK K) | (simp only [push_cast]; done)
  all_goals refine awp_cond rfl (fun hc => ?_) (fun hc => ?_)
  all_goals (first | (cases hc; done) | skip)
  all_goals (try simp only [push_cast] at hc)
  all_goals try (
      refine awp_seq' fun K hK => ?_
      refine awp_regionN false tyOk tyPos ?_ rfl ?_
      · kernel_rfl
      simp only [push_cast, ↓brB_true, ↓brB_false, ↓reduceIte, zA, zB, zC, zD, zE, zF, zG, zH, zI, reduceCtorEq]
      all_goals repeat' (first | (apply brB_mk <;> (intro hg; (try simp only [push_cast] at hg))) | apply And.intro | (intro hg; (try simp only [push_cast] at hg)))
      all_goals first | exact gA | (exact getE_dPls (by omega)) | skip
      all_goals first | (refine hK _ ?_; clear hK K) | (simp only [push_cast]; done)
      refine awp_ret ?_
      (try simp only [AThen, ABlk])
      refine ⟨Or.inl rfl, ?_⟩
      simp only [RetOk, resVars, resVar, push_cast, ↓brB_true, ↓brB_false, ↓reduceIte, zA, zB, zC, zD, zE, zF, zG, zH, zI, reduceCtorEq]
      obtain ⟨e1, e2, e3⟩ := fg_no1 (a := a) (f := f) (s := s) (by first | exact fgC_no1 (by with_reducible assumption) | exact fgC_no2 (by with_reducible assumption) | exact fgC_no3 (by omega))
      rw [e1, e2, e3]
      all_goals first | rfl | exact ⟨rfl, rfl⟩ | (simp [dI, dII, dPls]; done)
      done)
  refine awp_skip ?_
  (try simp only [AThen, ABlk, reduceIte, zF]); refine hK1 _ ?_
  have hC : fgC a f s = true := fgC_yes (by with_reducible assumption) (by with_reducible assumption) (by omega)
  obtain ⟨h1, h2, h3⟩ := fgC_facts hC
  have hln := arenaB_len h1
  refine awp_seq' fun K hK => ?_
  refine awp_regionN false tyOk tyPos ?_ rfl ?_
  · kernel_rfl
  simp only [push_cast, ↓brB_true, ↓brB_false, ↓reduceIte, zA, zB, zC, zD, zE, zF, zG, zH, zI, reduceCtorEq]
  all_goals repeat' (first | (apply brB_mk <;> (intro hg; (try simp only [push_cast] at hg))) | apply And.intro | (intro hg; (try simp only [push_cast] at hg)))
  all_goals first | exact gA | (exact getE_dPls (by omega)) | skip
  all_goals first | (refine hK _ ?_; clear hK K) | (simp only [push_cast]; done)
  refine awp_settle 78 10 (Nat.le_of_ble_eq_true rfl) ?_
  simp only [push_cast, ↓brB_true, ↓brB_false, ↓reduceIte, zA, zB, zC, zD, zE, zF, zG, zH, zI, reduceCtorEq]
  refine awp_seq' fun K hK => ?_
  refine awp_region tyOk tyPos [] rfl ?_
  all_goals simp only [push_cast, ↓brB_true, ↓brB_false, ↓reduceIte, zA, zB, zC, zD, zE, zF, zG, zH, zI, reduceCtorEq]
  all_goals repeat' (first | (apply brB_mk <;> (intro hg; (try simp only [push_cast] at hg))) | apply And.intro | (intro hg; (try simp only [push_cast] at hg)))
  all_goals first | exact gA | (exact getE_dPls (by omega)) | skip
  all_goals first | (refine hK _ ?_; clear hK K) | (simp only [push_cast]; done)
  refine awp_seq' fun K2 hK2 => ?_
  refine awp_seq' fun K hK => ?_
  refine awp_region tyOk tyPos [] rfl ?_
  all_goals simp only [push_cast, ↓brB_true, ↓brB_false, ↓reduceIte, zA, zB, zC, zD, zE, zF, zG, zH, zI, reduceCtorEq]
  all_goals repeat' (first | (apply brB_mk <;> (intro hg; (try simp only [push_cast] at hg))) | apply And.intro | (intro hg; (try simp only [push_cast] at hg)))
  all_goals first | exact gA | (exact getE_dPls (by omega)) | skip
  all_goals first | (refine hK _ ?_; clear hK K) | (simp only [push_cast]; done)
  refine awp_block ?_
  refine awp_loopU [7,8,10,11,12,13,14,15,16,17,18,25,31,48,49,50,51,52,53,54,55,56,57,58,59,60,61,62,63,64,65,66,67,68,69,70,71,72,73,74,75,76,77,78,79,80,81,82,83,84,85,86,87,88,89,90,91,92,93,94,95,96,97,98,99,100,101,102,103,104,105,106,107,108,109,110,111,112,113,114,115,116,117,118,119,120,121,122,123,124,125,126,127,128,129,130,131,132,133,134,135,136,137,138,139,140] [] (fun (i : Nat) => [(12, .int .i64 i), (10, .sl 160 [] 0 (stQ (usA a) rcF ⟨s, f.names⟩ i).length 78), (11, .bp 11 0)]) (fun i => [(11, [.sl 176 [] 0 i 2, .sl 177 [] 0 i 22, .sl 178 [] 0 i 2])]) (fun i => [(160, ⟨.ex, 78, dPls (stQ (usA a) rcF ⟨s, f.names⟩ i), none⟩), (176, ⟨.ex, 2, dI (ownG a rcF ⟨s, f.names⟩ i), none⟩), (177, ⟨.ex, 22, dII (nxG a rcF ⟨s, f.names⟩ i), none⟩), (178, ⟨.ex, 2, dI (prG a rcF (prF f) ⟨s, f.names⟩ i), none⟩)]) (fun i => i ≤ 256 ∧ i ≤ (stQ (usA a) rcF ⟨s, f.names⟩ i).length ∧ (stQ (usA a) rcF ⟨s, f.names⟩ i).length ≤ 256) (fun i => 257 - i) 0 ?_ ⟨by omega, Nat.zero_le _, (by show 1 ≤ 256; decide)⟩ ?_
  ·
    rw [show stQ (usA a) rcF ⟨s, f.names⟩ 0 = [⟨s, f.names⟩] from rfl, ownG_0, nxG_0, prG_0]
    refine cov_of rfl ?_ ?_ ?_ <;> simp only [covS, covL, push_cast, ↓brB_true, ↓brB_false, ↓reduceIte, zA, zB, zC, zD, zE, zF, zG, zH, zI, reduceCtorEq]
    exact ⟨rfl, rfl, rfl, rfl⟩
  · rintro i ⟨hi, hil, hsl⟩ KL0 hL0
    have hall := pl_all h1 h3 i
    have hq : QLn 1048576 (stQ (usA a) rcF ⟨s, f.names⟩ i) := ⟨by omega, fun p hp => by have := h3.small _ (hall p hp).2.2; omega⟩
    have hgl := fun k => gq_le hq k
    have ho1 := ownG_len (a := a) (rc := rcF) (p0 := ⟨s, f.names⟩) i
    have ho2 := nxG_len (a := a) (rc := rcF) (p0 := ⟨s, f.names⟩) i
    have ho3 := prG_len (a := a) (rc := rcF) (pr := prF f) (p0 := ⟨s, f.names⟩) i
    simp only [push_cast, ↓brB_true, ↓brB_false, ↓reduceIte, zA, zB, zC, zD, zE, zF, zG, zH, zI, reduceCtorEq]
    refine awp_seq' fun K3 hK3 => ?_
    refine awp_seq' fun K hK => ?_
    refine awp_region tyOk tyPos [] rfl ?_
    all_goals simp only [push_cast, ↓brB_true, ↓brB_false, ↓reduceIte, zA, zB, zC, zD, zE, zF, zG, zH, zI, reduceCtorEq]
    all_goals repeat' (first | (apply brB_mk <;> (intro hg; (try simp only [push_cast] at hg))) | apply And.intro | (intro hg; (try simp only [push_cast] at hg)))
    all_goals first | exact gA | (exact getE_dPls (by omega)) | skip
    all_goals first | (refine hK _ ?_; clear hK K) | (simp only [push_cast]; done)
    refine awp_cond rfl (fun hc => ?_) (fun hc => ?_) <;> (try simp only [push_cast] at hc)
    ·
      refine awp_skip ?_
      (try simp only [AThen, ABlk, reduceIte, zF]); refine hK3 _ ?_
      refine awp_seq' fun K4 hK4 => ?_
      refine awp_block ?_
      have hP := hall _ (gq_mem (k := i) (by omega))
      have hU : 1 ≤ (gl a.next (gq (stQ (usA a) rcF ⟨s, f.names⟩ i) i).at_.toNat).length ∧ (gl a.next (gq (stQ (usA a) rcF ⟨s, f.names⟩ i) i).at_.toNat).length ≤ 16 ∧ ∀ u ∈ (gl a.next (gq (stQ (usA a) rcF ⟨s, f.names⟩ i) i).at_.toNat), 0 ≤ u ∧ u < (a.owner.length : Int) := us_rg h1 ⟨hP.1, hP.2.1⟩
      have hpl := h3.small _ hP.2.2
      have hnl := nextV_le (gq (stQ (usA a) rcF ⟨s, f.names⟩ i) i).record (gq (stQ (usA a) rcF ⟨s, f.names⟩ i) i).at_
      refine awp_seq' fun K hK => ?_
      refine awp_region tyOk tyPos [] rfl ?_
      all_goals simp only [push_cast, ↓brB_true, ↓brB_false, ↓reduceIte, zA, zB, zC, zD, zE, zF, zG, zH, zI, reduceCtorEq]
      all_goals repeat' (first | (apply brB_mk <;> (intro hg; (try simp only [push_cast] at hg))) | apply And.intro | (intro hg; (try simp only [push_cast] at hg)))
      all_goals first | exact gA | (exact getE_dPls (by omega)) | skip
      all_goals first | (refine hK _ ?_; clear hK K) | (simp only [push_cast]; done)
      refine awp_seq' fun K hK => ?_
      refine awp_region tyOk tyPos [] rfl ?_
      all_goals refine aops_cut 5 fun K9 hK9 => ?_
      all_goals simp only [push_cast, ↓brB_true, ↓brB_false, ↓reduceIte, zA, zB, zC, zD, zE, zF, zG, zH, zI, reduceCtorEq]
      all_goals repeat' (first | (apply brB_mk <;> (intro hg; (try simp only [push_cast] at hg))) | (refine ⟨_, l18Next_fn (gq (stQ (usA a) rcF ⟨s, f.names⟩ i) i).record (by omega) (gq (stQ (usA a) rcF ⟨s, f.names⟩ i) i).at_, ?_⟩; simp only [push_cast, ↓brB_true, ↓brB_false, ↓reduceIte, zA, zB, zC, zD, zE, zF, zG, zH, zI, reduceCtorEq]) | apply And.intro | (intro hg; (try simp only [push_cast] at hg)))
      all_goals first | exact gA | (exact getE_dPls (by omega)) | skip
      all_goals first | (refine hK9 _ ?_; clear hK9 K9) | (simp only [push_cast]; done)
      all_goals simp only [push_cast, ↓brB_true, ↓brB_false, ↓reduceIte, zA, zB, zC, zD, zE, zF, zG, zH, zI, reduceCtorEq]
      all_goals repeat' (first | (apply brB_mk <;> (intro hg; (try simp only [push_cast] at hg))) | (refine ⟨_, l18Next_fn (gq (stQ (usA a) rcF ⟨s, f.names⟩ i) i).record (by omega) (gq (stQ (usA a) rcF ⟨s, f.names⟩ i) i).at_, ?_⟩; simp only [push_cast, ↓brB_true, ↓brB_false, ↓reduceIte, zA, zB, zC, zD, zE, zF, zG, zH, zI, reduceCtorEq]) | apply And.intro | (intro hg; (try simp only [push_cast] at hg)))
      all_goals first | exact gA | (exact getE_dPls (by omega)) | skip
      all_goals first | (refine hK _ ?_; clear hK K) | (simp only [push_cast]; done)
      refine awp_seq' fun K hK => ?_
      refine awp_region tyOk tyPos [] rfl ?_
      all_goals simp only [push_cast, ↓brB_true, ↓brB_false, ↓reduceIte, zA, zB, zC, zD, zE, zF, zG, zH, zI, reduceCtorEq]
      all_goals repeat' (first | (apply brB_mk <;> (intro hg; (try simp only [push_cast] at hg))) | apply And.intro | (intro hg; (try simp only [push_cast] at hg)))
      all_goals first | exact gA | (exact getE_dPls (by omega)) | skip
      all_goals first | (refine hK _ ?_; clear hK K) | (simp only [push_cast]; done)
      refine awp_seq' fun K5 hK5 => ?_
      refine awp_seq' fun K hK => ?_
      refine awp_region tyOk tyPos [] rfl ?_
      all_goals simp only [push_cast, ↓brB_true, ↓brB_false, ↓reduceIte, zA, zB, zC, zD, zE, zF, zG, zH, zI, reduceCtorEq]
      all_goals repeat' (first | (apply brB_mk <;> (intro hg; (try simp only [push_cast] at hg))) | apply And.intro | (intro hg; (try simp only [push_cast] at hg)))
      all_goals first | exact gA | (exact getE_dPls (by omega)) | skip
      all_goals first | (refine hK _ ?_; clear hK K) | (simp only [push_cast]; done)
      refine awp_block ?_
      refine awp_loopU [7,8,10,13,15,16,17,18,25,31,49,54,55,56,57,58,59,60,64,65,66,67,68,69,70,71,72,73,74,75,76,77,78,79,80,81,82,83,84,85,86,87,88,89,90,91,92,93,94,95,96,97,98,99,100,101,102,103,104,105,106,107] [240,208,209] (fun (k : Nat) => [(16, .int .i64 k), (10, .sl 160 [] 0 (rowT (nextV (gq (stQ (usA a) rcF ⟨s, f.names⟩ i) i).record (gq (stQ (usA a) rcF ⟨s, f.names⟩ i) i).at_) (gl a.next (gq (stQ (usA a) rcF ⟨s, f.names⟩ i) i).at_.toNat) (stQ (usA a) rcF ⟨s, f.names⟩ i) k).1.length 78), (15, .sl 240 [] 0 k 2), (13, .bp 13 0)]) (fun k => [(13, [.int .i64 (gq (stQ (usA a) rcF ⟨s, f.names⟩ i) i).at_, .sl 160 [i * 2 + 1] 0 (gq (stQ (usA a) rcF ⟨s, f.names⟩ i) i).record.length 2])]) (fun k => [(160, ⟨.ex, 78, dPls (rowT (nextV (gq (stQ (usA a) rcF ⟨s, f.names⟩ i) i).record (gq (stQ (usA a) rcF ⟨s, f.names⟩ i) i).at_) (gl a.next (gq (stQ (usA a) rcF ⟨s, f.names⟩ i) i).at_.toNat) (stQ (usA a) rcF ⟨s, f.names⟩ i) k).1, none⟩), (240, ⟨.ex, 2, dI (rowT (nextV (gq (stQ (usA a) rcF ⟨s, f.names⟩ i) i).record (gq (stQ (usA a) rcF ⟨s, f.names⟩ i) i).at_) (gl a.next (gq (stQ (usA a) rcF ⟨s, f.names⟩ i) i).at_.toNat) (stQ (usA a) rcF ⟨s, f.names⟩ i) k).2, none⟩)]) (fun k => k ≤ (gl a.next (gq (stQ (usA a) rcF ⟨s, f.names⟩ i) i).at_.toNat).length ∧ (rowT (nextV (gq (stQ (usA a) rcF ⟨s, f.names⟩ i) i).record (gq (stQ (usA a) rcF ⟨s, f.names⟩ i) i).at_) (gl a.next (gq (stQ (usA a) rcF ⟨s, f.names⟩ i) i).at_.toNat) (stQ (usA a) rcF ⟨s, f.names⟩ i) k).1.length ≤ 256) (fun k => (gl a.next (gq (stQ (usA a) rcF ⟨s, f.names⟩ i) i).at_.toNat).length - k) 0 ?_ ⟨by omega, hsl⟩ ?_
      ·
        rw [rowT_0]
        refine cov_of rfl ?_ ?_ ?_ <;> simp only [covS, covL, push_cast, ↓brB_true, ↓brB_false, ↓reduceIte, zA, zB, zC, zD, zE, zF, zG, zH, zI, reduceCtorEq]
        all_goals rfl
      · rintro k ⟨hk, hkl⟩ KL1 hL1
        have hrl := rowT_len (r := (nextV (gq (stQ (usA a) rcF ⟨s, f.names⟩ i) i).record (gq (stQ (usA a) rcF ⟨s, f.names⟩ i) i).at_)) (us := (gl a.next (gq (stQ (usA a) rcF ⟨s, f.names⟩ i) i).at_.toNat)) (ps := (stQ (usA a) rcF ⟨s, f.names⟩ i)) (k := k) hk
        have hQr : QLn 1048576 (rowT (nextV (gq (stQ (usA a) rcF ⟨s, f.names⟩ i) i).record (gq (stQ (usA a) rcF ⟨s, f.names⟩ i) i).at_) (gl a.next (gq (stQ (usA a) rcF ⟨s, f.names⟩ i) i).at_.toNat) (stQ (usA a) rcF ⟨s, f.names⟩ i) k).1 := ⟨by omega, fun p hp => by have := h3.small _ (pl_row h1 h3 (i := i) (k := k) (by omega) hk p hp).2.2; omega⟩
        have hx := ixQ_rg (sameQ (gi (gl a.next (gq (stQ (usA a) rcF ⟨s, f.names⟩ i) i).at_.toNat) k) (nextV (gq (stQ (usA a) rcF ⟨s, f.names⟩ i) i).record (gq (stQ (usA a) rcF ⟨s, f.names⟩ i) i).at_)) (rowT (nextV (gq (stQ (usA a) rcF ⟨s, f.names⟩ i) i).record (gq (stQ (usA a) rcF ⟨s, f.names⟩ i) i).at_) (gl a.next (gq (stQ (usA a) rcF ⟨s, f.names⟩ i) i).at_.toNat) (stQ (usA a) rcF ⟨s, f.names⟩ i) k).1
        simp only [push_cast, ↓brB_true, ↓brB_false, ↓reduceIte, zA, zB, zC, zD, zE, zF, zG, zH, zI, reduceCtorEq]
        refine awp_seq' fun K6 hK6 => ?_
        refine awp_seq' fun K hK => ?_
        refine awp_region tyOk tyPos [] rfl ?_
        all_goals simp only [push_cast, ↓brB_true, ↓brB_false, ↓reduceIte, zA, zB, zC, zD, zE, zF, zG, zH, zI, reduceCtorEq]
        all_goals repeat' (first | (apply brB_mk <;> (intro hg; (try simp only [push_cast] at hg))) | apply And.intro | (intro hg; (try simp only [push_cast] at hg)))
        all_goals first | exact gA | (exact getE_dPls (by omega)) | skip
        all_goals first | (refine hK _ ?_; clear hK K) | (simp only [push_cast]; done)
        refine awp_cond rfl (fun hc => ?_) (fun hc => ?_) <;> (try simp only [push_cast] at hc)
        ·
          refine awp_skip ?_
          (try simp only [AThen, ABlk, reduceIte, zF]); refine hK6 _ ?_
          refine awp_seq' fun K7 hK7 => ?_
          refine awp_block ?_
          refine awp_seq' fun K hK => ?_
          refine awp_region tyOk tyPos [] rfl ?_
          all_goals simp only [push_cast, ↓brB_true, ↓brB_false, ↓reduceIte, zA, zB, zC, zD, zE, zF, zG, zH, zI, reduceCtorEq]
          all_goals repeat' (first | (apply brB_mk <;> (intro hg; (try simp only [push_cast] at hg))) | apply And.intro | (intro hg; (try simp only [push_cast] at hg)))
          all_goals first | exact gA | (exact getE_dPls (by omega)) | skip
          all_goals first | (refine hK _ ?_; clear hK K) | (simp only [push_cast]; done)
          refine awp_seq' fun K hK => ?_
          refine awp_region tyOk tyPos [] rfl ?_
          all_goals refine aops_cut 4 fun K9 hK9 => ?_
          all_goals simp only [push_cast, ↓brB_true, ↓brB_false, ↓reduceIte, zA, zB, zC, zD, zE, zF, zG, zH, zI, reduceCtorEq]
          all_goals repeat' (first | (apply brB_mk <;> (intro hg; (try simp only [push_cast] at hg))) | (refine ⟨_, l17Find_fn (rowT (nextV (gq (stQ (usA a) rcF ⟨s, f.names⟩ i) i).record (gq (stQ (usA a) rcF ⟨s, f.names⟩ i) i).at_) (gl a.next (gq (stQ (usA a) rcF ⟨s, f.names⟩ i) i).at_.toNat) (stQ (usA a) rcF ⟨s, f.names⟩ i) k).1 hQr (gi (gl a.next (gq (stQ (usA a) rcF ⟨s, f.names⟩ i) i).at_.toNat) k) (nextV (gq (stQ (usA a) rcF ⟨s, f.names⟩ i) i).record (gq (stQ (usA a) rcF ⟨s, f.names⟩ i) i).at_) (by omega), ?_⟩; simp only [push_cast, ↓brB_true, ↓brB_false, ↓reduceIte, zA, zB, zC, zD, zE, zF, zG, zH, zI, reduceCtorEq]) | apply And.intro | (intro hg; (try simp only [push_cast] at hg)))
          all_goals first | exact gA | (exact getE_dPls (by omega)) | skip
          all_goals first | (refine hK9 _ ?_; clear hK9 K9) | (simp only [push_cast]; done)
          all_goals simp only [push_cast, ↓brB_true, ↓brB_false, ↓reduceIte, zA, zB, zC, zD, zE, zF, zG, zH, zI, reduceCtorEq]
          all_goals repeat' (first | (apply brB_mk <;> (intro hg; (try simp only [push_cast] at hg))) | (refine ⟨_, l17Find_fn (rowT (nextV (gq (stQ (usA a) rcF ⟨s, f.names⟩ i) i).record (gq (stQ (usA a) rcF ⟨s, f.names⟩ i) i).at_) (gl a.next (gq (stQ (usA a) rcF ⟨s, f.names⟩ i) i).at_.toNat) (stQ (usA a) rcF ⟨s, f.names⟩ i) k).1 hQr (gi (gl a.next (gq (stQ (usA a) rcF ⟨s, f.names⟩ i) i).at_.toNat) k) (nextV (gq (stQ (usA a) rcF ⟨s, f.names⟩ i) i).record (gq (stQ (usA a) rcF ⟨s, f.names⟩ i) i).at_) (by omega), ?_⟩; simp only [push_cast, ↓brB_true, ↓brB_false, ↓reduceIte, zA, zB, zC, zD, zE, zF, zG, zH, zI, reduceCtorEq]) | apply And.intro | (intro hg; (try simp only [push_cast] at hg)))
          all_goals first | exact gA | (exact getE_dPls (by omega)) | skip
          all_goals first | (refine hK _ ?_; clear hK K) | (simp only [push_cast]; done)
          refine awp_seq' fun K8 hK8 => ?_
          refine awp_seq' fun K hK => ?_
          refine awp_region tyOk tyPos [] rfl ?_
          all_goals simp only [push_cast, ↓brB_true, ↓brB_false, ↓reduceIte, zA, zB, zC, zD, zE, zF, zG, zH, zI, reduceCtorEq]
          all_goals repeat' (first | (apply brB_mk <;> (intro hg; (try simp only [push_cast] at hg))) | apply And.intro | (intro hg; (try simp only [push_cast] at hg)))
          all_goals first | exact gA | (exact getE_dPls (by omega)) | skip
          all_goals first | (refine hK _ ?_; clear hK K) | (simp only [push_cast]; done)
          refine awp_cond rfl (fun hc => ?_) (fun hc => ?_) <;> (try simp only [push_cast] at hc)
          ·
            refine awp_seq' fun K hK => ?_
            refine awp_region tyOk tyPos [] rfl ?_
            all_goals simp only [push_cast, ↓brB_true, ↓brB_false, ↓reduceIte, zA, zB, zC, zD, zE, zF, zG, zH, zI, reduceCtorEq]
            all_goals repeat' (first | (apply brB_mk <;> (intro hg; (try simp only [push_cast] at hg))) | apply And.intro | (intro hg; (try simp only [push_cast] at hg)))
            all_goals first | exact gA | (exact getE_dPls (by omega)) | skip
            all_goals first | (refine hK _ ?_; clear hK K) | (simp only [push_cast]; done)
            refine awp_seq' fun K9 hK9 => ?_
            refine awp_seq' fun K hK => ?_
            refine awp_region tyOk tyPos [] rfl ?_
            all_goals simp only [push_cast, ↓brB_true, ↓brB_false, ↓reduceIte, zA, zB, zC, zD, zE, zF, zG, zH, zI, reduceCtorEq]
            all_goals repeat' (first | (apply brB_mk <;> (intro hg; (try simp only [push_cast] at hg))) | apply And.intro | (intro hg; (try simp only [push_cast] at hg)))
            all_goals first | exact gA | (exact getE_dPls (by omega)) | skip
            all_goals first | (refine hK _ ?_; clear hK K) | (simp only [push_cast]; done)
            refine awp_cond rfl (fun hc => ?_) (fun hc => ?_) <;> (try simp only [push_cast] at hc)
            ·
              refine awp_seq' fun K hK => ?_
              refine awp_regionN false tyOk tyPos ?_ rfl ?_
              · kernel_rfl
              simp only [push_cast, ↓brB_true, ↓brB_false, ↓reduceIte, zA, zB, zC, zD, zE, zF, zG, zH, zI, reduceCtorEq]
              all_goals repeat' (first | (apply brB_mk <;> (intro hg; (try simp only [push_cast] at hg))) | apply And.intro | (intro hg; (try simp only [push_cast] at hg)))
              all_goals first | exact gA | (exact getE_dPls (by omega)) | skip
              all_goals first | (refine hK _ ?_; clear hK K) | (simp only [push_cast]; done)
              refine awp_ret ?_
              (try simp only [AThen, ABlk])
              refine ⟨Or.inl rfl, ?_⟩
              simp only [RetOk, resVars, resVar, push_cast, ↓brB_true, ↓brB_false, ↓reduceIte, zA, zB, zC, zD, zE, zF, zG, zH, zI, reduceCtorEq]
              obtain ⟨e1, e2, e3⟩ := fg_no2 (a := a) (f := f) (s := s) (okQ_no2 (i := i) (k := k) (by omega) (by omega) (by show k < (gl a.next (gq (stQ (usA a) rcF ⟨s, f.names⟩ i) i).at_.toNat).length; omega) (by show ixQ (sameQ (gi (gl a.next (gq (stQ (usA a) rcF ⟨s, f.names⟩ i) i).at_.toNat) k) (nextV (gq (stQ (usA a) rcF ⟨s, f.names⟩ i) i).record (gq (stQ (usA a) rcF ⟨s, f.names⟩ i) i).at_)) (rowT (nextV (gq (stQ (usA a) rcF ⟨s, f.names⟩ i) i).record (gq (stQ (usA a) rcF ⟨s, f.names⟩ i) i).at_) (gl a.next (gq (stQ (usA a) rcF ⟨s, f.names⟩ i) i).at_.toNat) (stQ (usA a) rcF ⟨s, f.names⟩ i) k).1 < 0; with_reducible assumption) (by show 256 ≤ (rowT (nextV (gq (stQ (usA a) rcF ⟨s, f.names⟩ i) i).record (gq (stQ (usA a) rcF ⟨s, f.names⟩ i) i).at_) (gl a.next (gq (stQ (usA a) rcF ⟨s, f.names⟩ i) i).at_.toNat) (stQ (usA a) rcF ⟨s, f.names⟩ i) k).1.length; omega))
              rw [e1, e2, e3]
              all_goals first | rfl | exact ⟨rfl, rfl⟩ | (simp [dI, dII, dPls]; done)
            ·
              refine awp_skip ?_
              (try simp only [AThen, ABlk, reduceIte, zF]); refine hK9 _ ?_
              refine awp_regionM 7 13 1 1648 160 [160] tyOk tyPos ?_ rfl rfl rfl fun K9 hK9 => ?_
              · kernel_rfl
              all_goals simp only [push_cast, ↓brB_true, ↓brB_false, ↓reduceIte, zA, zB, zC, zD, zE, zF, zG, zH, zI, reduceCtorEq]
              all_goals repeat' (first | (apply brB_mk <;> (intro hg; (try simp only [push_cast] at hg))) | apply And.intro | (intro hg; (try simp only [push_cast] at hg)))
              all_goals first | exact gA | (exact getE_dPls (by omega)) | skip
              all_goals first | (refine hK9 _ ?_; clear hK9 K9) | (simp only [push_cast]; done)
              all_goals simp only [push_cast, ↓brB_true, ↓brB_false, ↓reduceIte, zA, zB, zC, zD, zE, zF, zG, zH, zI, reduceCtorEq]
              all_goals repeat' (first | (apply brB_mk <;> (intro hg; (try simp only [push_cast] at hg))) | apply And.intro | (intro hg; (try simp only [push_cast] at hg)))
              all_goals first | exact gA | (exact getE_dPls (by omega)) | skip
              (try simp only [AThen, ABlk, reduceIte, zF]); refine hK8 _ ?_
              refine awp_region tyOk tyPos [] rfl ?_
              all_goals simp only [push_cast, ↓brB_true, ↓brB_false, ↓reduceIte, zA, zB, zC, zD, zE, zF, zG, zH, zI, reduceCtorEq]
              all_goals repeat' (first | (apply brB_mk <;> (intro hg; (try simp only [push_cast] at hg))) | apply And.intro | (intro hg; (try simp only [push_cast] at hg)))
              all_goals first | exact gA | (exact getE_dPls (by omega)) | skip
              (try simp only [AThen, ABlk, reduceIte, zF]); refine hK7 _ ?_
              refine awp_region tyOk tyPos [] rfl ?_
              all_goals simp only [push_cast, ↓brB_true, ↓brB_false, ↓reduceIte, zA, zB, zC, zD, zE, zF, zG, zH, zI, reduceCtorEq]
              all_goals repeat' (first | (apply brB_mk <;> (intro hg; (try simp only [push_cast] at hg))) | apply And.intro | (intro hg; (try simp only [push_cast] at hg)))
              all_goals first | exact gA | (exact getE_dPls (by omega)) | skip
              refine hL1 _ ⟨k + 1, ⟨by omega, (by rw [rowT_new (by omega) (by with_reducible assumption), List.length_append, List.length_singleton]; omega)⟩, by omega, ?_⟩
              (try rw [List.take_of_length_le (l := (rowT (nextV (gq (stQ (usA a) rcF ⟨s, f.names⟩ i) i).record (gq (stQ (usA a) rcF ⟨s, f.names⟩ i) i).at_) (gl a.next (gq (stQ (usA a) rcF ⟨s, f.names⟩ i) i).at_.toNat) (stQ (usA a) rcF ⟨s, f.names⟩ i) k).2) (by omega)])
              rw [rowT_new (by omega) (by with_reducible assumption)]
              refine cov_of rfl ?_ ?_ ?_ <;> simp only [covS, covL, push_cast, ↓brB_true, ↓brB_false, ↓reduceIte, zA, zB, zC, zD, zE, zF, zG, zH, zI, reduceCtorEq]
              all_goals first | rfl | (rw [List.length_append]; rfl) | exact ⟨rfl, rfl⟩ | skip
          ·
            refine awp_skip ?_
            (try simp only [AThen, ABlk, reduceIte, zF]); refine hK8 _ ?_
            refine awp_region tyOk tyPos [] rfl ?_
            all_goals simp only [push_cast, ↓brB_true, ↓brB_false, ↓reduceIte, zA, zB, zC, zD, zE, zF, zG, zH, zI, reduceCtorEq]
            all_goals repeat' (first | (apply brB_mk <;> (intro hg; (try simp only [push_cast] at hg))) | apply And.intro | (intro hg; (try simp only [push_cast] at hg)))
            all_goals first | exact gA | (exact getE_dPls (by omega)) | skip
            (try simp only [AThen, ABlk, reduceIte, zF]); refine hK7 _ ?_
            refine awp_region tyOk tyPos [] rfl ?_
            all_goals simp only [push_cast, ↓brB_true, ↓brB_false, ↓reduceIte, zA, zB, zC, zD, zE, zF, zG, zH, zI, reduceCtorEq]
            all_goals repeat' (first | (apply brB_mk <;> (intro hg; (try simp only [push_cast] at hg))) | apply And.intro | (intro hg; (try simp only [push_cast] at hg)))
            all_goals first | exact gA | (exact getE_dPls (by omega)) | skip
            refine hL1 _ ⟨k + 1, ⟨by omega, (by rw [rowT_old (by omega) (by with_reducible assumption)]; omega)⟩, by omega, ?_⟩
            (try rw [List.take_of_length_le (l := (rowT (nextV (gq (stQ (usA a) rcF ⟨s, f.names⟩ i) i).record (gq (stQ (usA a) rcF ⟨s, f.names⟩ i) i).at_) (gl a.next (gq (stQ (usA a) rcF ⟨s, f.names⟩ i) i).at_.toNat) (stQ (usA a) rcF ⟨s, f.names⟩ i) k).2) (by omega)])
            rw [rowT_old (by omega) (by with_reducible assumption)]
            refine cov_of rfl ?_ ?_ ?_ <;> simp only [covS, covL, push_cast, ↓brB_true, ↓brB_false, ↓reduceIte, zA, zB, zC, zD, zE, zF, zG, zH, zI, reduceCtorEq]
            all_goals first | rfl | (rw [List.length_append]; rfl) | exact ⟨rfl, rfl⟩ | skip
        ·
          refine awp_exit ?_
          have hkk : k = (gl a.next (gq (stQ (usA a) rcF ⟨s, f.names⟩ i) i).at_.toNat).length := by omega
          subst hkk
          (try simp only [AThen, ABlk, reduceIte, zF]); refine hK5 _ ?_
          refine awp_seq' fun K hK => ?_
          refine awp_regionD1 false tyOk tyPos tyMix ?_ rfl ?_
          · kernel_rfl
          intro E hE
          all_goals simp only [push_cast, ↓brB_true, ↓brB_false, ↓reduceIte, zA, zB, zC, zD, zE, zF, zG, zH, zI, reduceCtorEq]
          all_goals repeat' (first | (apply brB_mk <;> (intro hg; (try simp only [push_cast] at hg))) | apply And.intro | (intro hg; (try simp only [push_cast] at hg)))
          all_goals first | exact gA | (refine hE _ _ ?_ ?_; kernel_rfl) | (exact getE_dPls (by omega)) | skip
          all_goals clear hE E
          all_goals first | (refine hK _ ?_; clear hK K) | (simp only [push_cast]; done)
          have hSo : Fn Try.prog tyT 67 [.c (DI (List.take (gl a.next (gq (stQ (usA a) rcF ⟨s, f.names⟩ i) i).at_.toNat).length (rowT (nextV (gq (stQ (usA a) rcF ⟨s, f.names⟩ i) i).record (gq (stQ (usA a) rcF ⟨s, f.names⟩ i) i).at_) (gl a.next (gq (stQ (usA a) rcF ⟨s, f.names⟩ i) i).at_.toNat) (stQ (usA a) rcF ⟨s, f.names⟩ i) (gl a.next (gq (stQ (usA a) rcF ⟨s, f.names⟩ i) i).at_.toNat).length).2))] [.c (DI (sortI (rowT (nextV (gq (stQ (usA a) rcF ⟨s, f.names⟩ i) i).record (gq (stQ (usA a) rcF ⟨s, f.names⟩ i) i).at_) (gl a.next (gq (stQ (usA a) rcF ⟨s, f.names⟩ i) i).at_.toNat) (stQ (usA a) rcF ⟨s, f.names⟩ i) (gl a.next (gq (stQ (usA a) rcF ⟨s, f.names⟩ i) i).at_.toNat).length).2))] := by rw [List.take_of_length_le (l := (rowT (nextV (gq (stQ (usA a) rcF ⟨s, f.names⟩ i) i).record (gq (stQ (usA a) rcF ⟨s, f.names⟩ i) i).at_) (gl a.next (gq (stQ (usA a) rcF ⟨s, f.names⟩ i) i).at_.toNat) (stQ (usA a) rcF ⟨s, f.names⟩ i) (gl a.next (gq (stQ (usA a) rcF ⟨s, f.names⟩ i) i).at_.toNat).length).2) (by omega)]; exact l17Sorted_fn _ (by omega)
          refine awp_seq' fun K hK => ?_
          refine awp_regionD1 false tyOk tyPos tyMix ?_ rfl ?_
          · kernel_rfl
          intro E hE
          all_goals refine lexF_cut 5 (by decide) fun K9 hK9 => ?_
          all_goals simp only [push_cast, ↓brB_true, ↓brB_false, ↓reduceIte, zA, zB, zC, zD, zE, zF, zG, zH, zI, reduceCtorEq]
          all_goals repeat' (first | (apply brB_mk <;> (intro hg; (try simp only [push_cast] at hg))) | (refine ⟨_, hSo, ?_⟩; simp only [push_cast, ↓brB_true, ↓brB_false, ↓reduceIte, zA, zB, zC, zD, zE, zF, zG, zH, zI, reduceCtorEq]) | apply And.intro | (intro hg; (try simp only [push_cast] at hg)))
          all_goals first | exact gA | (exact getE_dPls (by omega)) | skip
          all_goals first | (refine hK9 _ _ ?_; clear hK9 K9) | (simp only [push_cast]; done)
          all_goals simp only [push_cast, ↓brB_true, ↓brB_false, ↓reduceIte, zA, zB, zC, zD, zE, zF, zG, zH, zI, reduceCtorEq]
          all_goals repeat' (first | (apply brB_mk <;> (intro hg; (try simp only [push_cast] at hg))) | (refine ⟨_, hSo, ?_⟩; simp only [push_cast, ↓brB_true, ↓brB_false, ↓reduceIte, zA, zB, zC, zD, zE, zF, zG, zH, zI, reduceCtorEq]) | apply And.intro | (intro hg; (try simp only [push_cast] at hg)))
          all_goals first | exact gA | (refine hE _ _ ?_ ?_; kernel_rfl) | (exact getE_dPls (by omega)) | skip
          all_goals clear hE E
          all_goals first | (refine hK _ ?_; clear hK K) | (simp only [push_cast]; done)
          have hgi : gq (rowT (nextV (gq (stQ (usA a) rcF ⟨s, f.names⟩ i) i).record (gq (stQ (usA a) rcF ⟨s, f.names⟩ i) i).at_) (gl a.next (gq (stQ (usA a) rcF ⟨s, f.names⟩ i) i).at_.toNat) (stQ (usA a) rcF ⟨s, f.names⟩ i) (gl a.next (gq (stQ (usA a) rcF ⟨s, f.names⟩ i) i).at_.toNat).length).1 i = (gq (stQ (usA a) rcF ⟨s, f.names⟩ i) i) := rowT_gq (by omega) (Nat.le_refl _)
          have hPq : Fn Try.prog tyT 68 [.agg [DI f.names, DII f.sets], .c (DI (List.take (gq (stQ (usA a) rcF ⟨s, f.names⟩ i) i).record.length (gq (rowT (nextV (gq (stQ (usA a) rcF ⟨s, f.names⟩ i) i).record (gq (stQ (usA a) rcF ⟨s, f.names⟩ i) i).at_) (gl a.next (gq (stQ (usA a) rcF ⟨s, f.names⟩ i) i).at_.toNat) (stQ (usA a) rcF ⟨s, f.names⟩ i) (gl a.next (gq (stQ (usA a) rcF ⟨s, f.names⟩ i) i).at_.toNat).length).1 i).record)), .c (.int .i64 (gq (stQ (usA a) rcF ⟨s, f.names⟩ i) i).at_)] [.c (.int .i64 (prioV f (gq (stQ (usA a) rcF ⟨s, f.names⟩ i) i).record (gq (stQ (usA a) rcF ⟨s, f.names⟩ i) i).at_))] := by rw [hgi, List.take_length]; exact hPr _ (by omega) _
          refine awp_regionD1 false tyOk tyPos tyMix ?_ rfl ?_
          · kernel_rfl
          intro E hE
          all_goals refine lexF_cut 8 (by decide) fun K9 hK9 => ?_
          all_goals simp only [push_cast, ↓brB_true, ↓brB_false, ↓reduceIte, zA, zB, zC, zD, zE, zF, zG, zH, zI, reduceCtorEq]
          all_goals repeat' (first | (apply brB_mk <;> (intro hg; (try simp only [push_cast] at hg))) | (refine ⟨_, hPq, ?_⟩; simp only [push_cast, ↓brB_true, ↓brB_false, ↓reduceIte, zA, zB, zC, zD, zE, zF, zG, zH, zI, reduceCtorEq]) | apply And.intro | (intro hg; (try simp only [push_cast] at hg)))
          all_goals first | exact gA | (exact getE_dPls (by omega)) | skip
          all_goals first | (refine hK9 _ _ ?_; clear hK9 K9) | (simp only [push_cast]; done)
          all_goals simp only [push_cast, ↓brB_true, ↓brB_false, ↓reduceIte, zA, zB, zC, zD, zE, zF, zG, zH, zI, reduceCtorEq]
          all_goals repeat' (first | (apply brB_mk <;> (intro hg; (try simp only [push_cast] at hg))) | (refine ⟨_, hPq, ?_⟩; simp only [push_cast, ↓brB_true, ↓brB_false, ↓reduceIte, zA, zB, zC, zD, zE, zF, zG, zH, zI, reduceCtorEq]) | apply And.intro | (intro hg; (try simp only [push_cast] at hg)))
          all_goals first | exact gA | (refine hE _ _ ?_ ?_; kernel_rfl) | (exact getE_dPls (by omega)) | skip
          all_goals clear hE E
          (try simp only [AThen, ABlk, reduceIte, zF]); refine hK4 _ ?_
          refine awp_settleB [.sl 2, .sl 22, .sl 2] 11 ?_
          simp only [push_cast, ↓brB_true, ↓brB_false, ↓reduceIte, zA, zB, zC, zD, zE, zF, zG, zH, zI, reduceCtorEq]
          refine awp_region tyOk tyPos [] rfl ?_
          all_goals simp only [push_cast, ↓brB_true, ↓brB_false, ↓reduceIte, zA, zB, zC, zD, zE, zF, zG, zH, zI, reduceCtorEq]
          all_goals repeat' (first | (apply brB_mk <;> (intro hg; (try simp only [push_cast] at hg))) | apply And.intro | (intro hg; (try simp only [push_cast] at hg)))
          all_goals first | exact gA | (exact getE_dPls (by omega)) | skip
          have hst : (stQ (usA a) rcF ⟨s, f.names⟩ (i + 1)) = (rowT (nextV (gq (stQ (usA a) rcF ⟨s, f.names⟩ i) i).record (gq (stQ (usA a) rcF ⟨s, f.names⟩ i) i).at_) (gl a.next (gq (stQ (usA a) rcF ⟨s, f.names⟩ i) i).at_.toNat) (stQ (usA a) rcF ⟨s, f.names⟩ i) (gl a.next (gq (stQ (usA a) rcF ⟨s, f.names⟩ i) i).at_.toNat).length).1 := stQ_s (by omega)
          refine hL0 _ ⟨i + 1, ⟨by omega, (by rw [hst]; omega), (by rw [hst]; omega)⟩, by omega, ?_⟩
          (try rw [List.take_of_length_le (l := ownG a rcF ⟨s, f.names⟩ i) (by omega)])
          (try rw [List.take_of_length_le (l := nxG a rcF ⟨s, f.names⟩ i) (by omega)])
          (try rw [List.take_of_length_le (l := prG a rcF (prF f) ⟨s, f.names⟩ i) (by omega)])
          rw [hst, ownG_s, nxG_s, prG_s, show plQ (usA a) rcF ⟨s, f.names⟩ i = (gq (stQ (usA a) rcF ⟨s, f.names⟩ i) i) from rfl, show nxQ (usA a) rcF ⟨s, f.names⟩ i = sortI (rowT (nextV (gq (stQ (usA a) rcF ⟨s, f.names⟩ i) i).record (gq (stQ (usA a) rcF ⟨s, f.names⟩ i) i).at_) (gl a.next (gq (stQ (usA a) rcF ⟨s, f.names⟩ i) i).at_.toNat) (stQ (usA a) rcF ⟨s, f.names⟩ i) (gl a.next (gq (stQ (usA a) rcF ⟨s, f.names⟩ i) i).at_.toNat).length).2 from rfl, show prF f (gq (stQ (usA a) rcF ⟨s, f.names⟩ i) i) = prioV f (gq (stQ (usA a) rcF ⟨s, f.names⟩ i) i).record (gq (stQ (usA a) rcF ⟨s, f.names⟩ i) i).at_ from rfl]
          refine cov_of rfl ?_ ?_ ?_ <;> simp only [covS, covL, push_cast, ↓brB_true, ↓brB_false, ↓reduceIte, zA, zB, zC, zD, zE, zF, zG, zH, zI, reduceCtorEq]
          all_goals first | rfl | exact ⟨rfl, rfl, rfl, rfl⟩ | skip
    ·
      refine awp_exit ?_
      (try simp only [AThen, ABlk, reduceIte, zF]); refine hK2 _ ?_
      refine awp_seq' fun K hK => ?_
      refine awp_region tyOk tyPos [] rfl ?_
      all_goals simp only [push_cast, ↓brB_true, ↓brB_false, ↓reduceIte, zA, zB, zC, zD, zE, zF, zG, zH, zI, reduceCtorEq]
      all_goals repeat' (first | (apply brB_mk <;> (intro hg; (try simp only [push_cast] at hg))) | apply And.intro | (intro hg; (try simp only [push_cast] at hg)))
      all_goals first | exact gA | (exact getE_dPls (by omega)) | skip
      all_goals first | (refine hK _ ?_; clear hK K) | (simp only [push_cast]; done)
      refine awp_ret ?_
      (try simp only [AThen, ABlk])
      refine ⟨Or.inl rfl, ?_⟩
      simp only [RetOk, resVars, resVar, push_cast, ↓brB_true, ↓brB_false, ↓reduceIte, zA, zB, zC, zD, zE, zF, zG, zH, zI, reduceCtorEq]
      obtain ⟨e1, e2, e3⟩ := gmR_yes (a := a) (rc := rcF) (pr := prF f) (p0 := ⟨s, f.names⟩) (i := i) hC hi (by omega) hil
      unfold fgG fgP fgB
      rw [e1, e2, e3]
      simp only [gmA, ho1, ho2, ho3]
      all_goals first | rfl | exact ⟨⟨⟨rfl, rfl⟩, ⟨rfl, rfl⟩, ⟨rfl, rfl⟩⟩, rfl, rfl⟩ | exact ⟨rfl, rfl⟩ | (simp; done)
end Go.Proofs.Ytklconkoamoabaa

namespace Go.Proofs.Ytklconkoamoabaa
open Nat renaming reduceMod → zA, reduceMul → zB, reduceDiv → zC, reduceAdd → zD, reduceSub → zE, reduceEqDiff → zF, reduceBEq → zG, reduceLT → zH, reduceLeDiff → zI
open Go.RowKit
set_option linter.unusedVariables false
set_option linter.unusedSimpArgs false

set_option maxRecDepth 20000 in
set_option maxHeartbeats 4000000 in
theorem placeIn1_fn (p : Plc) (hp : p.record.length ≤ 1048576) (u : Int) (r : List Int) (hr : r.length ≤ 1048576) : FnX Try.prog tyT 123 [.v (.agg [.int .i64 p.at_, DI p.record]), .ref (.lst 2 [.int .i64 u]), .ref (.lst 2 [DI r])] [.c (.bool (sameQ u r p))] := by
  have hE := Equal_fn p.record r hp hr
  refine FnX_of (fn := Try.f123) (rs := [.tmp 4]) tyOk tyPos Try.func123 (by kernel_rfl) rfl rfl (by rw [Try.ntmps123]; exact Nat.le_of_ble_eq_true rfl) rfl (by simp only [szX, List.mem_cons, List.not_mem_nil, or_false, forall_eq_or_imp, forall_eq, XT.cells, VT.cells, szL]; try decide) ?_
  rw [Try.ntmps123]
  simp only [push_cast, ↓brB_true, ↓brB_false, ↓reduceIte, zA, zB, zC, zD, zE, zF, zG, zH, zI, reduceCtorEq]
  refine awp_seq' fun K hK => ?_
  refine awp_region tyOk tyPos [] rfl ?_
  simp only [push_cast, ↓brB_true, ↓brB_false, ↓reduceIte, zA, zB, zC, zD, zE, zF, zG, zH, zI, reduceCtorEq]
  repeat' apply And.intro
  all_goals try exact gB
  all_goals first | (refine hK _ ?_; clear hK K) | (simp only [push_cast]; done)
  refine awp_seq' fun K hK => ?_
  refine awp_regionN false tyOk tyPos ?_ rfl ?_
  · kernel_rfl
  all_goals refine seqE_cut 9 fun K9 hK9 => ?_
  all_goals simp only [push_cast, ↓brB_true, ↓brB_false, ↓reduceIte, zA, zB, zC, zD, zE, zF, zG, zH, zI, reduceCtorEq]
  all_goals repeat' (first | (apply brB_mk <;> (intro hg; (try simp only [push_cast] at hg))) | (refine ⟨_, hE, ?_⟩; simp only [push_cast, ↓brB_true, ↓brB_false, ↓reduceIte, zA, zB, zC, zD, zE, zF, zG, zH, zI, reduceCtorEq]) | apply And.intro | (intro hg; (try simp only [push_cast] at hg)))
  all_goals try exact gA
  all_goals first | (refine hK9 _ ?_; clear hK9 K9) | (simp only [push_cast]; done)
  all_goals simp only [push_cast, ↓brB_true, ↓brB_false, ↓reduceIte, zA, zB, zC, zD, zE, zF, zG, zH, zI, reduceCtorEq]
  all_goals repeat' (first | (apply brB_mk <;> (intro hg; (try simp only [push_cast] at hg))) | (refine ⟨_, hE, ?_⟩; simp only [push_cast, ↓brB_true, ↓brB_false, ↓reduceIte, zA, zB, zC, zD, zE, zF, zG, zH, zI, reduceCtorEq]) | apply And.intro | (intro hg; (try simp only [push_cast] at hg)))
  all_goals try exact gA
  all_goals first | (refine hK _ ?_; clear hK K) | (simp only [push_cast]; done)
  all_goals (
      refine awp_ret ?_
      (try simp only [AThen, ABlk])
      refine ⟨Or.inl rfl, ?_⟩
      simp only [RetOk, resVars, resVar, push_cast, ↓brB_true, ↓brB_false, ↓reduceIte, zA, zB, zC, zD, zE, zF, zG, zH, zI, reduceCtorEq]
      all_goals first | exact (sameQ_no1 (by omega)).symm | (unfold sameQ; rw [decide_eq_true (by with_reducible assumption)]; rfl) | (unfold sameQ; simp_all; done))
set_option maxRecDepth 20000 in
set_option maxHeartbeats 4000000 in
theorem IndexFuncQ_fn (ps : List Plc) (ha : QLn 1048576 ps) (g : FuncId) (d1 d2 : D) (c1 c2 : List D) (q : Plc → Bool) (hp : ∀ k, k < ps.length → FnX Try.prog tyT g [.v (.agg [.int .i64 (gq ps k).at_, DI (gq ps k).record]), .ref (.lst 2 (d1 :: c1)), .ref (.lst 2 (d2 :: c2))] [.c (.bool (q (gq ps k)))]) : FnX Try.prog tyT 122 [.v (.c (.lst 78 (dPls ps))), .clo g [.lst 2 (d1 :: c1), .lst 2 (d2 :: c2)]] [.c (.int .i64 (ixQ q ps))] := by
  have hl := ha.1
  have hgl := fun k => gq_le ha k
  refine FnX_of (fn := Try.f122) (rs := [.tmp 4]) tyOk tyPos Try.func122 (by kernel_rfl) rfl rfl (by rw [Try.ntmps122]; exact Nat.le_of_ble_eq_true rfl) rfl (by simp only [szX, List.mem_cons, List.not_mem_nil, or_false, forall_eq_or_imp, forall_eq, XT.cells, VT.cells, szL]; try decide) ?_
  rw [Try.ntmps122]
  simp only [push_cast, ↓brB_true, ↓brB_false, ↓reduceIte, zA, zB, zC, zD, zE, zF, zG, zH, zI, reduceCtorEq]
  refine awp_seq' fun K hK => ?_
  refine awp_region tyOk tyPos [] rfl ?_
  all_goals simp only [push_cast, ↓brB_true, ↓brB_false, ↓reduceIte, zA, zB, zC, zD, zE, zF, zG, zH, zI, reduceCtorEq]
  all_goals repeat' (first | (apply brB_mk <;> (intro hg; (try simp only [push_cast] at hg))) | apply And.intro | (intro hg; (try simp only [push_cast] at hg)))
  all_goals first | exact gA | (exact getE_dPls (by omega)) | skip
  all_goals first | (refine hK _ ?_; clear hK K) | (simp only [push_cast]; done)
  refine awp_seq' fun K1 hK1 => ?_
  refine awp_seq' fun K hK => ?_
  refine awp_region tyOk tyPos [] rfl ?_
  all_goals simp only [push_cast, ↓brB_true, ↓brB_false, ↓reduceIte, zA, zB, zC, zD, zE, zF, zG, zH, zI, reduceCtorEq]
  all_goals repeat' (first | (apply brB_mk <;> (intro hg; (try simp only [push_cast] at hg))) | apply And.intro | (intro hg; (try simp only [push_cast] at hg)))
  all_goals first | exact gA | (exact getE_dPls (by omega)) | skip
  all_goals first | (refine hK _ ?_; clear hK K) | (simp only [push_cast]; done)
  refine awp_block ?_
  refine awp_loopU [4,5,8,9,10,11,12,13,14,15,16,17,18] [] (fun (k : Nat) => [(8, .int .i64 k)]) (fun k => []) (fun k => []) (fun k => k ≤ ps.length ∧ ∀ j, j < k → q (gq ps j) = false) (fun k => ps.length - k) 0 ?_ ⟨by omega, fun j hj => by omega⟩ ?_
  ·
    refine cov_of rfl ?_ ?_ ?_ <;> simp only [covS, covL, push_cast, ↓brB_true, ↓brB_false, ↓reduceIte, zA, zB, zC, zD, zE, zF, zG, zH, zI, reduceCtorEq]
  · rintro k ⟨hk, hall⟩ KL0 hL0
    simp only [push_cast, ↓brB_true, ↓brB_false, ↓reduceIte, zA, zB, zC, zD, zE, zF, zG, zH, zI, reduceCtorEq]
    refine awp_seq' fun K hK => ?_
    refine awp_region tyOk tyPos [] rfl ?_
    all_goals simp only [push_cast, ↓brB_true, ↓brB_false, ↓reduceIte, zA, zB, zC, zD, zE, zF, zG, zH, zI, reduceCtorEq]
    all_goals repeat' (first | (apply brB_mk <;> (intro hg; (try simp only [push_cast] at hg))) | apply And.intro | (intro hg; (try simp only [push_cast] at hg)))
    all_goals first | exact gA | (exact getE_dPls (by omega)) | skip
    all_goals first | (refine hK _ ?_; clear hK K) | (simp only [push_cast]; done)
    refine awp_seq' fun K2 hK2 => ?_
    refine awp_cond rfl (fun hc => ?_) (fun hc => ?_) <;> (try simp only [push_cast] at hc)
    ·
      refine awp_skip ?_
      (try simp only [AThen, ABlk, reduceIte, zF]); refine hK2 _ ?_
      refine awp_seq' fun K3 hK3 => ?_
      refine awp_block ?_
      refine awp_seq' fun K hK => ?_
      refine awp_region tyOk tyPos [] rfl ?_
      all_goals simp only [push_cast, ↓brB_true, ↓brB_false, ↓reduceIte, zA, zB, zC, zD, zE, zF, zG, zH, zI, reduceCtorEq]
      all_goals repeat' (first | (apply brB_mk <;> (intro hg; (try simp only [push_cast] at hg))) | apply And.intro | (intro hg; (try simp only [push_cast] at hg)))
      all_goals first | exact gA | (exact getE_dPls (by omega)) | skip
      all_goals first | (refine hK _ ?_; clear hK K) | (simp only [push_cast]; done)
      refine awp_seq' fun K hK => ?_
      refine awp_regionX 16 2 rfl tyOk tyPos [] rfl ?_
      simp only [push_cast, ↓brB_true, ↓brB_false, ↓reduceIte, zA, zB, zC, zD, zE, zF, zG, zH, zI, reduceCtorEq]
      repeat' apply And.intro
      all_goals (try simp only [push_cast, ↓brB_true, ↓brB_false, ↓reduceIte, zA, zB, zC, zD, zE, zF, zG, zH, zI, reduceCtorEq])
      all_goals repeat' (first | (apply brB_mk <;> (intro hg; (try simp only [push_cast] at hg))) | (refine ⟨_, hp k (by omega), ?_⟩; simp only [push_cast, ↓brB_true, ↓brB_false, ↓reduceIte, zA, zB, zC, zD, zE, zF, zG, zH, zI, reduceCtorEq]) | apply And.intro | (intro hg; (try simp only [push_cast] at hg)))
      all_goals first | exact gA | (exact getE_dPls (by omega)) | skip
      all_goals first | (refine hK _ ?_; clear hK K) | (simp only [push_cast]; done)
      refine awp_cond rfl (fun hc => ?_) (fun hc => ?_) <;> (try simp only [push_cast] at hc)
      ·
        refine awp_seq' fun K hK => ?_
        refine awp_region tyOk tyPos [] rfl ?_
        all_goals simp only [push_cast, ↓brB_true, ↓brB_false, ↓reduceIte, zA, zB, zC, zD, zE, zF, zG, zH, zI, reduceCtorEq]
        all_goals repeat' (first | (apply brB_mk <;> (intro hg; (try simp only [push_cast] at hg))) | apply And.intro | (intro hg; (try simp only [push_cast] at hg)))
        all_goals first | exact gA | (exact getE_dPls (by omega)) | skip
        all_goals first | (refine hK _ ?_; clear hK K) | (simp only [push_cast]; done)
        refine awp_ret ?_
        (try simp only [AThen, ABlk])
        refine ⟨Or.inl rfl, ?_⟩
        simp only [RetOk, resVars, resVar, push_cast, ↓brB_true, ↓brB_false, ↓reduceIte, zA, zB, zC, zD, zE, zF, zG, zH, zI, reduceCtorEq]
        rw [ixQ_found (k := k) (by omega) (fun j hj => hall j hj) hc]
      ·
        refine awp_skip ?_
        (try simp only [AThen, ABlk, reduceIte, zF]); refine hK3 _ ?_
        refine awp_region tyOk tyPos [] rfl ?_
        all_goals simp only [push_cast, ↓brB_true, ↓brB_false, ↓reduceIte, zA, zB, zC, zD, zE, zF, zG, zH, zI, reduceCtorEq]
        all_goals repeat' (first | (apply brB_mk <;> (intro hg; (try simp only [push_cast] at hg))) | apply And.intro | (intro hg; (try simp only [push_cast] at hg)))
        all_goals first | exact gA | (exact getE_dPls (by omega)) | skip
        refine hL0 _ ⟨k + 1, ⟨by omega, fun j hj => (by
            by_cases hjk : j = k
            · subst hjk; exact hc
            · exact hall j (by omega))⟩, by omega, ?_⟩
        refine cov_of rfl ?_ ?_ ?_ <;> simp only [covS, covL, push_cast, ↓brB_true, ↓brB_false, ↓reduceIte, zA, zB, zC, zD, zE, zF, zG, zH, zI, reduceCtorEq]
    ·
      refine awp_exit ?_
      (try simp only [AThen, ABlk, reduceIte, zF]); refine hK1 _ ?_
      refine awp_seq' fun K hK => ?_
      refine awp_region tyOk tyPos [] rfl ?_
      all_goals simp only [push_cast, ↓brB_true, ↓brB_false, ↓reduceIte, zA, zB, zC, zD, zE, zF, zG, zH, zI, reduceCtorEq]
      all_goals repeat' (first | (apply brB_mk <;> (intro hg; (try simp only [push_cast] at hg))) | apply And.intro | (intro hg; (try simp only [push_cast] at hg)))
      all_goals first | exact gA | (exact getE_dPls (by omega)) | skip
      all_goals first | (refine hK _ ?_; clear hK K) | (simp only [push_cast]; done)
      refine awp_ret ?_
      (try simp only [AThen, ABlk])
      refine ⟨Or.inl rfl, ?_⟩
      simp only [RetOk, resVars, resVar, push_cast, ↓brB_true, ↓brB_false, ↓reduceIte, zA, zB, zC, zD, zE, zF, zG, zH, zI, reduceCtorEq]
      rw [ixQ_none fun j hj => hall j (by omega)]
set_option maxRecDepth 20000 in
set_option maxHeartbeats 4000000 in
theorem placeIn_fn (ps : List Plc) (ha : QLn 1048576 ps) (u : Int) (r : List Int) (hr : r.length ≤ 1048576) : Fn Try.prog tyT 100 [.c (.lst 78 (dPls ps)), .c (.int .i64 u), .c (DI r)] [.c (.int .i64 (ixQ (sameQ u r) ps))] := by
  refine Fn_of (fn := Try.f100) (ts := [6]) Try.func100 (by kernel_rfl) rfl rfl (by rw [Try.ntmps100]; exact Nat.le_of_ble_eq_true rfl) rfl (by simp only [szA, List.mem_cons, List.not_mem_nil, or_false, forall_eq_or_imp, forall_eq, VT.cells, szL]; try decide) ?_
  rw [Try.ntmps100]
  simp only [push_cast, ↓brB_true, ↓brB_false, ↓reduceIte, zA, zB, zC, zD, zE, zF, zG, zH, zI, reduceCtorEq]
  refine awp_seq' fun K hK => ?_
  refine awp_region tyOk tyPos [] rfl ?_
  all_goals simp only [push_cast, ↓brB_true, ↓brB_false, ↓reduceIte, zA, zB, zC, zD, zE, zF, zG, zH, zI, reduceCtorEq]
  all_goals repeat' (first | (apply brB_mk <;> (intro hg; (try simp only [push_cast] at hg))) | (refine ⟨_, IndexFuncQ_fn ps ha _ (.int .i64 u) (DI r) [] [] (sameQ u r) (fun k hk => placeIn1_fn (gq ps k) (gq_le ha k) u r hr), ?_⟩; simp only [push_cast, ↓brB_true, ↓brB_false, ↓reduceIte, zA, zB, zC, zD, zE, zF, zG, zH, zI, reduceCtorEq]) | apply And.intro | (intro hg; (try simp only [push_cast] at hg)))
  all_goals first | exact gA | decide | skip
  all_goals first | (refine hK _ ?_; clear hK K) | (simp only [push_cast]; done)
  refine awp_seq' fun K hK => ?_
  refine awp_regionX 9 2 rfl tyOk tyPos [] rfl ?_
  simp only [push_cast, ↓brB_true, ↓brB_false, ↓reduceIte, zA, zB, zC, zD, zE, zF, zG, zH, zI, reduceCtorEq]
  repeat' apply And.intro
  all_goals (try simp only [push_cast, ↓brB_true, ↓brB_false, ↓reduceIte, zA, zB, zC, zD, zE, zF, zG, zH, zI, reduceCtorEq])
  all_goals repeat' (first | (apply brB_mk <;> (intro hg; (try simp only [push_cast] at hg))) | (refine ⟨_, IndexFuncQ_fn ps ha _ (.int .i64 u) (DI r) [] [] (sameQ u r) (fun k hk => placeIn1_fn (gq ps k) (gq_le ha k) u r hr), ?_⟩; simp only [push_cast, ↓brB_true, ↓brB_false, ↓reduceIte, zA, zB, zC, zD, zE, zF, zG, zH, zI, reduceCtorEq]) | apply And.intro | (intro hg; (try simp only [push_cast] at hg)))
  all_goals first | exact gA | decide | skip
  all_goals first | (refine hK _ ?_; clear hK K) | (simp only [push_cast]; done)
  refine awp_ret ?_
  (try simp only [AThen, ABlk])
  refine ⟨Or.inl rfl, ?_⟩
  simp only [RetOk, push_cast, ↓brB_true, ↓brB_false, ↓reduceIte, zA, zB, zC, zD, zE, zF, zG, zH, zI, reduceCtorEq]
end Go.Proofs.Ytklconkoamoabaa

namespace Go.Proofs.Ytklconkoamoabaa
open Nat renaming reduceMod → zA, reduceMul → zB, reduceDiv → zC, reduceAdd → zD, reduceSub → zE, reduceEqDiff → zF, reduceBEq → zG, reduceLT → zH, reduceLeDiff → zI
open Go.RowKit
set_option linter.unusedVariables false
set_option linter.unusedSimpArgs false

set_option maxRecDepth 20000 in
set_option maxHeartbeats 4000000 in
theorem FamilyGame1_fn (f : Fm) (hf : f.Ln 1048576) (p : Plc) (hp : p.record.length ≤ 1048576) (hv : visB f p.record = true) : FnX Try.prog tyT 72 [.v (.agg [.int .i64 p.at_, DI p.record]), .ref (.lst 2 [DI f.names, DII f.sets])] [.c (DI (nextV p.record p.at_))] := by
  have hN := nextVisits_fn f hf p.record hp p.at_ hv
  unfold dFm at hN
  refine FnX_of (fn := Try.f72) (rs := [.tmp 3]) tyOk tyPos Try.func72 (by kernel_rfl) rfl rfl (by rw [Try.ntmps72]; exact Nat.le_of_ble_eq_true rfl) rfl (by simp only [szX, List.mem_cons, List.not_mem_nil, or_false, forall_eq_or_imp, forall_eq, XT.cells, VT.cells, szL]; try decide) ?_
  rw [Try.ntmps72]
  simp only [push_cast, ↓brB_true, ↓brB_false, ↓reduceIte, zA, zB, zC, zD, zE, zF, zG, zH, zI, reduceCtorEq]
  refine awp_seq' fun K hK => ?_
  refine awp_region tyOk tyPos [] rfl ?_
  simp only [push_cast, ↓brB_true, ↓brB_false, ↓reduceIte, zA, zB, zC, zD, zE, zF, zG, zH, zI, reduceCtorEq]
  repeat' apply And.intro
  all_goals try exact gB
  all_goals first | (refine hK _ ?_; clear hK K) | (simp only [push_cast]; done)
  refine awp_seq' fun K hK => ?_
  refine awp_region tyOk tyPos [] rfl ?_
  all_goals refine aops_cut 6 fun K9 hK9 => ?_
  all_goals simp only [push_cast, ↓brB_true, ↓brB_false, ↓reduceIte, zA, zB, zC, zD, zE, zF, zG, zH, zI, reduceCtorEq]
  all_goals repeat' (first | (apply brB_mk <;> (intro hg; (try simp only [push_cast] at hg))) | (refine ⟨_, hN, ?_⟩; simp only [push_cast, ↓brB_true, ↓brB_false, ↓reduceIte, zA, zB, zC, zD, zE, zF, zG, zH, zI, reduceCtorEq]) | apply And.intro | (intro hg; (try simp only [push_cast] at hg)))
  all_goals try exact gA
  all_goals first | (refine hK9 _ ?_; clear hK9 K9) | (simp only [push_cast]; done)
  all_goals simp only [push_cast, ↓brB_true, ↓brB_false, ↓reduceIte, zA, zB, zC, zD, zE, zF, zG, zH, zI, reduceCtorEq]
  all_goals repeat' (first | (apply brB_mk <;> (intro hg; (try simp only [push_cast] at hg))) | (refine ⟨_, hN, ?_⟩; simp only [push_cast, ↓brB_true, ↓brB_false, ↓reduceIte, zA, zB, zC, zD, zE, zF, zG, zH, zI, reduceCtorEq]) | apply And.intro | (intro hg; (try simp only [push_cast] at hg)))
  all_goals try exact gA
  all_goals first | (refine hK _ ?_; clear hK K) | (simp only [push_cast]; done)
  refine awp_ret ?_
  (try simp only [AThen, ABlk])
  refine ⟨Or.inl rfl, ?_⟩
  simp only [RetOk, resVars, resVar, push_cast, ↓brB_true, ↓brB_false, ↓reduceIte, zA, zB, zC, zD, zE, zF, zG, zH, zI, reduceCtorEq]
set_option maxRecDepth 20000 in
set_option maxHeartbeats 4000000 in
theorem FamilyGame2_fn (f : Fm) (hf : f.Ln 1048576) (p : Plc) (hp : p.record.length ≤ 1048576) (hv : visB f p.record = true) : FnX Try.prog tyT 74 [.v (.agg [.int .i64 p.at_, DI p.record]), .ref (.lst 2 [DI f.names, DII f.sets])] [.c (.int .i64 (prioV f p.record p.at_))] := by
  have hN := visitPrio_fn f hf p.record hp p.at_ hv
  unfold dFm at hN
  refine FnX_of (fn := Try.f74) (rs := [.tmp 3]) tyOk tyPos Try.func74 (by kernel_rfl) rfl rfl (by rw [Try.ntmps74]; exact Nat.le_of_ble_eq_true rfl) rfl (by simp only [szX, List.mem_cons, List.not_mem_nil, or_false, forall_eq_or_imp, forall_eq, XT.cells, VT.cells, szL]; try decide) ?_
  rw [Try.ntmps74]
  simp only [push_cast, ↓brB_true, ↓brB_false, ↓reduceIte, zA, zB, zC, zD, zE, zF, zG, zH, zI, reduceCtorEq]
  refine awp_seq' fun K hK => ?_
  refine awp_region tyOk tyPos [] rfl ?_
  simp only [push_cast, ↓brB_true, ↓brB_false, ↓reduceIte, zA, zB, zC, zD, zE, zF, zG, zH, zI, reduceCtorEq]
  repeat' apply And.intro
  all_goals try exact gB
  all_goals first | (refine hK _ ?_; clear hK K) | (simp only [push_cast]; done)
  refine awp_seq' fun K hK => ?_
  refine awp_region tyOk tyPos [] rfl ?_
  all_goals refine aops_cut 6 fun K9 hK9 => ?_
  all_goals simp only [push_cast, ↓brB_true, ↓brB_false, ↓reduceIte, zA, zB, zC, zD, zE, zF, zG, zH, zI, reduceCtorEq]
  all_goals repeat' (first | (apply brB_mk <;> (intro hg; (try simp only [push_cast] at hg))) | (refine ⟨_, hN, ?_⟩; simp only [push_cast, ↓brB_true, ↓brB_false, ↓reduceIte, zA, zB, zC, zD, zE, zF, zG, zH, zI, reduceCtorEq]) | apply And.intro | (intro hg; (try simp only [push_cast] at hg)))
  all_goals try exact gA
  all_goals first | (refine hK9 _ ?_; clear hK9 K9) | (simp only [push_cast]; done)
  all_goals simp only [push_cast, ↓brB_true, ↓brB_false, ↓reduceIte, zA, zB, zC, zD, zE, zF, zG, zH, zI, reduceCtorEq]
  all_goals repeat' (first | (apply brB_mk <;> (intro hg; (try simp only [push_cast] at hg))) | (refine ⟨_, hN, ?_⟩; simp only [push_cast, ↓brB_true, ↓brB_false, ↓reduceIte, zA, zB, zC, zD, zE, zF, zG, zH, zI, reduceCtorEq]) | apply And.intro | (intro hg; (try simp only [push_cast] at hg)))
  all_goals try exact gA
  all_goals first | (refine hK _ ?_; clear hK K) | (simp only [push_cast]; done)
  refine awp_ret ?_
  (try simp only [AThen, ABlk])
  refine ⟨Or.inl rfl, ?_⟩
  simp only [RetOk, resVars, resVar, push_cast, ↓brB_true, ↓brB_false, ↓reduceIte, zA, zB, zC, zD, zE, zF, zG, zH, zI, reduceCtorEq]
end Go.Proofs.Ytklconkoamoabaa

namespace Go.Proofs.Ytklconkoamoabaa
open Nat renaming reduceMod → zA, reduceMul → zB, reduceDiv → zC, reduceAdd → zD, reduceSub → zE, reduceEqDiff → zF, reduceBEq → zG, reduceLT → zH, reduceLeDiff → zI
open Go.RowKit
set_option linter.unusedVariables false
set_option linter.unusedSimpArgs false

section
variable {P : Program} {τ : Ty} {st : St}
def unpinR : List (Nat × Root) → List (Nat × Root)
  | [] => []
  | (d, R) :: l => (d, { R with pin := none }) :: unpinR l
def St.unpin (st : St) : St := ⟨st.n, st.s, st.b, unpinR st.r⟩
theorem lk_unpinR : ∀ (l : List (Nat × Root)) (d : Nat) (R' : Root), lk (unpinR l) d = some R' → ∃ R, lk l d = some R ∧ R' = { R with pin := none }
  | [], d, R', h => by simp [unpinR, lk] at h
  | (k, R) :: l, d, R', h => by
    simp only [unpinR, lk] at h ⊢
    split at h
    · rename_i e
      rw [if_pos e]
      cases h
      exact ⟨R, rfl, rfl⟩
    · rename_i e
      rw [if_neg e]
      exact lk_unpinR l d R' h
mutual
theorem AvR_unpin {w : World} {rr : List (Nat × Root)} {bb : List (Nat × List AV)} {hd : Nat → Value} {bk : Nat → Nat} : ∀ (v : AV) (z : Value), AvR τ w rr bb hd bk v z → AvR τ w (unpinR rr) bb hd bk v z
  | .int k n, z, h => by simp only [AvR] at h ⊢; exact h
  | .bool b, z, h => by simp only [AvR] at h ⊢; exact h
  | .sl d p off len e, z, h => by
    simp only [AvR] at h ⊢
    refine ⟨h.1, fun R' hR' hp => ?_⟩
    obtain ⟨R, hR, rfl⟩ := lk_unpinR _ _ _ hR'
    exact h.2 R hR hp
  | .nil, z, h => by simp only [AvR] at h ⊢; exact h
  | .ep d p i, z, h => by
    simp only [AvR] at h ⊢
    refine ⟨h.1, fun R' hR' hp => ?_⟩
    obtain ⟨R, hR, rfl⟩ := lk_unpinR _ _ _ hR'
    exact h.2 R hR hp
  | .bp t i, z, h => by simp only [AvR] at h ⊢; exact h
  | .agg vs, z, h => by
    simp only [AvR] at h ⊢
    obtain ⟨cs, h1, h2⟩ := h
    exact ⟨cs, h1, AvRL_unpin vs cs h2⟩
  | .tup vs, z, h => by
    simp only [AvR] at h ⊢
    obtain ⟨cs, h1, h2⟩ := h
    exact ⟨cs, h1, AvRL_unpin vs cs h2⟩
  | .fn f vs, z, h => by
    simp only [AvR] at h ⊢
    obtain ⟨cs, h1, h2⟩ := h
    exact ⟨cs, h1, AvRL_unpin vs cs h2⟩
  | .dead, z, h => by simp only [AvR]
  | .raw u, z, h => by simpa only [AvR] using h
theorem AvRL_unpin {w : World} {rr : List (Nat × Root)} {bb : List (Nat × List AV)} {hd : Nat → Value} {bk : Nat → Nat} : ∀ (vs : List AV) (zs : List Value), AvRL τ w rr bb hd bk vs zs → AvRL τ w (unpinR rr) bb hd bk vs zs
  | [], zs, h => by simp only [AvRL] at h ⊢; exact h
  | x :: xs, zs, h => by
    simp only [AvRL] at h ⊢
    obtain ⟨v, vs', h1, h2, h3⟩ := h
    exact ⟨v, vs', h1, AvR_unpin x v h2, AvRL_unpin xs vs' h3⟩
end
theorem awp_unpin {c : Code} {Q : Exit → St → Prop} (hK : awp P τ c Q st.unpin) : awp P τ c Q st := fun lo w0 a w hr => by
  obtain ⟨ow, hd, bk, h⟩ := hr
  refine hK lo w0 a w ⟨ow, hd, bk, h.big, h.defers, h.size, h.low, h.below, h.ge, h.new, fun k v hv => AvR_unpin v _ (h.slot k v hv), fun d R' hR' => ?_, fun t vs hv => ?_, fun d R' i hR' hp => ?_⟩
  · obtain ⟨R, hR, rfl⟩ := lk_unpinR _ _ _ hR'
    exact h.root d R hR
  · obtain ⟨cs, ty, h1, h2, h3⟩ := h.box t vs hv
    exact ⟨cs, ty, h1, h2, AvRL_unpin vs cs h3⟩
  · obtain ⟨R, hR, rfl⟩ := lk_unpinR _ _ _ hR'
    cases hp
end
attribute [push_cast] St.unpin unpinR
set_option maxRecDepth 20000 in
set_option maxHeartbeats 4000000 in
theorem withVertex_fn (g : Pa) (hg : g.Ln 1000000) (o p : Int) (nx : List Int) (hx : nx.length ≤ 1000000) : FnG Try.prog tyT 102 [.agg (dPa g), .c (.int .i64 o), .c (.int .i64 p), .c (DI nx)] [0, 1, 2, 48] [] [.agg (dPa ⟨⟨g.a.owner ++ [o], g.a.next ++ [nx]⟩, g.prio ++ [p]⟩)] := by
  have h1 := hg.a.owner
  have h2 := hg.a.next.1
  have h3 := hg.prio
  unfold LnI at h1 h3
  unfold dPa
  refine FnG_of (fn := Try.f102) (rs := [.cell 8 48]) (own := [0, 1, 2, 48]) (outs := []) tyOk tyPos Try.func102 (by kernel_rfl) rfl rfl (by rw [Try.ntmps102]; exact Nat.le_of_ble_eq_true rfl) rfl (by simp only [szA, List.mem_cons, List.not_mem_nil, or_false, forall_eq_or_imp, forall_eq, VT.cells, szL]; try decide) ?_
  rw [Try.ntmps102]
  simp only [push_cast, ↓brB_true, ↓brB_false, ↓reduceIte, zA, zB, zC, zD, zE, zF, zG, zH, zI, reduceCtorEq]
  refine awp_seq' fun K hK => ?_
  refine awp_region tyOk tyPos [] rfl ?_
  simp only [push_cast, ↓brB_true, ↓brB_false, ↓reduceIte, zA, zB, zC, zD, zE, zF, zG, zH, zI, reduceCtorEq]
  repeat' apply And.intro
  all_goals try exact gB
  all_goals first | (refine hK _ ?_; clear hK K) | (simp only [push_cast]; done)
  refine awp_unpin ?_
  simp only [push_cast, ↓brB_true, ↓brB_false, ↓reduceIte, zA, zB, zC, zD, zE, zF, zG, zH, zI, reduceCtorEq]
  refine awp_seq' fun K hK => ?_
  refine awp_region tyOk tyPos [] rfl ?_
  simp only [push_cast, ↓brB_true, ↓brB_false, ↓reduceIte, zA, zB, zC, zD, zE, zF, zG, zH, zI, reduceCtorEq]
  repeat' apply And.intro
  all_goals try exact gB
  all_goals first | (refine hK _ ?_; clear hK K) | (simp only [push_cast]; done)
  refine awp_seq' fun K hK => ?_
  refine awp_regionN false tyOk tyPos ?_ rfl ?_
  · kernel_rfl
  simp only [push_cast, ↓brB_true, ↓brB_false, ↓reduceIte, zA, zB, zC, zD, zE, zF, zG, zH, zI, reduceCtorEq]
  all_goals repeat' (first | (apply brB_mk <;> (intro hg; (try simp only [push_cast] at hg))) | apply And.intro | (intro hg; (try simp only [push_cast] at hg)))
  all_goals try exact gA
  all_goals first | (refine hK _ ?_; clear hK K) | (simp only [push_cast]; done)
  refine awp_seq' fun K hK => ?_
  refine awp_region tyOk tyPos [] rfl ?_
  simp only [push_cast, ↓brB_true, ↓brB_false, ↓reduceIte, zA, zB, zC, zD, zE, zF, zG, zH, zI, reduceCtorEq]
  repeat' apply And.intro
  all_goals try exact gB
  all_goals first | (refine hK _ ?_; clear hK K) | (simp only [push_cast]; done)
  refine awp_seq' fun K hK => ?_
  refine awp_region tyOk tyPos [] rfl ?_
  simp only [push_cast, ↓brB_true, ↓brB_false, ↓reduceIte, zA, zB, zC, zD, zE, zF, zG, zH, zI, reduceCtorEq]
  repeat' apply And.intro
  all_goals try exact gB
  all_goals first | (refine hK _ ?_; clear hK K) | (simp only [push_cast]; done)
  refine awp_ret ?_
  (try simp only [AThen, ABlk])
  refine ⟨Or.inl rfl, ?_⟩
  simp only [RetOk, resVars, resVar, push_cast, ↓brB_true, ↓brB_false, ↓reduceIte, zA, zB, zC, zD, zE, zF, zG, zH, zI, reduceCtorEq]
  exact ⟨by decide, by simp, by simp, by simp⟩
end Go.Proofs.Ytklconkoamoabaa
