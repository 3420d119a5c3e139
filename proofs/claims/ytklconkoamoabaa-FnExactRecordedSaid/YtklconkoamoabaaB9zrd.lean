/- the game of places, as data: what both sides compute, step by step -/
import Derived.Test.YtklconkoamoabaaB8zrd
import Derived.Test.YtklconkoamoabaaB7zrd
import Derived.Test.YtklconkoamoabaaGEzrd
namespace Go.Proofs.Ytklconkoamoabaa
open Go.RowKit
set_option linter.unusedVariables false
set_option linter.unusedSimpArgs false

def stepR (r : List Int) (s : List Plc × List Int) (u : Int) : List Plc × List Int := if ixQ (sameQ u r) s.1 < 0 then (s.1 ++ [⟨u, r⟩], s.2 ++ [(s.1.length : Int)]) else (s.1, s.2 ++ [ixQ (sameQ u r) s.1])
def rowT (r us : List Int) (ps : List Plc) (k : Nat) : List Plc × List Int := (us.take k).foldl (stepR r) (ps, [])
theorem rowT_0 (r us : List Int) (ps : List Plc) : rowT r us ps 0 = (ps, []) := rfl
theorem rowT_s {r us : List Int} {ps : List Plc} {k : Nat} (h : k < us.length) : rowT r us ps (k + 1) = stepR r (rowT r us ps k) (gi us k) := by
  unfold rowT
  rw [tk_snocI h, List.foldl_append]
  rfl
theorem rowT_new {r us : List Int} {ps : List Plc} {k : Nat} (h : k < us.length) (h2 : ixQ (sameQ (gi us k) r) (rowT r us ps k).1 < 0) : rowT r us ps (k + 1) = ((rowT r us ps k).1 ++ [⟨gi us k, r⟩], (rowT r us ps k).2 ++ [((rowT r us ps k).1.length : Int)]) := by
  rw [rowT_s h]; unfold stepR; rw [if_pos h2]
theorem rowT_old {r us : List Int} {ps : List Plc} {k : Nat} (h : k < us.length) (h2 : ¬ ixQ (sameQ (gi us k) r) (rowT r us ps k).1 < 0) : rowT r us ps (k + 1) = ((rowT r us ps k).1, (rowT r us ps k).2 ++ [ixQ (sameQ (gi us k) r) (rowT r us ps k).1]) := by
  rw [rowT_s h]; unfold stepR; rw [if_neg h2]
theorem rowT_len {r us : List Int} {ps : List Plc} : ∀ {k : Nat}, k ≤ us.length → (rowT r us ps k).2.length = k ∧ ps.length ≤ (rowT r us ps k).1.length ∧ (rowT r us ps k).1.length ≤ ps.length + k
  | 0, _ => by rw [rowT_0]; exact ⟨rfl, Nat.le_refl _, Nat.le_refl _⟩
  | k + 1, h => by
    have h1 := rowT_len (r := r) (us := us) (ps := ps) (k := k) (by omega)
    by_cases h2 : ixQ (sameQ (gi us k) r) (rowT r us ps k).1 < 0
    · rw [rowT_new (by omega) h2]; simp only [List.length_append, List.length_cons, List.length_nil]; omega
    · rw [rowT_old (by omega) h2]; simp only [List.length_append, List.length_cons, List.length_nil]; omega
theorem rowT_mono {r us : List Int} {ps : List Plc} {k j : Nat} (hkj : k ≤ j) (hj : j ≤ us.length) : (rowT r us ps k).1.length ≤ (rowT r us ps j).1.length := by
  induction j with
  | zero => have : k = 0 := by omega
            subst this; exact Nat.le_refl _
  | succ j ih =>
    rcases Nat.lt_or_ge j k with h | h
    · have : k = j + 1 := by omega
      subst this; exact Nat.le_refl _
    · have h1 := ih h (by omega)
      by_cases h2 : ixQ (sameQ (gi us j) r) (rowT r us ps j).1 < 0
      · rw [rowT_new (by omega) h2]; simp only [List.length_append, List.length_cons, List.length_nil]; omega
      · rw [rowT_old (by omega) h2]; exact h1
theorem ixQ_rg (p : Plc → Bool) (ps : List Plc) : -1 ≤ ixQ p ps ∧ ixQ p ps < ps.length := by unfold ixQ; split <;> omega
theorem rowT_all {r us : List Int} {ps : List Plc} {O : Plc → Prop} (h0 : ∀ p ∈ ps, O p) (h1 : ∀ u ∈ us, O ⟨u, r⟩) : ∀ {k : Nat}, k ≤ us.length → ∀ p ∈ (rowT r us ps k).1, O p
  | 0, _, p, hp => h0 p hp
  | k + 1, h, p, hp => by
    by_cases h2 : ixQ (sameQ (gi us k) r) (rowT r us ps k).1 < 0
    · rw [rowT_new (by omega) h2, List.mem_append] at hp
      rcases hp with hp | hp
      · exact rowT_all h0 h1 (by omega) p hp
      · rw [List.mem_singleton] at hp; subst hp; exact h1 _ (gi_mem (by omega))
    · rw [rowT_old (by omega) h2] at hp
      exact rowT_all h0 h1 (by omega) p hp
section
variable (us rc : Plc → List Int) (p0 : Plc)
def stQ : Nat → List Plc
  | 0 => [p0]
  | i + 1 => if i < (stQ i).length then (rowT (rc (gq (stQ i) i)) (us (gq (stQ i) i)) (stQ i) (us (gq (stQ i) i)).length).1 else stQ i
def rowQ (i k : Nat) : List Plc × List Int := rowT (rc (gq (stQ us rc p0 i) i)) (us (gq (stQ us rc p0 i) i)) (stQ us rc p0 i) k
def nxQ (i : Nat) : List Int := sortI (rowQ us rc p0 i (us (gq (stQ us rc p0 i) i)).length).2
def plQ (i : Nat) : Plc := gq (stQ us rc p0 i) i
def okQ : Bool := decide ((stQ us rc p0 257).length ≤ 256)
end
variable {us rc : Plc → List Int} {p0 : Plc}
theorem stQ_s {i : Nat} (h : i < (stQ us rc p0 i).length) : stQ us rc p0 (i + 1) = (rowQ us rc p0 i (us (plQ us rc p0 i)).length).1 := by
  show (if i < (stQ us rc p0 i).length then _ else _) = _
  rw [if_pos h]; rfl
theorem stQ_stay {i : Nat} (h : ¬ i < (stQ us rc p0 i).length) : stQ us rc p0 (i + 1) = stQ us rc p0 i := by
  show (if i < (stQ us rc p0 i).length then _ else _) = _
  rw [if_neg h]
theorem stQ_mono {i j : Nat} (h : i ≤ j) : (stQ us rc p0 i).length ≤ (stQ us rc p0 j).length := by
  induction j with
  | zero => have : i = 0 := by omega
            subst this; exact Nat.le_refl _
  | succ j ih =>
    rcases Nat.lt_or_ge j i with h1 | h1
    · have : i = j + 1 := by omega
      subst this; exact Nat.le_refl _
    · have h2 := ih h1
      by_cases h3 : j < (stQ us rc p0 j).length
      · rw [stQ_s h3]
        have := (rowT_len (r := rc (gq (stQ us rc p0 j) j)) (us := us (gq (stQ us rc p0 j) j)) (ps := stQ us rc p0 j) (Nat.le_refl _)).2.1
        exact Nat.le_trans h2 this
      · rw [stQ_stay h3]; exact h2
theorem stQ_stop {i : Nat} (h : ¬ i < (stQ us rc p0 i).length) {j : Nat} (hj : i ≤ j) : stQ us rc p0 j = stQ us rc p0 i := by
  induction j with
  | zero => have : i = 0 := by omega
            subst this; rfl
  | succ j ih =>
    rcases Nat.lt_or_ge j i with h1 | h1
    · have : i = j + 1 := by omega
      subst this; rfl
    · have h2 := ih h1
      rw [stQ_stay (by rw [h2]; omega), h2]
theorem okQ_end {i : Nat} (hi : i ≤ 256) (h : ¬ i < (stQ us rc p0 i).length) : okQ us rc p0 = true ∧ stQ us rc p0 257 = stQ us rc p0 i := by
  have h1 := stQ_stop h (j := 257) (by omega)
  unfold okQ
  rw [h1]
  exact ⟨decide_eq_true (by omega), rfl⟩
theorem okQ_no {i : Nat} (hi : i ≤ 256) (h : 256 < (stQ us rc p0 (i + 1)).length) : okQ us rc p0 = false := by
  have h1 := stQ_mono (us := us) (rc := rc) (p0 := p0) (i := i + 1) (j := 257) (by omega)
  unfold okQ
  exact decide_eq_false (by omega)
theorem okQ_no2 {i k : Nat} (hi : i ≤ 256) (hl : i < (stQ us rc p0 i).length) (hk : k < (us (plQ us rc p0 i)).length) (h2 : ixQ (sameQ (gi (us (plQ us rc p0 i)) k) (rc (plQ us rc p0 i))) (rowQ us rc p0 i k).1 < 0) (h : 256 ≤ (rowQ us rc p0 i k).1.length) : okQ us rc p0 = false := by
  refine okQ_no hi ?_
  rw [stQ_s hl]
  have h1 := rowT_mono (r := rc (plQ us rc p0 i)) (us := us (plQ us rc p0 i)) (ps := stQ us rc p0 i) (k := k + 1) (j := (us (plQ us rc p0 i)).length) (by omega) (Nat.le_refl _)
  have h3 := rowT_new (r := rc (plQ us rc p0 i)) (us := us (plQ us rc p0 i)) (ps := stQ us rc p0 i) hk h2
  rw [h3] at h1
  simp only [List.length_append, List.length_cons, List.length_nil] at h1
  have h4 : (rowT (rc (plQ us rc p0 i)) (us (plQ us rc p0 i)) (stQ us rc p0 i) k).1.length = (rowQ us rc p0 i k).1.length := rfl
  have h5 : (rowT (rc (plQ us rc p0 i)) (us (plQ us rc p0 i)) (stQ us rc p0 i) (us (plQ us rc p0 i)).length).1.length = (rowQ us rc p0 i (us (plQ us rc p0 i)).length).1.length := rfl
  omega
theorem stQ_all {O : Plc → Prop} (h0 : O p0) (h1 : ∀ p, O p → ∀ u ∈ us p, O ⟨u, rc p⟩) : ∀ i, ∀ p ∈ stQ us rc p0 i, O p
  | 0, p, hp => by rw [show stQ us rc p0 0 = [p0] from rfl, List.mem_singleton] at hp; subst hp; exact h0
  | i + 1, p, hp => by
    by_cases h : i < (stQ us rc p0 i).length
    · rw [stQ_s h] at hp
      refine rowT_all (O := O) (stQ_all h0 h1 i) (fun u hu => h1 _ (stQ_all h0 h1 i _ (gq_mem h)) u hu) (Nat.le_refl _) p hp
    · rw [stQ_stay h] at hp
      exact stQ_all h0 h1 i p hp
end Go.Proofs.Ytklconkoamoabaa

namespace Go.Proofs.Ytklconkoamoabaa
open Go.RowKit
set_option linter.unusedVariables false
set_option linter.unusedSimpArgs false

def usA (a : Ar) (p : Plc) : List Int := gl a.next p.at_.toNat
section
variable (a : Ar) (rc : Plc → List Int) (pr : Plc → Int) (p0 : Plc)
def ownG (n : Nat) : List Int := (List.range n).map fun j => gi a.owner (plQ (usA a) rc p0 j).at_.toNat
def nxG (n : Nat) : List (List Int) := (List.range n).map fun j => nxQ (usA a) rc p0 j
def prG (n : Nat) : List Int := (List.range n).map fun j => pr (plQ (usA a) rc p0 j)
def gmA (n : Nat) : Pa := ⟨⟨ownG a rc p0 n, nxG a rc p0 n⟩, prG a rc pr p0 n⟩
def gmR (c : Bool) : Pa := if c && okQ (usA a) rc p0 then gmA a rc pr p0 (stQ (usA a) rc p0 257).length else ⟨⟨[], []⟩, []⟩
def plR (c : Bool) : List Plc := if c && okQ (usA a) rc p0 then stQ (usA a) rc p0 257 else []
end
variable {a : Ar} {rc : Plc → List Int} {pr : Plc → Int} {p0 : Plc}
theorem ownG_len (n : Nat) : (ownG a rc p0 n).length = n := by simp [ownG]
theorem nxG_len (n : Nat) : (nxG a rc p0 n).length = n := by simp [nxG]
theorem prG_len (n : Nat) : (prG a rc pr p0 n).length = n := by simp [prG]
theorem ownG_s (n : Nat) : ownG a rc p0 (n + 1) = ownG a rc p0 n ++ [gi a.owner (plQ (usA a) rc p0 n).at_.toNat] := by simp [ownG, List.range_succ]
theorem nxG_s (n : Nat) : nxG a rc p0 (n + 1) = nxG a rc p0 n ++ [nxQ (usA a) rc p0 n] := by simp [nxG, List.range_succ]
theorem prG_s (n : Nat) : prG a rc pr p0 (n + 1) = prG a rc pr p0 n ++ [pr (plQ (usA a) rc p0 n)] := by simp [prG, List.range_succ]
theorem ownG_0 : ownG a rc p0 0 = [] := rfl
theorem nxG_0 : nxG a rc p0 0 = [] := rfl
theorem prG_0 : prG a rc pr p0 0 = [] := rfl
theorem gmR_no {c : Bool} (h : (c && okQ (usA a) rc p0) = false) : gmR a rc pr p0 c = ⟨⟨[], []⟩, []⟩ := by unfold gmR; rw [h]; rfl
theorem plR_no {c : Bool} (h : (c && okQ (usA a) rc p0) = false) : plR a rc p0 c = [] := by unfold plR; rw [h]; rfl
theorem gmR_yes {c : Bool} {i : Nat} (hc : c = true) (hi : i ≤ 256) (h : ¬ i < (stQ (usA a) rc p0 i).length) (h2 : i ≤ (stQ (usA a) rc p0 i).length) : (c && okQ (usA a) rc p0) = true ∧ gmR a rc pr p0 c = gmA a rc pr p0 i ∧ plR a rc p0 c = stQ (usA a) rc p0 i := by
  obtain ⟨h3, h4⟩ := okQ_end hi h
  have h5 : (c && okQ (usA a) rc p0) = true := by rw [hc, h3]; rfl
  have h6 : (stQ (usA a) rc p0 i).length = i := by omega
  refine ⟨h5, ?_, ?_⟩
  · unfold gmR; rw [h5, if_pos rfl, h4, h6]
  · unfold plR; rw [h5, if_pos rfl, h4]
theorem us_rg (ha : arenaB a = true) {p : Plc} (h : 0 ≤ p.at_ ∧ p.at_ < a.owner.length) : 1 ≤ (usA a p).length ∧ (usA a p).length ≤ 16 ∧ ∀ u ∈ usA a p, 0 ≤ u ∧ u < a.owner.length := by
  have hv : p.at_.toNat < a.owner.length := by omega
  obtain ⟨h1, h2, h3, h4, h5⟩ := arenaB_at ha hv
  refine ⟨h3, h4, fun u hu => ?_⟩
  have hu : u ∈ gl a.next p.at_.toNat := hu
  obtain ⟨j, hj, rfl⟩ := List.mem_iff_getElem.1 hu
  have := allB_at h5 hj
  unfold riseAt at this
  have := of_decide_eq_true this
  have e : gi (gl a.next p.at_.toNat) j = (gl a.next p.at_.toNat)[j] := by
    unfold gi
    rw [List.getD_eq_getElem?_getD, List.getElem?_eq_getElem hj]
    rfl
  rw [e] at this
  exact ⟨this.1, this.2.1⟩

theorem gq_app {ps qs : List Plc} {i : Nat} (h : i < ps.length) : gq (ps ++ qs) i = gq ps i := by
  unfold gq
  rw [List.getD_eq_getElem?_getD, List.getElem?_append_left h, List.getD_eq_getElem?_getD]
theorem rowT_gq {r us : List Int} {ps : List Plc} {i : Nat} (hi : i < ps.length) : ∀ {k : Nat}, k ≤ us.length → gq (rowT r us ps k).1 i = gq ps i
  | 0, _ => rfl
  | k + 1, h => by
    have h1 := rowT_gq (r := r) (us := us) hi (k := k) (by omega)
    have h3 := (rowT_len (r := r) (us := us) (ps := ps) (k := k) (by omega)).2.1
    by_cases h2 : ixQ (sameQ (gi us k) r) (rowT r us ps k).1 < 0
    · rw [rowT_new (by omega) h2]
      show gq ((rowT r us ps k).1 ++ [_]) i = _
      rw [gq_app (by omega)]; exact h1
    · rw [rowT_old (by omega) h2]; exact h1
structure PlOk (a : Ar) (rc : Plc → List Int) (p0 : Plc) (V : List Int → Prop) (B : Nat) : Prop where
  first : 0 ≤ p0.at_ ∧ p0.at_ < (a.owner.length : Int) ∧ V p0.record
  next : ∀ p : Plc, 0 ≤ p.at_ → p.at_ < (a.owner.length : Int) → V p.record → V (rc p)
  small : ∀ r, V r → r.length ≤ B
theorem pl_all {V : List Int → Prop} {B : Nat} (ha : arenaB a = true) (h : PlOk a rc p0 V B) (i : Nat) : ∀ p ∈ stQ (usA a) rc p0 i, 0 ≤ p.at_ ∧ p.at_ < a.owner.length ∧ V p.record :=
  stQ_all (O := fun p => 0 ≤ p.at_ ∧ p.at_ < a.owner.length ∧ V p.record) h.first (fun p hp u hu => by
    have := (us_rg ha ⟨hp.1, hp.2.1⟩).2.2 u hu
    exact ⟨this.1, this.2, h.next p hp.1 hp.2.1 hp.2.2⟩) i
theorem pl_row {V : List Int → Prop} {B : Nat} (ha : arenaB a = true) (h : PlOk a rc p0 V B) {i k : Nat} (hi : i < (stQ (usA a) rc p0 i).length) (hk : k ≤ (usA a (gq (stQ (usA a) rc p0 i) i)).length) : ∀ p ∈ (rowT (rc (gq (stQ (usA a) rc p0 i) i)) (usA a (gq (stQ (usA a) rc p0 i) i)) (stQ (usA a) rc p0 i) k).1, 0 ≤ p.at_ ∧ p.at_ < a.owner.length ∧ V p.record := by
  have hp := pl_all ha h i _ (gq_mem hi)
  exact rowT_all (O := fun p => 0 ≤ p.at_ ∧ p.at_ < a.owner.length ∧ V p.record) (pl_all ha h i) (fun u hu => by
    have := (us_rg ha ⟨hp.1, hp.2.1⟩).2.2 u hu
    exact ⟨this.1, this.2, h.next _ hp.1 hp.2.1 hp.2.2⟩) hk
theorem nx_len {V : List Int → Prop} {B : Nat} (ha : arenaB a = true) (h : PlOk a rc p0 V B) {n : Nat} (hn : n ≤ 1048576) (hall : ∀ j, j < n → j < (stQ (usA a) rc p0 j).length) : LnII 1048576 (nxG a rc p0 n) := by
  refine ⟨by rw [nxG_len]; exact hn, fun r hr => ?_⟩
  unfold nxG at hr
  obtain ⟨j, hj, rfl⟩ := List.mem_map.1 hr
  have hj := hall j (List.mem_range.1 hj)
  have hp := pl_all ha h j _ (gq_mem hj)
  have h2 := (us_rg ha ⟨hp.1, hp.2.1⟩).2.1
  unfold nxQ
  rw [sortI_len]
  have h3 := (rowT_len (r := rc (gq (stQ (usA a) rc p0 j) j)) (us := usA a (gq (stQ (usA a) rc p0 j) j)) (ps := stQ (usA a) rc p0 j) (Nat.le_refl _)).1
  show (rowT _ _ _ _).2.length ≤ _
  rw [h3]
  omega
theorem st_open {n : Nat} (h : n ≤ (stQ (usA a) rc p0 257).length) (hn : n ≤ 257) : ∀ j, j < n → j < (stQ (usA a) rc p0 j).length := fun j hj => by
  rcases Nat.lt_or_ge j (stQ (usA a) rc p0 j).length with h1 | h1
  · exact h1
  · have := stQ_stop (us := usA a) (rc := rc) (p0 := p0) (i := j) (by omega) (j := 257) (by omega)
    rw [this] at h
    omega
theorem gmR_Ln {V : List Int → Prop} {B : Nat} {c : Bool} (ha : c = true → arenaB a = true ∧ PlOk a rc p0 V B) : (gmR a rc pr p0 c).Ln 1048576 := by
  cases hc : (c && okQ (usA a) rc p0) with
  | false =>
    rw [gmR_no hc]
    exact ⟨⟨by unfold LnI; simp, ⟨by simp, by simp⟩⟩, by unfold LnI; simp⟩
  | true =>
    have h1 := hc
    rw [Bool.and_eq_true] at h1
    obtain ⟨h2, h3⟩ := ha h1.1
    have h4 : (stQ (usA a) rc p0 257).length ≤ 256 := by have := h1.2; unfold okQ at this; exact of_decide_eq_true this
    unfold gmR
    rw [hc, if_pos rfl]
    have h5 := st_open (a := a) (rc := rc) (p0 := p0) (n := (stQ (usA a) rc p0 257).length) (Nat.le_refl _) (by omega)
    obtain ⟨n9, hn9⟩ : ∃ n9, n9 = (stQ (usA a) rc p0 257).length := ⟨_, rfl⟩
    rw [← hn9] at h4 h5 ⊢
    refine ⟨⟨?_, nx_len h2 h3 (by omega) h5⟩, ?_⟩
    · show (ownG a rc p0 _).length ≤ _; rw [ownG_len]; omega
    · show (prG a rc pr p0 _).length ≤ _; rw [prG_len]; omega
theorem plR_Ln {V : List Int → Prop} {B : Nat} {c : Bool} (hB : B ≤ 1048576) (ha : c = true → arenaB a = true ∧ PlOk a rc p0 V B) : QLn 1048576 (plR a rc p0 c) := by
  cases hc : (c && okQ (usA a) rc p0) with
  | false =>
    rw [plR_no hc]
    exact ⟨by simp, by simp⟩
  | true =>
    have h1 := hc
    rw [Bool.and_eq_true] at h1
    obtain ⟨h2, h3⟩ := ha h1.1
    have h4 : (stQ (usA a) rc p0 257).length ≤ 256 := by have := h1.2; unfold okQ at this; exact of_decide_eq_true this
    unfold plR
    rw [hc, if_pos rfl]
    exact ⟨by omega, fun p hp => Nat.le_trans (h3.small _ (pl_all h2 h3 257 p hp).2.2) hB⟩

end Go.Proofs.Ytklconkoamoabaa

namespace Go.Proofs.Ytklconkoamoabaa
open Nat renaming reduceMod → zA, reduceMul → zB, reduceDiv → zC, reduceAdd → zD, reduceSub → zE, reduceEqDiff → zF, reduceBEq → zG, reduceLT → zH, reduceLeDiff → zI
open Go.RowKit
set_option linter.unusedVariables false
set_option linter.unusedSimpArgs false

set_option maxRecDepth 20000 in
set_option maxHeartbeats 4000000 in
theorem placeIn1_fn (p : Plc) (hp : p.record.length ≤ 1048576) (u : Int) (r : List Int) (hr : r.length ≤ 1048576) : FnX Try.prog tyT 123 [.v (.agg [.int .i64 p.at_, DI p.record]), .ref (.lst 2 [.int .i64 u]), .ref (.lst 2 [DI r])] [.c (.bool (sameQ u r p))] := by
  have hE := Equal_fn p.record r hp hr
  refine FnX_of (fn := Try.f123) (rs := [.tmp 4]) tyOk tyPos Try.func123 (by kernel_rfl) rfl rfl (by rw [Try.ntmps123]; exact Nat.le_of_ble_eq_true rfl) rfl (by simp only [szX, List.mem_cons, List.not_mem_nil, or_false, forall_eq_or_imp, forall_eq, XT.cells, VT.cells, szL]; try decide) ?_
  rw [Try.ntmps123]
  simp only [push_cast, ↓brB_true, ↓brB_false, ↓reduceIte, zA, zB, zC, zD, zE, zF, zG, zH, zI, reduceCtorEq]
  refine awp_seq' fun K hK => ?_
  refine awp_region tyOk tyPos [] rfl ?_
  simp only [push_cast, ↓brB_true, ↓brB_false, ↓reduceIte, zA, zB, zC, zD, zE, zF, zG, zH, zI, reduceCtorEq]
  repeat' apply And.intro
  all_goals try exact gB
  all_goals first | (refine hK _ ?_; clear hK K) | (simp only [push_cast]; done)
  refine awp_seq' fun K hK => ?_
  refine awp_regionN false tyOk tyPos ?_ rfl ?_
  · kernel_rfl
  all_goals refine seqE_cut 9 fun K9 hK9 => ?_
  all_goals simp only [push_cast, ↓brB_true, ↓brB_false, ↓reduceIte, zA, zB, zC, zD, zE, zF, zG, zH, zI, reduceCtorEq]
  all_goals repeat' (first | (apply brB_mk <;> (intro hg; (try simp only [push_cast] at hg))) | (refine ⟨_, hE, ?_⟩; simp only [push_cast, ↓brB_true, ↓brB_false, ↓reduceIte, zA, zB, zC, zD, zE, zF, zG, zH, zI, reduceCtorEq]) | apply And.intro | (intro hg; (try simp only [push_cast] at hg)))
  all_goals try exact gA
  all_goals first | (refine hK9 _ ?_; clear hK9 K9) | (simp only [push_cast]; done)
  all_goals simp only [push_cast, ↓brB_true, ↓brB_false, ↓reduceIte, zA, zB, zC, zD, zE, zF, zG, zH, zI, reduceCtorEq]
  all_goals repeat' (first | (apply brB_mk <;> (intro hg; (try simp only [push_cast] at hg))) | (refine ⟨_, hE, ?_⟩; simp only [push_cast, ↓brB_true, ↓brB_false, ↓reduceIte, zA, zB, zC, zD, zE, zF, zG, zH, zI, reduceCtorEq]) | apply And.intro | (intro hg; (try simp only [push_cast] at hg)))
  all_goals try exact gA
  all_goals first | (refine hK _ ?_; clear hK K) | (simp only [push_cast]; done)
  all_goals (
      refine awp_ret ?_
      (try simp only [AThen, ABlk])
      refine ⟨Or.inl rfl, ?_⟩
      simp only [RetOk, resVars, resVar, push_cast, ↓brB_true, ↓brB_false, ↓reduceIte, zA, zB, zC, zD, zE, zF, zG, zH, zI, reduceCtorEq]
      all_goals first | exact (sameQ_no1 (by omega)).symm | (unfold sameQ; rw [decide_eq_true (by with_reducible assumption)]; rfl) | (unfold sameQ; simp_all; done))
set_option maxRecDepth 20000 in
set_option maxHeartbeats 4000000 in
theorem IndexFuncQ_fn (ps : List Plc) (ha : QLn 1048576 ps) (g : FuncId) (d1 d2 : D) (c1 c2 : List D) (q : Plc → Bool) (hp : ∀ k, k < ps.length → FnX Try.prog tyT g [.v (.agg [.int .i64 (gq ps k).at_, DI (gq ps k).record]), .ref (.lst 2 (d1 :: c1)), .ref (.lst 2 (d2 :: c2))] [.c (.bool (q (gq ps k)))]) : FnX Try.prog tyT 122 [.v (.c (.lst 78 (dPls ps))), .clo g [.lst 2 (d1 :: c1), .lst 2 (d2 :: c2)]] [.c (.int .i64 (ixQ q ps))] := by
  have hl := ha.1
  have hgl := fun k => gq_le ha k
  refine FnX_of (fn := Try.f122) (rs := [.tmp 4]) tyOk tyPos Try.func122 (by kernel_rfl) rfl rfl (by rw [Try.ntmps122]; exact Nat.le_of_ble_eq_true rfl) rfl (by simp only [szX, List.mem_cons, List.not_mem_nil, or_false, forall_eq_or_imp, forall_eq, XT.cells, VT.cells, szL]; try decide) ?_
  rw [Try.ntmps122]
  simp only [push_cast, ↓brB_true, ↓brB_false, ↓reduceIte, zA, zB, zC, zD, zE, zF, zG, zH, zI, reduceCtorEq]
  refine awp_seq' fun K hK => ?_
  refine awp_region tyOk tyPos [] rfl ?_
  all_goals simp only [push_cast, ↓brB_true, ↓brB_false, ↓reduceIte, zA, zB, zC, zD, zE, zF, zG, zH, zI, reduceCtorEq]
  all_goals repeat' (first | (apply brB_mk <;> (intro hg; (try simp only [push_cast] at hg))) | apply And.intro | (intro hg; (try simp only [push_cast] at hg)))
  all_goals first | exact gA | (exact getE_dPls (by omega)) | skip
  all_goals first | (refine hK _ ?_; clear hK K) | (simp only [push_cast]; done)
  refine awp_seq' fun K1 hK1 => ?_
  refine awp_seq' fun K hK => ?_
  refine awp_region tyOk tyPos [] rfl ?_
  all_goals simp only [push_cast, ↓brB_true, ↓brB_false, ↓reduceIte, zA, zB, zC, zD, zE, zF, zG, zH, zI, reduceCtorEq]
  all_goals repeat' (first | (apply brB_mk <;> (intro hg; (try simp only [push_cast] at hg))) | apply And.intro | (intro hg; (try simp only [push_cast] at hg)))
  all_goals first | exact gA | (exact getE_dPls (by omega)) | skip
  all_goals first | (refine hK _ ?_; clear hK K) | (simp only [push_cast]; done)
  refine awp_block ?_
  refine awp_loopU [4,5,8,9,10,11,12,13,14,15,16,17,18] [] (fun (k : Nat) => [(8, .int .i64 k)]) (fun k => []) (fun k => []) (fun k => k ≤ ps.length ∧ ∀ j, j < k → q (gq ps j) = false) (fun k => ps.length - k) 0 ?_ ⟨by omega, fun j hj => by omega⟩ ?_
  ·
    refine cov_of rfl ?_ ?_ ?_ <;> simp only [covS, covL, push_cast, ↓brB_true, ↓brB_false, ↓reduceIte, zA, zB, zC, zD, zE, zF, zG, zH, zI, reduceCtorEq]
  · rintro k ⟨hk, hall⟩ KL0 hL0
    simp only [push_cast, ↓brB_true, ↓brB_false, ↓reduceIte, zA, zB, zC, zD, zE, zF, zG, zH, zI, reduceCtorEq]
    refine awp_seq' fun K hK => ?_
    refine awp_region tyOk tyPos [] rfl ?_
    all_goals simp only [push_cast, ↓brB_true, ↓brB_false, ↓reduceIte, zA, zB, zC, zD, zE, zF, zG, zH, zI, reduceCtorEq]
    all_goals repeat' (first | (apply brB_mk <;> (intro hg; (try simp only [push_cast] at hg))) | apply And.intro | (intro hg; (try simp only [push_cast] at hg)))
    all_goals first | exact gA | (exact getE_dPls (by omega)) | skip
    all_goals first | (refine hK _ ?_; clear hK K) | (simp only [push_cast]; done)
    refine awp_seq' fun K2 hK2 => ?_
    refine awp_cond rfl (fun hc => ?_) (fun hc => ?_) <;> (try simp only [push_cast] at hc)
    ·
      refine awp_skip ?_
      (try simp only [AThen, ABlk, reduceIte, zF]); refine hK2 _ ?_
      refine awp_seq' fun K3 hK3 => ?_
      refine awp_block ?_
      refine awp_seq' fun K hK => ?_
      refine awp_region tyOk tyPos [] rfl ?_
      all_goals simp only [push_cast, ↓brB_true, ↓brB_false, ↓reduceIte, zA, zB, zC, zD, zE, zF, zG, zH, zI, reduceCtorEq]
      all_goals repeat' (first | (apply brB_mk <;> (intro hg; (try simp only [push_cast] at hg))) | apply And.intro | (intro hg; (try simp only [push_cast] at hg)))
      all_goals first | exact gA | (exact getE_dPls (by omega)) | skip
      all_goals first | (refine hK _ ?_; clear hK K) | (simp only [push_cast]; done)
      refine awp_seq' fun K hK => ?_
      refine awp_regionX 16 2 rfl tyOk tyPos [] rfl ?_
      simp only [push_cast, ↓brB_true, ↓brB_false, ↓reduceIte, zA, zB, zC, zD, zE, zF, zG, zH, zI, reduceCtorEq]
      repeat' apply And.intro
      all_goals (try simp only [push_cast, ↓brB_true, ↓brB_false, ↓reduceIte, zA, zB, zC, zD, zE, zF, zG, zH, zI, reduceCtorEq])
      all_goals repeat' (first | (apply brB_mk <;> (intro hg; (try simp only [push_cast] at hg))) | (refine ⟨_, hp k (by omega), ?_⟩; simp only [push_cast, ↓brB_true, ↓brB_false, ↓reduceIte, zA, zB, zC, zD, zE, zF, zG, zH, zI, reduceCtorEq]) | apply And.intro | (intro hg; (try simp only [push_cast] at hg)))
      all_goals first | exact gA | (exact getE_dPls (by omega)) | skip
      all_goals first | (refine hK _ ?_; clear hK K) | (simp only [push_cast]; done)
      refine awp_cond rfl (fun hc => ?_) (fun hc => ?_) <;> (try simp only [push_cast] at hc)
      ·
        refine awp_seq' fun K hK => ?_
        refine awp_region tyOk tyPos [] rfl ?_
        all_goals simp only [push_cast, ↓brB_true, ↓brB_false, ↓reduceIte, zA, zB, zC, zD, zE, zF, zG, zH, zI, reduceCtorEq]
        all_goals repeat' (first | (apply brB_mk <;> (intro hg; (try simp only [push_cast] at hg))) | apply And.intro | (intro hg; (try simp only [push_cast] at hg)))
        all_goals first | exact gA | (exact getE_dPls (by omega)) | skip
        all_goals first | (refine hK _ ?_; clear hK K) | (simp only [push_cast]; done)
        refine awp_ret ?_
        (try simp only [AThen, ABlk])
        refine ⟨Or.inl rfl, ?_⟩
        simp only [RetOk, resVars, resVar, push_cast, ↓brB_true, ↓brB_false, ↓reduceIte, zA, zB, zC, zD, zE, zF, zG, zH, zI, reduceCtorEq]
        rw [ixQ_found (k := k) (by omega) (fun j hj => hall j hj) hc]
      ·
        refine awp_skip ?_
        (try simp only [AThen, ABlk, reduceIte, zF]); refine hK3 _ ?_
        refine awp_region tyOk tyPos [] rfl ?_
        all_goals simp only [push_cast, ↓brB_true, ↓brB_false, ↓reduceIte, zA, zB, zC, zD, zE, zF, zG, zH, zI, reduceCtorEq]
        all_goals repeat' (first | (apply brB_mk <;> (intro hg; (try simp only [push_cast] at hg))) | apply And.intro | (intro hg; (try simp only [push_cast] at hg)))
        all_goals first | exact gA | (exact getE_dPls (by omega)) | skip
        refine hL0 _ ⟨k + 1, ⟨by omega, fun j hj => (by
            by_cases hjk : j = k
            · subst hjk; exact hc
            · exact hall j (by omega))⟩, by omega, ?_⟩
        refine cov_of rfl ?_ ?_ ?_ <;> simp only [covS, covL, push_cast, ↓brB_true, ↓brB_false, ↓reduceIte, zA, zB, zC, zD, zE, zF, zG, zH, zI, reduceCtorEq]
    ·
      refine awp_exit ?_
      (try simp only [AThen, ABlk, reduceIte, zF]); refine hK1 _ ?_
      refine awp_seq' fun K hK => ?_
      refine awp_region tyOk tyPos [] rfl ?_
      all_goals simp only [push_cast, ↓brB_true, ↓brB_false, ↓reduceIte, zA, zB, zC, zD, zE, zF, zG, zH, zI, reduceCtorEq]
      all_goals repeat' (first | (apply brB_mk <;> (intro hg; (try simp only [push_cast] at hg))) | apply And.intro | (intro hg; (try simp only [push_cast] at hg)))
      all_goals first | exact gA | (exact getE_dPls (by omega)) | skip
      all_goals first | (refine hK _ ?_; clear hK K) | (simp only [push_cast]; done)
      refine awp_ret ?_
      (try simp only [AThen, ABlk])
      refine ⟨Or.inl rfl, ?_⟩
      simp only [RetOk, resVars, resVar, push_cast, ↓brB_true, ↓brB_false, ↓reduceIte, zA, zB, zC, zD, zE, zF, zG, zH, zI, reduceCtorEq]
      rw [ixQ_none fun j hj => hall j (by omega)]
set_option maxRecDepth 20000 in
set_option maxHeartbeats 4000000 in
theorem placeIn_fn (ps : List Plc) (ha : QLn 1048576 ps) (u : Int) (r : List Int) (hr : r.length ≤ 1048576) : Fn Try.prog tyT 100 [.c (.lst 78 (dPls ps)), .c (.int .i64 u), .c (DI r)] [.c (.int .i64 (ixQ (sameQ u r) ps))] := by
  refine Fn_of (fn := Try.f100) (ts := [6]) Try.func100 (by kernel_rfl) rfl rfl (by rw [Try.ntmps100]; exact Nat.le_of_ble_eq_true rfl) rfl (by simp only [szA, List.mem_cons, List.not_mem_nil, or_false, forall_eq_or_imp, forall_eq, VT.cells, szL]; try decide) ?_
  rw [Try.ntmps100]
  simp only [push_cast, ↓brB_true, ↓brB_false, ↓reduceIte, zA, zB, zC, zD, zE, zF, zG, zH, zI, reduceCtorEq]
  refine awp_seq' fun K hK => ?_
  refine awp_region tyOk tyPos [] rfl ?_
  all_goals simp only [push_cast, ↓brB_true, ↓brB_false, ↓reduceIte, zA, zB, zC, zD, zE, zF, zG, zH, zI, reduceCtorEq]
  all_goals repeat' (first | (apply brB_mk <;> (intro hg; (try simp only [push_cast] at hg))) | (refine ⟨_, IndexFuncQ_fn ps ha _ (.int .i64 u) (DI r) [] [] (sameQ u r) (fun k hk => placeIn1_fn (gq ps k) (gq_le ha k) u r hr), ?_⟩; simp only [push_cast, ↓brB_true, ↓brB_false, ↓reduceIte, zA, zB, zC, zD, zE, zF, zG, zH, zI, reduceCtorEq]) | apply And.intro | (intro hg; (try simp only [push_cast] at hg)))
  all_goals first | exact gA | decide | skip
  all_goals first | (refine hK _ ?_; clear hK K) | (simp only [push_cast]; done)
  refine awp_seq' fun K hK => ?_
  refine awp_regionX 9 2 rfl tyOk tyPos [] rfl ?_
  simp only [push_cast, ↓brB_true, ↓brB_false, ↓reduceIte, zA, zB, zC, zD, zE, zF, zG, zH, zI, reduceCtorEq]
  repeat' apply And.intro
  all_goals (try simp only [push_cast, ↓brB_true, ↓brB_false, ↓reduceIte, zA, zB, zC, zD, zE, zF, zG, zH, zI, reduceCtorEq])
  all_goals repeat' (first | (apply brB_mk <;> (intro hg; (try simp only [push_cast] at hg))) | (refine ⟨_, IndexFuncQ_fn ps ha _ (.int .i64 u) (DI r) [] [] (sameQ u r) (fun k hk => placeIn1_fn (gq ps k) (gq_le ha k) u r hr), ?_⟩; simp only [push_cast, ↓brB_true, ↓brB_false, ↓reduceIte, zA, zB, zC, zD, zE, zF, zG, zH, zI, reduceCtorEq]) | apply And.intro | (intro hg; (try simp only [push_cast] at hg)))
  all_goals first | exact gA | decide | skip
  all_goals first | (refine hK _ ?_; clear hK K) | (simp only [push_cast]; done)
  refine awp_ret ?_
  (try simp only [AThen, ABlk])
  refine ⟨Or.inl rfl, ?_⟩
  simp only [RetOk, push_cast, ↓brB_true, ↓brB_false, ↓reduceIte, zA, zB, zC, zD, zE, zF, zG, zH, zI, reduceCtorEq]
end Go.Proofs.Ytklconkoamoabaa

namespace Go.Proofs.Ytklconkoamoabaa
open Go.RowKit
set_option linter.unusedVariables false
set_option linter.unusedSimpArgs false

end Go.Proofs.Ytklconkoamoabaa

namespace Go.Proofs.Ytklconkoamoabaa
open Nat renaming reduceMod → zA, reduceMul → zB, reduceDiv → zC, reduceAdd → zD, reduceSub → zE, reduceEqDiff → zF, reduceBEq → zG, reduceLT → zH, reduceLeDiff → zI
open Go.RowKit
set_option linter.unusedVariables false
set_option linter.unusedSimpArgs false

section
variable {P : Program} {τ : Ty} {st : St}
def unpinR : List (Nat × Root) → List (Nat × Root)
  | [] => []
  | (d, R) :: l => (d, { R with pin := none }) :: unpinR l
def St.unpin (st : St) : St := ⟨st.n, st.s, st.b, unpinR st.r⟩
theorem lk_unpinR : ∀ (l : List (Nat × Root)) (d : Nat) (R' : Root), lk (unpinR l) d = some R' → ∃ R, lk l d = some R ∧ R' = { R with pin := none }
  | [], d, R', h => by simp [unpinR, lk] at h
  | (k, R) :: l, d, R', h => by
    simp only [unpinR, lk] at h ⊢
    split at h
    · rename_i e
      rw [if_pos e]
      cases h
      exact ⟨R, rfl, rfl⟩
    · rename_i e
      rw [if_neg e]
      exact lk_unpinR l d R' h
mutual
theorem AvR_unpin {w : World} {rr : List (Nat × Root)} {bb : List (Nat × List AV)} {hd : Nat → Value} {bk : Nat → Nat} : ∀ (v : AV) (z : Value), AvR τ w rr bb hd bk v z → AvR τ w (unpinR rr) bb hd bk v z
  | .int k n, z, h => by simp only [AvR] at h ⊢; exact h
  | .bool b, z, h => by simp only [AvR] at h ⊢; exact h
  | .sl d p off len e, z, h => by
    simp only [AvR] at h ⊢
    refine ⟨h.1, fun R' hR' hp => ?_⟩
    obtain ⟨R, hR, rfl⟩ := lk_unpinR _ _ _ hR'
    exact h.2 R hR hp
  | .nil, z, h => by simp only [AvR] at h ⊢; exact h
  | .ep d p i, z, h => by
    simp only [AvR] at h ⊢
    refine ⟨h.1, fun R' hR' hp => ?_⟩
    obtain ⟨R, hR, rfl⟩ := lk_unpinR _ _ _ hR'
    exact h.2 R hR hp
  | .bp t i, z, h => by simp only [AvR] at h ⊢; exact h
  | .agg vs, z, h => by
    simp only [AvR] at h ⊢
    obtain ⟨cs, h1, h2⟩ := h
    exact ⟨cs, h1, AvRL_unpin vs cs h2⟩
  | .tup vs, z, h => by
    simp only [AvR] at h ⊢
    obtain ⟨cs, h1, h2⟩ := h
    exact ⟨cs, h1, AvRL_unpin vs cs h2⟩
  | .fn f vs, z, h => by
    simp only [AvR] at h ⊢
    obtain ⟨cs, h1, h2⟩ := h
    exact ⟨cs, h1, AvRL_unpin vs cs h2⟩
  | .dead, z, h => by simp only [AvR]
  | .raw u, z, h => by simpa only [AvR] using h
theorem AvRL_unpin {w : World} {rr : List (Nat × Root)} {bb : List (Nat × List AV)} {hd : Nat → Value} {bk : Nat → Nat} : ∀ (vs : List AV) (zs : List Value), AvRL τ w rr bb hd bk vs zs → AvRL τ w (unpinR rr) bb hd bk vs zs
  | [], zs, h => by simp only [AvRL] at h ⊢; exact h
  | x :: xs, zs, h => by
    simp only [AvRL] at h ⊢
    obtain ⟨v, vs', h1, h2, h3⟩ := h
    exact ⟨v, vs', h1, AvR_unpin x v h2, AvRL_unpin xs vs' h3⟩
end
theorem awp_unpin {c : Code} {Q : Exit → St → Prop} (hK : awp P τ c Q st.unpin) : awp P τ c Q st := fun lo w0 a w hr => by
  obtain ⟨ow, hd, bk, h⟩ := hr
  refine hK lo w0 a w ⟨ow, hd, bk, h.big, h.defers, h.size, h.low, h.below, h.ge, h.new, fun k v hv => AvR_unpin v _ (h.slot k v hv), fun d R' hR' => ?_, fun t vs hv => ?_, fun d R' i hR' hp => ?_⟩
  · obtain ⟨R, hR, rfl⟩ := lk_unpinR _ _ _ hR'
    exact h.root d R hR
  · obtain ⟨cs, ty, h1, h2, h3⟩ := h.box t vs hv
    exact ⟨cs, ty, h1, h2, AvRL_unpin vs cs h3⟩
  · obtain ⟨R, hR, rfl⟩ := lk_unpinR _ _ _ hR'
    cases hp
end
attribute [push_cast] St.unpin unpinR
set_option maxRecDepth 20000 in
set_option maxHeartbeats 4000000 in
theorem withVertex_fn (g : Pa) (hg : g.Ln 1000000) (o p : Int) (nx : List Int) (hx : nx.length ≤ 1000000) : FnG Try.prog tyT 102 [.agg (dPa g), .c (.int .i64 o), .c (.int .i64 p), .c (DI nx)] [0, 1, 2, 48] [] [.agg (dPa ⟨⟨g.a.owner ++ [o], g.a.next ++ [nx]⟩, g.prio ++ [p]⟩)] := by
  have h1 := hg.a.owner
  have h2 := hg.a.next.1
  have h3 := hg.prio
  unfold LnI at h1 h3
  unfold dPa
  refine FnG_of (fn := Try.f102) (rs := [.cell 8 48]) (own := [0, 1, 2, 48]) (outs := []) tyOk tyPos Try.func102 (by kernel_rfl) rfl rfl (by rw [Try.ntmps102]; exact Nat.le_of_ble_eq_true rfl) rfl (by simp only [szA, List.mem_cons, List.not_mem_nil, or_false, forall_eq_or_imp, forall_eq, VT.cells, szL]; try decide) ?_
  rw [Try.ntmps102]
  simp only [push_cast, ↓brB_true, ↓brB_false, ↓reduceIte, zA, zB, zC, zD, zE, zF, zG, zH, zI, reduceCtorEq]
  refine awp_seq' fun K hK => ?_
  refine awp_region tyOk tyPos [] rfl ?_
  simp only [push_cast, ↓brB_true, ↓brB_false, ↓reduceIte, zA, zB, zC, zD, zE, zF, zG, zH, zI, reduceCtorEq]
  repeat' apply And.intro
  all_goals try exact gB
  all_goals first | (refine hK _ ?_; clear hK K) | (simp only [push_cast]; done)
  refine awp_unpin ?_
  simp only [push_cast, ↓brB_true, ↓brB_false, ↓reduceIte, zA, zB, zC, zD, zE, zF, zG, zH, zI, reduceCtorEq]
  refine awp_seq' fun K hK => ?_
  refine awp_region tyOk tyPos [] rfl ?_
  simp only [push_cast, ↓brB_true, ↓brB_false, ↓reduceIte, zA, zB, zC, zD, zE, zF, zG, zH, zI, reduceCtorEq]
  repeat' apply And.intro
  all_goals try exact gB
  all_goals first | (refine hK _ ?_; clear hK K) | (simp only [push_cast]; done)
  refine awp_seq' fun K hK => ?_
  refine awp_regionN false tyOk tyPos ?_ rfl ?_
  · kernel_rfl
  simp only [push_cast, ↓brB_true, ↓brB_false, ↓reduceIte, zA, zB, zC, zD, zE, zF, zG, zH, zI, reduceCtorEq]
  all_goals repeat' (first | (apply brB_mk <;> (intro hg; (try simp only [push_cast] at hg))) | apply And.intro | (intro hg; (try simp only [push_cast] at hg)))
  all_goals try exact gA
  all_goals first | (refine hK _ ?_; clear hK K) | (simp only [push_cast]; done)
  refine awp_seq' fun K hK => ?_
  refine awp_region tyOk tyPos [] rfl ?_
  simp only [push_cast, ↓brB_true, ↓brB_false, ↓reduceIte, zA, zB, zC, zD, zE, zF, zG, zH, zI, reduceCtorEq]
  repeat' apply And.intro
  all_goals try exact gB
  all_goals first | (refine hK _ ?_; clear hK K) | (simp only [push_cast]; done)
  refine awp_seq' fun K hK => ?_
  refine awp_region tyOk tyPos [] rfl ?_
  simp only [push_cast, ↓brB_true, ↓brB_false, ↓reduceIte, zA, zB, zC, zD, zE, zF, zG, zH, zI, reduceCtorEq]
  repeat' apply And.intro
  all_goals try exact gB
  all_goals first | (refine hK _ ?_; clear hK K) | (simp only [push_cast]; done)
  refine awp_ret ?_
  (try simp only [AThen, ABlk])
  refine ⟨Or.inl rfl, ?_⟩
  simp only [RetOk, resVars, resVar, push_cast, ↓brB_true, ↓brB_false, ↓reduceIte, zA, zB, zC, zD, zE, zF, zG, zH, zI, reduceCtorEq]
  exact ⟨by decide, by simp, by simp, by simp⟩
end Go.Proofs.Ytklconkoamoabaa

namespace Go.Proofs.Ytklconkoamoabaa
open Go.RowKit
set_option linter.unusedVariables false
set_option linter.unusedSimpArgs false

def enumS : Nat → List AV → List (Nat × AV)
  | _, [] => []
  | i, v :: vs => (i, v) :: enumS (i + 1) vs
theorem lk_enumS : ∀ (vs : List AV) (i k : Nat) (v : AV), lk (enumS i vs) k = some v → ∃ j, vs[j]? = some v ∧ k = i + j
  | [], i, k, v, h => by simp [enumS, lk] at h
  | u :: vs, i, k, v, h => by
    simp only [enumS, lk_cons] at h
    split at h
    · rename_i e
      cases h
      exact ⟨0, rfl, by omega⟩
    · obtain ⟨j, h1, h2⟩ := lk_enumS vs (i + 1) k v h
      exact ⟨j + 1, by simpa using h1, by omega⟩
def evryB : Nat → Bool := fun _ => true
def twoB (T : Nat) : Nat → Bool := fun t => t == T || t == 1000000
def othB (T : Nat) : Nat → Bool := fun t => !(t == T)
def covR (r' : List (Nat × Root)) : List (Nat × Root) → Prop
  | [] => True
  | (d, R) :: l => (lk r' d = some R ∧ R.pin = none) ∧ covR r' l
theorem covR_at {r' : List (Nat × Root)} : ∀ {l : List (Nat × Root)}, covR r' l → ∀ d R, lk l d = some R → lk r' d = some R ∧ R.pin = none
  | [], _, d, R, h => by simp [lk] at h
  | (k, R0) :: l, h, d, R, hl => by
    rw [lk_cons] at hl
    split at hl
    · rename_i e; subst e; cases hl; exact h.1
    · exact covR_at h.2 d R hl
def pinOk (r : List (Nat × Root)) : Bool := r.all fun x => match x.2.pin with | some i => i != 999999 | none => true
def RetI (τ : Ty) (rs : List ResultVar) (K : AV → List AV → List (Nat × Root) → Prop) (e : Exit) (st : St) : Prop := (e = .ret ∨ e = .normal) ∧
  match resVars τ st rs, lk st.b 1000000 with
  | some (vs, ob), some cs => ob ∧ ∃ r, covR st.r r ∧ K (retA vs) cs r
  | _, _ => False
def backI (T : Nat) (st : St) (cs : List AV) (r : List (Nat × Root)) : St := ⟨st.n, mapv (AV.kill evryB (othB T)) st.s, [(T, AV.killL noB evryB cs)], r⟩
def startI (n T : Nat) (vs cells : List AV) (st : St) : St := ⟨n, enumS 0 (AV.killL noB (twoB T) vs), (1000000, AV.killL noB (twoB T) cells) :: mapv (AV.killL noB (twoB T)) (rm (twoB T) st.b), st.r⟩
def aCallI (P : Program) (τ : Ty) (T : Nat) (o : Oper) (K : St → Prop) (st : St) : Prop :=
  match callOf o, lk st.b T with
  | some (f, args, _), some cells => T ≠ 1000000 ∧ pinOk st.r = true ∧ ∃ (fn : Func) (rs : List ResultVar), P.funcs[f]? = some fn ∧ (fn.name == "runtime.NumGoroutine") = false ∧ fn.body.isSome = true ∧ fn.results = rs.toArray ∧ args.toList.length ≤ fn.ntmps ∧
      awp P τ (fn.body.getD .skip) (RetI τ rs fun v cs r => K ((backI T st cs r).put o.dst (AV.kill noB evryB v))) (startI fn.ntmps T (args.toList.map (ev st)) cells st)
  | _, _ => False
theorem aCallI_mk {P : Program} {τ : Ty} {T : Nat} {o : Oper} {K : St → Prop} {st : St} {fn : Func} {rs : List ResultVar} {f : FuncId} {args : Array Operand} {ts : Array TypeId} {cells : List AV} (h1 : callOf o = some (f, args, ts)) (h2 : lk st.b T = some cells) (h3 : T ≠ 1000000) (h4 : pinOk st.r = true) (h5 : P.funcs[f]? = some fn) (h6 : (fn.name == "runtime.NumGoroutine") = false) (h7 : fn.body.isSome = true) (h8 : fn.results = rs.toArray) (h9 : args.toList.length ≤ fn.ntmps)
    (h : awp P τ (fn.body.getD .skip) (RetI τ rs fun v cs r => K ((backI T st cs r).put o.dst (AV.kill noB evryB v))) (startI fn.ntmps T (args.toList.map (ev st)) cells st)) : aCallI P τ T o K st := by
  unfold aCallI
  rw [h1, h2]
  exact ⟨h3, h4, fn, rs, h5, h6, h7, h8, h9, h⟩
theorem inl_of {P : Program} {τ : Ty} {fn : Func} {c : Code} {Q : Exit → St → Prop} {st : St} (hb : fn.body = some c) (h : awp P τ c Q st) : awp P τ (fn.body.getD .skip) Q st := by rw [hb]; exact h
section
variable {P : Program} {τ : Ty} {lo : Nat} {w0 : Fz} {st : St} {a : Act} {w : World}
theorem aCallI_sound (hτ : TyOk P τ) (hpos : TyPos τ) {T : Nat} {o : Oper} {K : St → Prop} {Q : Exit → Act → World → Prop} {K' : Act → World → Prop} (hd : ∀ k, o.dst = some k → k < a.tmps.size) (h : Rel τ lo w0 st a w) (ha : aCallI P τ T o K st)
    (hK : ∀ st' x w', K st' → Rel τ lo w0 st' (a.put o.dst x) w' → K' (a.put o.dst x) w') : o.wp P a w K' Q := by
  obtain ⟨ow, hd', bk, hr⟩ := h
  unfold aCallI at ha
  split at ha
  rotate_left
  · exact ha.elim
  rename_i f args ts cells hc hT
  obtain ⟨hT6, hpin, fn, rs, hfn, hname, hb, hres, hn, hbody⟩ := ha
  obtain ⟨bcs, bty, g1, g2, g3⟩ := hr.box T cells hT
  have hglt : bk T < w.heap.size := (Array.getElem?_eq_some_iff.1 g1).1
  have hpinD : ∀ d R i, lk st.r d = some R → R.pin = some i → i ≠ 999999 := fun d R i hR hi => by
    have := List.all_eq_true.1 hpin _ (lk_some hR)
    simp only [hi] at this
    simpa using this
  have hev : AvRL τ w st.r st.b hd' bk (args.toList.map (ev st)) (args.toList.map a.eval) := AvRL_iff.2 ⟨by simp, fun i v x hv hx => by
    rw [List.getElem?_map] at hv hx
    cases hk : args.toList[i]? with
    | none => rw [hk] at hv; cases hv
    | some p => rw [hk] at hv hx; cases hv; cases hx; exact ev_sound hr p⟩
  generalize hvs : args.toList.map a.eval = vs at hev
  have hvl : vs.length = args.toList.length := by rw [← hvs, List.length_map]
  -- the callee's frame, owners and boxes
  obtain ⟨w1, hw1⟩ : ∃ w1 : Fz, w1 = ⟨w0.w, w0.kp, fun i => if i = 999999 then some (.pointer (some ⟨bk T, 0, none⟩)) else w0.pin i⟩ := ⟨_, rfl⟩
  have hkeep1 : ∀ {w}, Keep w0 w → Keep w1 w := fun h => by subst hw1; exact ⟨h.os, h.tape, h.output, h.size, h.block⟩
  have hkeep0 : ∀ {w}, Keep w1 w → Keep w0 w := fun h => by subst hw1; exact ⟨h.os, h.tape, h.output, h.size, h.block⟩
  have hfre : ∀ b, w1.fre b ↔ w0.fre b := fun b => by subst hw1; exact Iff.rfl
  obtain ⟨bk1, hbk1⟩ : ∃ f : Nat → Nat, f = upd bk 1000000 (bk T) := ⟨_, rfl⟩
  have hboxes : ∀ t cs, lk (startI fn.ntmps T (args.toList.map (ev st)) cells st).b t = some cs → (t = 1000000 ∧ cs = AV.killL noB (twoB T) cells) ∨ (t ≠ 1000000 ∧ t ≠ T ∧ ∃ cs0, lk st.b t = some cs0 ∧ cs = AV.killL noB (twoB T) cs0) := fun t cs h => by
    have h2 : lk ((1000000, AV.killL noB (twoB T) cells) :: mapv (AV.killL noB (twoB T)) (rm (twoB T) st.b)) t = some cs := h
    rw [lk_cons] at h2
    split at h2
    · rename_i e
      cases h2
      exact .inl ⟨e.symm, rfl⟩
    · rename_i e
      rw [lk_mapv, lk_rm] at h2
      by_cases h3 : twoB T t = true
      · rw [if_pos h3] at h2; cases h2
      · rw [if_neg h3] at h2
        have h4 : t ≠ T := fun e => h3 (by subst e; simp [twoB])
        cases hx : lk st.b t with
        | none => rw [hx] at h2; cases h2
        | some cs0 => rw [hx] at h2; cases h2; exact .inr ⟨fun e2 => e e2.symm, h4, cs0, rfl, rfl⟩
  have hB : ∀ t, twoB T t = false → KeepB st.b (startI fn.ntmps T (args.toList.map (ev st)) cells st).b bk bk1 t := fun t ht ⟨cs, hcs⟩ => by
    have h1 : t ≠ 1000000 := fun e => by subst e; simp [twoB] at ht
    rcases hboxes t cs hcs with ⟨e, -⟩ | ⟨-, -, cs0, h2, -⟩
    · exact absurd e h1
    · exact ⟨⟨cs0, h2⟩, by rw [hbk1]; exact upd_ne _ _ h1⟩
  have hDs : ∀ d, noB d = false → KeepD w w st.r st.r hd' hd' d := fun d _ R hR => ⟨R, hR, rfl, fun p hp => ⟨hp, rfl⟩⟩
  have hown1 : ∀ (m : Md) b, rel m (ow b) → upd ow (bk T) (some (.box 1000000)) b = ow b := fun m b hrl => by
    by_cases e : b = bk T
    · subst e
      rw [g2] at hrl
      cases m <;> simp [rel] at hrl
    · exact upd_ne _ _ e
  have hstart : Rel τ lo w1 (startI fn.ntmps T (args.toList.map (ev st)) cells st) { tmps := vs.toArray ++ Array.replicate (fn.ntmps - vs.toArray.size) undef, defers := [] } w := by
    refine ⟨upd ow (bk T) (some (.box 1000000)), hd', bk1, fun ad had => ?_, rfl, ?_, hr.low, hkeep1 hr.below, fun b p hlt hb hp => ?_, fun b hb => ?_, fun k v hv => ?_, fun d R hR => ?_, fun t cs hcs => ?_, fun d R i hR hi => ?_⟩
    · subst hw1
      simp only [if_true] at had
      cases had
      rw [hbk1, upd_same]
    · show (vs.toArray ++ Array.replicate (fn.ntmps - vs.toArray.size) undef).size = fn.ntmps
      simp only [Array.size_append, List.size_toArray, Array.size_replicate]
      omega
    · by_cases e : b = bk T
      · subst e
        have := hr.ge _ _ hglt g2 (by simp)
        exact ⟨this.1, (hfre _).2 this.2⟩
      · rw [upd_ne _ _ e] at hb
        have := hr.ge b p hlt hb hp
        exact ⟨this.1, (hfre _).2 this.2⟩
    · rw [upd_ne _ _ (by omega)]
      exact hr.new b hb
    · obtain ⟨j, hj, hkj⟩ := lk_enumS _ _ _ _ hv
      rw [Nat.zero_add] at hkj
      subst hkj
      have hevk := AvRL_keep (τ := τ) hDs hB _ _ hev
      obtain ⟨h1, h2⟩ := AvRL_iff.1 hevk
      have hlt : k < vs.length := by rw [h1]; exact (List.getElem?_eq_some_iff.1 hj).1
      have hget : (vs.toArray ++ Array.replicate (fn.ntmps - vs.toArray.size) undef).getD k undef = vs[k] := by
        rw [Array.getD_eq_getD_getElem?, Array.getElem?_append_left (by simpa using hlt)]
        simp [hlt]
      show AvR τ w st.r _ hd' bk1 v ((vs.toArray ++ Array.replicate (fn.ntmps - vs.toArray.size) undef).getD k undef)
      rw [hget]
      exact h2 k v _ hj (List.getElem?_eq_getElem hlt)
    · exact Rp_frame _ _ (Nat.le_refl _) _ _ _ (fun b hb hrl => ⟨rfl, hown1 _ b hrl⟩) (hr.root d R hR)
    · rcases hboxes t cs hcs with ⟨rfl, rfl⟩ | ⟨h1, h2, cs0, h3, rfl⟩
      · exact ⟨bcs, bty, by rw [hbk1, upd_same]; exact g1, by rw [hbk1, upd_same, upd_same], AvRL_keep hDs hB _ _ g3⟩
      · obtain ⟨ds, dty, q1, q2, q3⟩ := hr.box t cs0 h3
        have hne : bk t ≠ bk T := fun e => by
          rw [e, g2] at q2
          cases q2
          exact h2 rfl
        exact ⟨ds, dty, by rw [hbk1, upd_ne _ _ h1]; exact q1, by rw [hbk1, upd_ne _ _ h1, upd_ne _ _ hne]; exact q2, AvRL_keep hDs hB _ _ q3⟩
    · subst hw1
      have := hpinD d R i hR hi
      simp only [if_neg this]
      exact hr.pin d R i hR hi
  have hC : Calls P f vs.toArray w (fun e w' => ∃ z, e = .returned z ∧ ∃ st', K st' ∧ Rel τ lo w0 st' (a.put o.dst z) w') := by
    obtain ⟨c, hbc⟩ := Option.isSome_iff_exists.1 hb
    have hget : fn.body.getD .skip = c := by rw [hbc]; rfl
    rw [hget] at hbody
    refine calls_of_wp hfn hbc (Go.wp_mono (hbody lo w1 _ w hstart) fun e a' w' ⟨st', ⟨ow2, hd2, bk2, hr2⟩, he, hret⟩ => ?_)
    have hpost : a'.defers = [] ∧ ∃ v, (results fn a'.tmps).run P w' = .ok v w' ∧ (∃ z, Ending.returned v = .returned z ∧ ∃ st', K st' ∧ Rel τ lo w0 st' (a.put o.dst z) w') := by
      split at hret
      · rename_i avs ob0 cs hrv hcs
        obtain ⟨hob0, r, hcov, hK0⟩ := hret
        obtain ⟨xs, hrun, hv⟩ := results_runR hτ hpos hr2 hres hrv hob0
        refine ⟨hr2.defers, _, hrun, _, rfl, _, hK0, ?_⟩
        have hbig : bk2 1000000 = bk T := hr2.big ⟨bk T, 0, none⟩ (by subst hw1; simp)
        obtain ⟨ds, dty, q1, q2, q3⟩ := hr2.box 1000000 cs hcs
        rw [hbig] at q1 q2
        have hown2 : ∀ (m : Md) b, rel m (ow2 b) → upd ow2 (bk T) (some (.box T)) b = ow2 b := fun m b hrl => by
          by_cases e : b = bk T
          · subst e
            rw [q2] at hrl
            cases m <;> simp [rel] at hrl
          · exact upd_ne _ _ e
        have hsz : w.heap.size ≤ w'.heap.size ∨ True := .inr trivial
        have hlt2 : bk T < w'.heap.size := (Array.getElem?_eq_some_iff.1 q1).1
        have hD2 : ∀ d, noB d = false → KeepD w' w' st'.r r hd2 hd2 d := fun d _ R hR => ⟨R, (covR_at hcov d R hR).1, rfl, fun p hp => ⟨hp, rfl⟩⟩
        have hB2 : ∀ t, evryB t = false → KeepB st'.b (backI T st cs r).b bk2 bk t := fun t h => by cases h
        have hback : RelC τ lo w0 (upd ow2 (bk T) (some (.box T))) hd2 bk (backI T st cs r) a w' := by
          refine ⟨hr.big, hr.defers, hr.size, hr2.low, hkeep0 hr2.below, fun b p hlt hb hp => ?_, fun b hb => ?_, fun k v hv => ?_, fun d R hR => ?_, fun t us hus => ?_, fun d R i hR hi => ?_⟩
          · by_cases e : b = bk T
            · subst e
              exact hr.ge _ _ hglt g2 (by simp)
            · rw [upd_ne _ _ e] at hb
              have := hr2.ge b p hlt hb hp
              exact ⟨this.1, (hfre _).1 this.2⟩
          · rw [upd_ne _ _ (by omega)]
            exact hr2.new b hb
          · have hv2 : lk (mapv (AV.kill evryB (othB T)) st.s) k = some v := hv
            rw [lk_mapv] at hv2
            cases hk : lk st.s k with
            | none => rw [hk] at hv2; cases hv2
            | some v0 =>
              rw [hk] at hv2
              cases hv2
              refine AvR_keep (fun d h => (by cases h)) (fun t h => ?_) v0 _ (hr.slot k v0 hk)
              have e : t = T := by simpa [othB] using h
              subst e
              exact fun _ => ⟨⟨cells, hT⟩, rfl⟩
          · exact Rp_frame _ _ (Nat.le_refl _) _ _ _ (fun b hb hrl => ⟨rfl, hown2 _ b hrl⟩) (hr2.root d R (covR_at hcov d R hR).1)
          · have hus2 : lk [(T, AV.killL noB evryB cs)] t = some us := hus
            rw [lk_cons] at hus2
            split at hus2
            · rename_i e
              subst e
              cases hus2
              exact ⟨ds, dty, q1, upd_same _ _ _, AvRL_keep hD2 hB2 _ _ q3⟩
            · cases hus2
          · rw [(covR_at hcov d R hR).2] at hi
            cases hi
        exact rel_put hback hd (AvR_keep hD2 hB2 _ _ (retA_sound hv))
      · exact hret.elim
    rcases he with rfl | rfl <;> exact hpost
  unfold Oper.wp
  rw [callG_exec hr hc ⟨fn, hfn, hname, by cases hbb : fn.body with | none => rw [hbb] at hb; cases hb | some c => rfl⟩, hvs]
  simp only [Oper.upon]
  refine hC.mono fun e w' hpost => ?_
  obtain ⟨z, rfl, st', hK1, hrel⟩ := hpost
  exact hK _ z w' hK1 hrel

def aopsI (P : Program) (τ : Ty) (al : List Nat) (t T : Nat) (K : St → Prop) : List Oper → St → Prop
  | [], st => K st
  | o :: os, st =>
    match o.guard with
    | none =>
      match mkF o with
      | some (f, caps) => aopsI P τ al t T K os (st.put o.dst (.fn f (caps.map (ev st))))
      | none => if o.dst = some t then aCallI P τ T o (aopsI P τ al t T K os) st else aop P τ al o (aopsI P τ al t T K os) st
    | some (j, want) => False
theorem aopsI_sound (hτ : TyOk P τ) (hpos : TyPos τ) {al : List Nat} {t T : Nat} {all : List Oper} {K : St → Prop} {Q : Exit → Act → World → Prop} (hQ : ∀ st a w, K st → Rel τ lo w0 st a w → Q .normal a w) :
    ∀ (os : List Oper) (st : St) (a : Act) (w : World), dstOk a.tmps.size os = true → Rel τ lo w0 st a w → aopsI P τ al t T K os st → wpList P all.toArray Q os a w
  | [], st, a, w, _, h, ha => wpList_nil (hQ st a w ha h)
  | o :: os, st, a, w, hd, h, ha => by
    have hd1 : ∀ k, o.dst = some k → k < a.tmps.size := fun k hk => by
      have := List.all_eq_true.1 hd o (by simp)
      rw [hk] at this
      simpa using this
    have hd2 : dstOk a.tmps.size os = true := List.all_eq_true.2 fun x hx => List.all_eq_true.1 hd x (by simp [hx])
    refine wpList_step fun K' hK' => ?_
    simp only [aopsI] at ha
    split at ha
    · rename_i hg
      rw [if_pos (by simp [Region.wanted, hg])]
      split at ha
      · rename_i f caps hm
        obtain ⟨ow, hd', bk, hr⟩ := h
        obtain ⟨z, hz, hv⟩ := mkF_sound (P := P) hr hm
        unfold Oper.wp
        rw [hz]
        exact hK' _ _ (aopsI_sound hτ hpos hQ os _ _ w (by rw [size_put]; exact hd2) (rel_put hr hd1 hv) ha)
      · split at ha
        · exact aCallI_sound hτ hpos hd1 h ha fun st' x w' h2 h3 => hK' _ _ (aopsI_sound hτ hpos hQ os st' _ w' (by rw [size_put]; exact hd2) h3 h2)
        · exact aop_sound hτ hpos hd1 h ha fun st' x w' h2 h3 => hK' _ _ (aopsI_sound hτ hpos hQ os st' _ w' (by rw [size_put]; exact hd2) h3 h2)
    · exact ha.elim
end
theorem awp_regionI {P : Program} {τ : Ty} {Q : Exit → St → Prop} {st : St} (t T : Nat) (hτ : TyOk P τ) (hpos : TyPos τ) (al : List Nat) {id : Nat} {ops : List Oper} (hd : dstOk st.n ops = true) (h : aopsI P τ al t T (Q .normal) ops st) : awp P τ (.region id ops.toArray false) Q st := fun lo w0 a w hr => by
  have hn : a.tmps.size = st.n := by obtain ⟨ow, hd, bk, h⟩ := hr; exact h.size
  refine wp_region_lit (aopsI_sound hτ hpos (fun st a w h1 h2 => ⟨st, h2, h1⟩) ops st a w (by rw [hn]; exact hd) hr h)

mutual
def AV.rnb (t T : Nat) : AV → AV
  | .int k n => .int k n
  | .bool b => .bool b
  | .sl d p off len e => .sl d p off len e
  | .nil => .nil
  | .ep d p i => .ep d p i
  | .bp k i => if k = t then .bp T i else if k = T then .dead else .bp k i
  | .agg vs => .agg (AV.rnbL t T vs)
  | .tup vs => .tup (AV.rnbL t T vs)
  | .fn f vs => .fn f (AV.rnbL t T vs)
  | .dead => .dead
  | .raw u => .raw u
def AV.rnbL (t T : Nat) : List AV → List AV
  | [] => []
  | v :: vs => AV.rnb t T v :: AV.rnbL t T vs
end
def renK (t T : Nat) : List (Nat × List AV) → List (Nat × List AV)
  | [] => []
  | (k, vs) :: l => (if k = t then T else k, AV.rnbL t T vs) :: renK t T l
def St.renB (t T : Nat) (st : St) : St := ⟨st.n, mapv (AV.rnb t T) st.s, renK t T st.b, st.r⟩
theorem lk_renK {t T : Nat} (hne : t ≠ T) : ∀ {l : List (Nat × List AV)} {k : Nat} {cs : List AV}, lk l T = none → lk (renK t T l) k = some cs → (k = T ∧ ∃ cs0, lk l t = some cs0 ∧ cs = AV.rnbL t T cs0) ∨ (k ≠ T ∧ k ≠ t ∧ ∃ cs0, lk l k = some cs0 ∧ cs = AV.rnbL t T cs0)
  | [], k, cs, _, h => by simp [renK, lk] at h
  | (j, vs) :: l, k, cs, hn, h => by
    rw [lk_cons] at hn
    split at hn
    · cases hn
    rename_i hjT
    simp only [renK, lk_cons] at h
    by_cases hj : j = t
    · rw [if_pos hj] at h
      split at h
      · rename_i e
        cases h
        exact .inl ⟨e.symm, vs, by rw [lk_cons, if_pos hj], rfl⟩
      · rename_i e
        rcases lk_renK hne hn h with ⟨e1, -⟩ | ⟨h1, h2, cs0, h3, h4⟩
        · exact absurd e1.symm e
        · exact .inr ⟨h1, h2, cs0, by rw [lk_cons, if_neg (fun e2 => h2 (by rw [← e2, hj]))]; exact h3, h4⟩
    · rw [if_neg hj] at h
      split at h
      · rename_i e
        cases h
        exact .inr ⟨fun e2 => hjT (e.trans e2), fun e2 => hj (e.trans e2), vs, by rw [lk_cons, if_pos e], rfl⟩
      · rename_i e
        rcases lk_renK hne hn h with ⟨e1, cs0, h3, h4⟩ | ⟨h1, h2, cs0, h3, h4⟩
        · exact .inl ⟨e1, cs0, by rw [lk_cons, if_neg hj]; exact h3, h4⟩
        · exact .inr ⟨h1, h2, cs0, by rw [lk_cons, if_neg e]; exact h3, h4⟩
section
variable {P : Program} {τ : Ty} {lo : Nat} {w0 : Fz} {st : St} {w : World} {rr : List (Nat × Root)} {bb bb' : List (Nat × List AV)} {hd : Nat → Value} {bk bk' : Nat → Nat} {t T : Nat}
mutual
theorem AvR_rnb (h1 : (∃ cs, lk bb' T = some cs) → (∃ cs, lk bb t = some cs) ∧ bk' T = bk t) (h2 : ∀ k, k ≠ t → k ≠ T → (∃ cs, lk bb' k = some cs) → (∃ cs, lk bb k = some cs) ∧ bk' k = bk k) : ∀ (v : AV) (x : Value), AvR τ w rr bb hd bk v x → AvR τ w rr bb' hd bk' (v.rnb t T) x
  | .int k n, x, h => by simpa only [AV.rnb, AvR] using h
  | .bool b, x, h => by simpa only [AV.rnb, AvR] using h
  | .sl d p off len e, x, h => by simpa only [AV.rnb, AvR] using h
  | .nil, x, h => by simpa only [AV.rnb, AvR] using h
  | .ep d p i, x, h => by simpa only [AV.rnb, AvR] using h
  | .bp k i, x, h => by
    simp only [AV.rnb]
    split
    · rename_i e
      subst e
      simp only [AvR] at h ⊢
      exact ⟨h.1, fun hl => by rw [(h1 hl).2]; exact h.2 (h1 hl).1⟩
    · rename_i e
      split
      · simp only [AvR]
      · rename_i e2
        simp only [AvR] at h ⊢
        exact ⟨h.1, fun hl => by rw [(h2 k e e2 hl).2]; exact h.2 (h2 k e e2 hl).1⟩
  | .agg vs, x, h => by
    simp only [AV.rnb, AvR] at h ⊢
    obtain ⟨cs, e, h⟩ := h
    exact ⟨cs, e, AvRL_rnb h1 h2 vs cs h⟩
  | .tup vs, x, h => by
    simp only [AV.rnb, AvR] at h ⊢
    obtain ⟨cs, e, h⟩ := h
    exact ⟨cs, e, AvRL_rnb h1 h2 vs cs h⟩
  | .fn f vs, x, h => by
    simp only [AV.rnb, AvR] at h ⊢
    obtain ⟨cs, e, h⟩ := h
    exact ⟨cs, e, AvRL_rnb h1 h2 vs cs h⟩
  | .dead, x, h => by simp only [AV.rnb, AvR]
  | .raw u, x, h => by simpa only [AV.rnb, AvR] using h
theorem AvRL_rnb (h1 : (∃ cs, lk bb' T = some cs) → (∃ cs, lk bb t = some cs) ∧ bk' T = bk t) (h2 : ∀ k, k ≠ t → k ≠ T → (∃ cs, lk bb' k = some cs) → (∃ cs, lk bb k = some cs) ∧ bk' k = bk k) : ∀ (vs : List AV) (xs : List Value), AvRL τ w rr bb hd bk vs xs → AvRL τ w rr bb' hd bk' (AV.rnbL t T vs) xs
  | [], xs, h => by simpa only [AV.rnbL, AvRL] using h
  | v :: vs, xs, h => by
    simp only [AV.rnbL, AvRL] at h ⊢
    obtain ⟨x, xs', e, h3, h4⟩ := h
    exact ⟨x, xs', e, AvR_rnb h1 h2 v x h3, AvRL_rnb h1 h2 vs xs' h4⟩
end
theorem awp_renB (t T : Nat) {c : Code} {Q : Exit → St → Prop} (hn : (t == T || T == 1000000 || t == 1000000) = false) (hT : lk st.b T = none) (h : awp P τ c Q (st.renB t T)) : awp P τ c Q st := fun lo w0 a w hr => by
  obtain ⟨ow, hd, bk, hr⟩ := hr
  simp only [Bool.or_eq_false_iff, beq_eq_false_iff_ne] at hn
  obtain ⟨⟨n1, n2⟩, n3⟩ := hn
  have hsh := fun {k cs} h => lk_renK n1 (l := st.b) (k := k) (cs := cs) hT h
  have h1 : (∃ cs, lk (renK t T st.b) T = some cs) → (∃ cs, lk st.b t = some cs) ∧ upd bk T (bk t) T = bk t := fun ⟨cs, hcs⟩ => by
    rcases hsh hcs with ⟨-, cs0, h3, -⟩ | ⟨h1, -⟩
    · exact ⟨⟨cs0, h3⟩, upd_same _ _ _⟩
    · exact absurd rfl h1
  have h2 : ∀ k, k ≠ t → k ≠ T → (∃ cs, lk (renK t T st.b) k = some cs) → (∃ cs, lk st.b k = some cs) ∧ upd bk T (bk t) k = bk k := fun k hkt hkT ⟨cs, hcs⟩ => by
    rcases hsh hcs with ⟨e, -⟩ | ⟨-, -, cs0, h3, -⟩
    · exact absurd e hkT
    · exact ⟨⟨cs0, h3⟩, upd_ne _ _ hkT⟩
  obtain ⟨ow', how⟩ : ∃ f : Nat → Option Pl, f = fun b => match ow b with | some (.box k) => if k = t then some (.box T) else some (.box k) | p => p := ⟨_, rfl⟩
  have hsame : ∀ (m : Md) b, rel m (ow b) → ow' b = ow b := fun m b hrl => by
    rw [how]
    simp only
    split
    · rename_i e
      rw [e] at hrl
      cases m <;> simp [rel] at hrl
    · rfl
  refine h lo w0 a w ⟨ow', hd, upd bk T (bk t), fun ad had => ?_, hr.defers, hr.size, hr.low, hr.below, fun b p hlt hb hp => ?_, fun b hb => ?_, fun k v hv => ?_, fun d R hR => ?_, fun k cs hcs => ?_, hr.pin⟩
  · rw [upd_ne _ _ (Ne.symm n2)]
    exact hr.big ad had
  · rw [how] at hb
    simp only at hb
    split at hb
    · rename_i e
      exact hr.ge b _ hlt e (by simp)
    · exact hr.ge b p hlt hb hp
  · rw [how]
    simp only [hr.new b hb]
  · have hv2 : lk (mapv (AV.rnb t T) st.s) k = some v := hv
    rw [lk_mapv] at hv2
    cases hk : lk st.s k with
    | none => rw [hk] at hv2; cases hv2
    | some v0 => rw [hk] at hv2; cases hv2; exact AvR_rnb h1 h2 v0 _ (hr.slot k v0 hk)
  · exact Rp_frame _ _ (Nat.le_refl _) _ _ _ (fun b hb hrl => ⟨rfl, hsame _ b hrl⟩) (hr.root d R hR)
  · rcases hsh hcs with ⟨rfl, cs0, h3, rfl⟩ | ⟨e1, e2, cs0, h3, rfl⟩
    · obtain ⟨ds, dty, q1, q2, q3⟩ := hr.box t cs0 h3
      exact ⟨ds, dty, by rw [upd_same]; exact q1, by rw [upd_same, how]; simp only [q2]; rfl, AvRL_rnb h1 h2 _ _ q3⟩
    · obtain ⟨ds, dty, q1, q2, q3⟩ := hr.box k cs0 h3
      refine ⟨ds, dty, by rw [upd_ne _ _ e1]; exact q1, ?_, AvRL_rnb h1 h2 _ _ q3⟩
      rw [upd_ne _ _ e1, how]
      simp only
      rw [q2]
      exact if_neg e2
end
attribute [push_cast] AV.rnb AV.rnbL renK St.renB
attribute [push_cast] aopsI enumS startI backI evryB twoB othB covR pinOk
end Go.Proofs.Ytklconkoamoabaa

namespace Go.Proofs.Ytklconkoamoabaa
open Go.RowKit
set_option linter.unusedVariables false
set_option linter.unusedSimpArgs false

section
variable {P : Program} {np : Bool} {τ : Ty} {lo : Nat} {w0 : Fz} {ow : Nat → Option Pl} {hd : Nat → Value} {bk : Nat → Nat} {st : St} {a : Act} {w : World}
end
end Go.Proofs.Ytklconkoamoabaa

namespace Go.Proofs.Ytklconkoamoabaa
open Go.RowKit
set_option linter.unusedVariables false
set_option linter.unusedSimpArgs false

def lentSt0 (st : St) (ls : List Lend) : St := { st with r := lentR ls st.r }
section
variable {P : Program} {np : Bool} {τ : Ty} {lo : Nat} {w0 : Fz} {ow : Nat → Option Pl} {hd : Nat → Value} {bk : Nat → Nat} {st : St} {a : Act} {w : World}
theorem lentSt0_sound (h : RelC τ lo w0 ow hd bk st a w) {vs : List AV} {cv : List Value} (hv : AvRL τ w st.r st.b hd bk vs cv) {own : List Nat} {outs : List Out} {ls : List Lend} {ob2 : Prop}
    (hbad : ∀ d, (∃ x ∈ ls, x.d = d) → NoWay d st) (hl : lendsOf τ st vs outs own = some (ls, ob2)) (hob2 : ob2) (hsep : sepAll ls) (hnd : own.Nodup) {t : Nat} {w' : World} {ow' : Nat → Option Pl}
    (hk : Keep ⟨w, fun b => owIn ow ls b = none, fun _ => none⟩ w') (hlow : ∀ b, b < w.heap.size → owIn ow ls b = none → ow' b = none) (hnew : ∀ b p, ow' b = some p → b < w'.heap.size ∧ lo ≤ b ∧ ∃ d q, p = .root d q)
    (hout : ∀ x ∈ outs, Rp (sz τ) lo w' ow' (.ex (outId x.1) []) (.lst x.2.1 x.2.2) (hdArgs cv x.1)) :
    RelC τ lo w0 (owOut ow ls w.heap.size t ow') hd bk (lentSt0 st ls) a w' := by
  obtain ⟨l1, l2⟩ := lendsOf_at hl hob2
  have hok : ∀ x ∈ ls, ∃ len R, LendOk τ st vs outs x len R := fun x hx => by
    obtain ⟨ob, e1, e2⟩ := l1 x hx; exact lendOf_ok e1 e2
  have hids : (ls.map (·.id)).Nodup := by rw [l2]; exact hnd
  have old : ∀ b, b < w.heap.size → owIn ow ls b = none → w'.heap[b]? = w.heap[b]? ∧ owOut ow ls w.heap.size t ow' b = ow b := fun b hb hn =>
    ⟨hk.block b hb hn, by unfold owOut; rw [if_pos ⟨hb, by rw [hn]; rfl⟩]⟩
  have back : ∀ x ∈ ls, ∀ b q, ow' b = some (.root (outId x.id) q) → owOut ow ls w.heap.size t ow' b = some (.root x.d (x.p ++ q)) := fun x hx b q hb => by
    have : ¬ (b < w.heap.size ∧ (owIn ow ls b).isNone = true) := fun ⟨h1, h2⟩ => by
      rw [hlow b h1 (by cases ho : owIn ow ls b with | none => rfl | some p => rw [ho] at h2; cases h2)] at hb; cases hb
    unfold owOut
    rw [if_neg this, hb]
    simp only
    rw [if_pos (by unfold outId; omega), show outId x.id - 1000000 = x.id from by unfold outId; omega]
    exact backL_at hids x hx
  have hge : ∀ b p, owOut ow ls w.heap.size t ow' b = some p → p ≠ .ext → b < w'.heap.size → lo ≤ b ∧ w0.fre b := fun b p hb hp hlt => by
    by_cases hc : b < w.heap.size ∧ (owIn ow ls b).isNone = true
    · unfold owOut at hb; rw [if_pos hc] at hb; exact h.ge b p hc.1 hb hp
    · unfold owOut at hb
      rw [if_neg hc] at hb
      have ho' : ∃ p', ow' b = some p' := by
        cases ho : ow' b with
        | none => rw [ho] at hb; cases hb
        | some p' => exact ⟨p', rfl⟩
      obtain ⟨p', ho'⟩ := ho'
      refine ⟨(hnew b p' ho').2.1, fun hlt0 => ?_⟩
      have hbw : b < w.heap.size := Nat.lt_of_lt_of_le hlt0 h.below.size
      cases hoi : owIn ow ls b with
      | none => exact absurd ⟨hbw, by rw [hoi]; rfl⟩ hc
      | some p2 =>
        obtain ⟨d, q, ho, -⟩ := owIn_some hoi
        exact (h.ge b _ hbw ho (by simp)).2 hlt0
  have hc := h
  have hr : ∀ d, lk (lentSt0 st ls).r d = if goneL d ls = true then none else (lk st.r d).map fun R => { R with xs := newXs d R.xs ls } := fun d => lk_lentR ls st.r d
  have hrel : ∀ (d : Nat) (R : Root), (∀ x ∈ ls, x.d ≠ d) → ∀ b, b < w.heap.size → rel (md R.o d) (ow b) → w'.heap[b]? = w.heap[b]? ∧ owOut ow ls w.heap.size t ow' b = ow b := fun d R hn b hb hr => old b hb (owIn_other hn hr)
  have h0 : ∀ d, (∃ x ∈ ls, x.d = d) → Keep0 st.r (lentSt0 st ls).r hd hd d := fun d _ R' hR' => by
    rw [hr] at hR'
    split at hR'
    · cases hR'
    · cases hx : lk st.r d with
      | none => rw [hx] at hR'; cases hR'
      | some R => exact ⟨R, rfl, rfl⟩
  have hD : ∀ d, ¬ (∃ x ∈ ls, x.d = d) → KeepD w w' st.r (lentSt0 st ls).r hd hd d := fun d hn R' hR' => by
    have hn' : ∀ x ∈ ls, x.d ≠ d := fun x hx e => hn ⟨x, hx, e⟩
    rw [hr, goneL_no hn'] at hR'
    simp only [Bool.false_eq_true, if_false] at hR'
    cases hx : lk st.r d with
    | none => rw [hx] at hR'; cases hR'
    | some R =>
      rw [hx] at hR'
      simp only [Option.map_some, Option.some.injEq] at hR'
      subst hR'
      refine ⟨R, rfl, rfl, fun p hp => ?_⟩
      simp only [newXs_no hn'] at hp ⊢
      exact ⟨hp, into_keep p _ _ _ _ (h.root d R hx) hp (fun b o A n c hb hrl hcell => by
        rw [cell_same (hrel d R hn' b hb hrl).1]; exact hcell)⟩
  have hB : ∀ t, KeepB st.b (lentSt0 st ls).b bk bk t := fun t hl => ⟨hl, rfl⟩
  refine ⟨h.big, h.defers, h.size, Nat.le_trans h.low hk.size, h.below.step hk.os hk.tape hk.output hk.size (fun b hb hf => ?_), fun b p hlt hb hp => hge b p hb hp hlt, fun b hb => ?_, fun k v hv' => ?_, fun d R' hR' => ?_, fun k us hv' => ?_, fun d R' i hR' hp => ?_⟩
  · refine hk.block b hb ?_
    show owIn ow ls b = none
    cases hoi : owIn ow ls b with
    | none => rfl
    | some p =>
      obtain ⟨d, q, ho, -⟩ := owIn_some hoi
      exact absurd (h.ge b _ hb ho (by simp)).2 hf
  · have hb' : w.heap.size ≤ b := Nat.le_trans hk.size hb
    unfold owOut
    rw [if_neg (fun hh => by omega)]
    cases ho : ow' b with
    | none => rfl
    | some p => have := (hnew b p ho).1; omega
  · exact AvR_keepS h0 hD hB v _ (fun d hd' hb => (hbad d hb).s k v hv' hd') (hc.slot k v hv')
  · rw [hr] at hR'
    split at hR'
    · cases hR'
    · rename_i hg
      have hg : goneL d ls = false := by simpa using hg
      cases hx : lk st.r d with
      | none => rw [hx] at hR'; cases hR'
      | some R =>
        rw [hx] at hR'
        simp only [Option.map_some, Option.some.injEq] at hR'
        subst hR'
        by_cases hin : ∃ x ∈ ls, x.d = d
        · have hex : R.o = .ex := by
            obtain ⟨x, hxm, rfl⟩ := hin
            obtain ⟨len, R2, ho⟩ := hok x hxm
            have := ho.root; rw [hx] at this; cases this
            exact ho.ex
          simp only [hex]
          by_cases hroot : ∃ x ∈ ls, x.d = d ∧ x.p = []
          · obtain ⟨x, hxm, rfl, hp⟩ := hroot
            obtain ⟨ys, hys⟩ := goneL_of hg x hxm rfl
            obtain ⟨len, R2, ho⟩ := hok x hxm
            have := ho.root; rw [hx] at this; cases this
            obtain ⟨q1, -⟩ := lend_val h hv ho
            rw [hp] at q1
            simp only [into, Option.some.injEq] at q1
            have he := ho.elem
            rw [hp] at he
            simp only [nodeE] at he
            simp only [newXs_root hsep x hxm rfl hp hys]
            have := hout _ (ho.out ys hys)
            simp only at this
            rw [← q1, ← he] at this
            exact Rp_move _ _ _ _ _ [] [] _ (fun b q _ hb => by
              have := back x hxm b q (by simpa using hb)
              rw [hp] at this
              simpa using this) this
          · have hone : ∀ x ∈ ls, x.d = d → ∃ j ys, x.p = [j] ∧ x.out = some ys := fun x hxm e => by
              obtain ⟨len, R2, ho⟩ := hok x hxm
              rcases ho.short with hs | hs
              · exact absurd ⟨x, hxm, e, hs⟩ hroot
              · exact hs
            have hone' : ∀ x ∈ ls, x.d = d → ∃ j, x.p = [j] := fun x hxm e => by obtain ⟨j, ys, h1, -⟩ := hone x hxm e; exact ⟨j, h1⟩
            have hrt := h.root d R hx
            rw [hex] at hrt
            obtain ⟨zs, k1, k5⟩ := (Rp_lst _ _).1 hrt
            have hlen : (newXs d R.xs ls).length = R.xs.length := newXs_len hone'
            have hnil : ∀ b, ow b = some (.root d []) → owIn ow ls b = none := fun b hb => by
              cases hoi : owIn ow ls b with
              | none => rfl
              | some p =>
                obtain ⟨d', q, h1, x, hxm, h2, q', h3, -⟩ := owIn_some hoi
                rw [hb] at h1; cases h1
                obtain ⟨j, hj⟩ := hone' x hxm h2
                rw [hj] at h3; simp at h3
            have k1' : Hd (sz τ) lo w' (owOut ow ls w.heap.size t ow') (.ex d []) R.e (hd d) R.xs.length zs := by
              obtain ⟨m1, N, m2, m3, m4⟩ := k1
              refine ⟨m1, N, m2, ⟨m3.1, ?_⟩, fun b hb => ?_⟩
              · rcases m3.2 with hn | ⟨g, cap, cur, hv2, hb2, hg2, rest⟩
                · exact .inl hn
                · have hgo := m4 g (by rw [hv2]; rfl)
                  have hglt : g < w.heap.size := (Array.getElem?_eq_some_iff.1 hg2).1
                  exact .inr ⟨g, cap, cur, hv2, hb2, by rw [(old g hglt (hnil g hgo)).1]; exact hg2, rest⟩
              · have hgo := m4 b hb
                rw [(old b (m3.lt b hb).2 (hnil b hgo)).2]; exact hgo
            refine (Rp_lst _ _).2 ⟨zs, by rw [hlen]; exact k1', fun i y u hy hu => ?_⟩
            have hi : i < R.xs.length := by rw [← hlen]; exact (List.getElem?_eq_some_iff.1 hy).1
            by_cases hsel : ∃ x ∈ ls, x.d = d ∧ x.p = [i]
            · obtain ⟨x, hxm, rfl, hp⟩ := hsel
              obtain ⟨j, ys, hj, hys⟩ := hone x hxm rfl
              obtain ⟨len, R2, ho⟩ := hok x hxm
              have := ho.root; rw [hx] at this; cases this
              rw [newXs_in hi hsep hone' x hxm rfl hp hys] at hy
              cases hy
              obtain ⟨q1, -⟩ := lend_val h hv ho
              rw [hp] at q1
              obtain ⟨b1, o1, n1, c1, hv', hN, hb1, hr1, hc1⟩ := Hd_cell k1 hu
              rw [hv'] at q1
              simp only [into, hc1, Option.bind_some, Option.some.injEq] at q1
              have := hout _ (ho.out ys hys)
              simp only at this
              rw [← q1] at this
              refine Rp_move _ _ _ _ _ [] ([] ++ [i]) _ (fun b q _ hb => ?_) this
              have := back x hxm b q (by simpa using hb)
              rw [hp] at this
              simpa using this
            · rw [newXs_out (fun x hxm e => by
                obtain ⟨j, hj⟩ := hone' x hxm e
                exact ⟨j, hj, fun e2 => hsel ⟨x, hxm, e, by rw [hj, e2]⟩⟩)] at hy
              refine Rp_frame _ _ hk.size _ _ _ (fun b hb hr => old b hb ?_) (k5 i y u hy hu)
              obtain ⟨q, hq⟩ := hr
              cases hoi : owIn ow ls b with
              | none => rfl
              | some p =>
                obtain ⟨d', q', h1, x, hxm, h2, q2, h3, -⟩ := owIn_some hoi
                rw [hq] at h1
                simp only [Option.some.injEq, Pl.root.injEq, List.nil_append] at h1
                obtain ⟨rfl, rfl⟩ := h1
                obtain ⟨j, hj⟩ := hone' x hxm h2
                rw [hj] at h3
                simp only [List.cons_append, List.nil_append, List.cons.injEq] at h3
                exact absurd ⟨x, hxm, h2, by rw [hj, h3.1]⟩ hsel
        · have hn' : ∀ x ∈ ls, x.d ≠ d := fun x hx e => hin ⟨x, hx, e⟩
          simp only [newXs_no hn']
          exact Rp_frame _ _ hk.size _ _ _ (fun b hb hr => hrel d R hn' b hb hr) (h.root d R hx)
  · obtain ⟨cs, ty, q1, q2, q3⟩ := hc.box k us hv'
    have hlt : bk k < w.heap.size := (Array.getElem?_eq_some_iff.1 q1).1
    have hno : owIn ow ls (bk k) = none := by unfold owIn; rw [q2]
    exact ⟨cs, ty, by rw [(old _ hlt hno).1]; exact q1, by rw [(old _ hlt hno).2]; exact q2, AvRL_keepS h0 hD hB us cs (fun d hd' hb => (hbad d hb).b k us hv' hd') q3⟩
  · rw [hr] at hR'
    split at hR'
    · cases hR'
    · cases hx : lk st.r d with
      | none => rw [hx] at hR'; cases hR'
      | some R =>
        rw [hx] at hR'
        simp only [Option.map_some, Option.some.injEq] at hR'
        subst hR'
        exact h.pin d R i hx hp

theorem postG0_sound (h : RelC τ lo w0 ow hd bk st a w) {vs : List AV} {cv : List Value} (hv : AvRL τ w st.r st.b hd bk vs cv) {own : List Nat} {outs : List Out} {ls : List Lend} {ob2 : Prop}
    (hbad : ∀ d, (∃ x ∈ ls, x.d = d) → NoWay d st) (hl : lendsOf τ st vs outs own = some (ls, ob2)) (hob2 : ob2) (hsep : sepAll ls) (hnd : own.Nodup) {t : Nat} {ress : List VT} (hs : szL τ (flat ress)) (hfl : (flat ress).length ≤ 1000000) {e : Ending} {w' : World} (hp : PostG τ lo w (owIn ow ls) outs ress cv e w') :
    ∃ z ow' hd', e = .returned z ∧ RelC τ lo w0 ow' hd' bk (resS t 0 (flat ress) (lentSt0 st ls)) a w' ∧ AvR τ w' (resS t 0 (flat ress) (lentSt0 st ls)).r (resS t 0 (flat ress) (lentSt0 st ls)).b hd' bk (retA (resV τ t 0 ress)) z := by
  obtain ⟨rs, ow', he, hk, hlow, hnew, hres, hout⟩ := hp
  have h1 := lentSt0_sound h hv hbad hl hob2 hsep hnd (t := t) hk hlow hnew hout
  have e2 : ∀ b j q, j < 1000000 → ow' b = some (.root j q) → owOut ow ls w.heap.size t ow' b = some (.root (home t j) q) := fun b j q hj hq => by
    have : ¬ (b < w.heap.size ∧ (owIn ow ls b).isNone = true) := fun ⟨h1, h2⟩ => by
      rw [hlow b h1 (by cases ho : owIn ow ls b with | none => rfl | some p => rw [ho] at h2; cases h2)] at hq; cases hq
    unfold owOut
    rw [if_neg this, hq]
    simp only
    rw [if_neg (by omega)]
  obtain ⟨cs, k1, k2, k3⟩ := ResR_flat (bk := bk) (τ := τ) (rr := (resS t 0 (flat ress) (lentSt0 st ls)).r) (bb := (resS t 0 (flat ress) (lentSt0 st ls)).b) (t := t) hres
  have k2' : ∀ (i : Nat) (d : D) (c : Value), (flat ress)[i]? = some d → cs[i]? = some c → Rp (sz τ) lo w' (owOut ow ls w.heap.size t ow') (.ex (home t (0 + i)) []) d c := fun i d c hd hc => by
    have hi : i < 1000000 := Nat.lt_of_lt_of_le (List.getElem?_eq_some_iff.1 hd).1 hfl
    exact Rp_move _ _ _ _ _ [] [] _ (fun b q _ e => e2 b _ q (by omega) e) (k2 i d c hd hc)
  obtain ⟨hd', r1, r2, r3⟩ := resS_sound t (flat ress) 0 (lentSt0 st ls) hd cs h1 k1 k2'
  exact ⟨retV rs, _, hd', he, r1, retA_sound (k3 w' hd' (resC_sound (ow := owOut ow ls w.heap.size t ow') (lo := lo) t (flat ress) 0 cs k1 hs (fun i d c h1 h2 => ⟨_, k2' i d c h1 h2⟩) (fun i e xs c h1 h2 => (r3 i e xs c h1 h2).2)))⟩

def inD : List Nat → Option Tmp → Bool
  | x :: xs, some d => if x = d then true else inD xs (some d)
  | _, _ => false
def lexU (X : Oper → St → (Dl → Prop) → Prop) (P : Program) (np : Bool) (τ : Ty) (t : List Nat) (all : List Oper) (E : List Rec → St → Prop) : List Oper → Nat → List Rec → St → Prop
  | [], _, cs, st => E cs st
  | o :: os, k, cs, st =>
    match o.guard with
    | none => if inD t o.dst = true then X o st fun δ => lexU X P np τ t all E os (k + 1) (⟨k, fp o st, δ.wr⟩ :: cs) (st.app o.dst δ) else actE P np τ o st fun δ => lexU X P np τ t all E os (k + 1) (⟨k, fp o st, δ.wr⟩ :: cs) (st.app o.dst δ)
    | some _ => False
theorem lexU_lexP {X : Oper → St → (Dl → Prop) → Prop} (hX : ∀ o st K, X o st K → ∃ δ, Act1 P np τ o st δ ∧ K δ) {t : List Nat} {all : List Oper} {A : List (List Nat)} {Q : St → Prop} : ∀ (os : List Oper) (k : Nat) (cs : List Rec) (st : St), lexU X P np τ t all (fun cs st => chk all A cs = true ∧ Q st) os k cs st → chk all A cs = true ∧ lexP P np τ all A (fun st' => ∃ s, Eqv st' s ∧ Q s) os k cs st
  | [], k, cs, st, h => ⟨h.1, st, Eqv.refl _, h.2⟩
  | o :: os, k, cs, st, h => by
    have go : (∃ δ, Step P np τ all o st δ ∧ lexU X P np τ t all (fun cs st => chk all A cs = true ∧ Q st) os (k + 1) (⟨k, fp o st, δ.wr⟩ :: cs) (st.app o.dst δ)) → chk all A cs = true ∧ lexP P np τ all A (fun st' => ∃ s, Eqv st' s ∧ Q s) (o :: os) k cs st := by
      rintro ⟨δ, h1, h2⟩
      obtain ⟨h3, h4⟩ := lexU_lexP hX os _ _ _ h2
      simp only [chk, Bool.and_eq_true] at h3
      exact ⟨h3.2, δ, h1, h3.1, h4⟩
    simp only [lexU] at h
    split at h
    · rename_i hg
      split at h
      · obtain ⟨δ, h1, h2⟩ := hX _ _ _ h
        exact go ⟨δ, by unfold Step; rw [hg]; exact h1, h2⟩
      · obtain ⟨δ, h1, h2⟩ := actE_act h
        exact go ⟨δ, by unfold Step; rw [hg]; exact h1, h2⟩
    · exact h.elim
end
attribute [push_cast] inD lexU selV
end Go.Proofs.Ytklconkoamoabaa
