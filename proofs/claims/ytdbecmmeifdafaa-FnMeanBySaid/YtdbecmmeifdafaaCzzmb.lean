/- A credit is finite exactly if what the steps bring is bounded from below: plain. -/
import Derived.Test.YtdbecmmeifdafaaCyzmb
namespace Go.Proofs.Ytdbecmmeifdafaa
open Go.RowKit MV
set_option linter.unusedVariables false
set_option linter.unusedSimpArgs false

theorem gm_ok20 {w : Wt} (hw : WSh w) : (gmW w).Ok w.a.owner.length 20000 :=
  ⟨fun v hv => (hw.row v hv).2.1, fun v hv j hj => by have := hw.to v hv j hj; show (gi (gl w.a.next v) j).toNat < _; omega, fun v hv j hj => (hw.bd v hv j hj).1, fun v hv j hj => (hw.bd v hv j hj).2⟩
theorem gm_mx0 {w : Wt} {v : Nat} (h : gi w.a.owner v = 0) : (gmW w).mx v = true := decide_eq_true h
theorem gm_mx1 {w : Wt} {v : Nat} (h : gi w.a.owner v = 1) : (gmW w).mx v = false := decide_eq_false (by omega)
/-- With a finite credit the steps never bring less than that. -/
theorem pay_low {w : Wt} (hw : WSh w) {b : Int} (hb : 0 ≤ b) {c : List Int} (hL : Least w b c) : ∀ k v, v < w.a.owner.length → gi c v ≤ b → -gi c v ≤ (gmW w).pay k v
  | 0, v, hv, h => by have := (hL.rg v hv).1; show _ ≤ (0 : Int); omega
  | k + 1, v, hv, h => by
    have hr := hL.rg v hv
    have hd := (gm_ok20 hw).deg v hv
    have hs := (stepT_le hw hb hv hr.1 h).1 (hL.pre v hv)
    rcases hw.own v hv with e | e
    · obtain ⟨j, hj, e1, e2⟩ := hs.1 e
      have ih := pay_low hw hb hL k _ ((gm_ok20 hw).to v hv j hj) e1
      have h2 := (Gm.pay_x (gm_mx0 e) hd k).2 j hj
      have e3 : gi c ((gmW w).to v j) - (gmW w).c v j ≤ gi c v := e2
      omega
    · obtain ⟨j, hj, e3⟩ := (Gm.pay_n (gm_mx1 e) hd k).1
      obtain ⟨e1, e2⟩ := hs.2 e j hj
      have ih := pay_low hw hb hL k _ ((gm_ok20 hw).to v hv j hj) e1
      have e4 : gi c ((gmW w).to v j) - (gmW w).c v j ≤ gi c v := e2
      omega
/-- Where the steps bring no less than some number, the credit is finite. -/
theorem fin_of_pay {w : Wt} (hw : WSh w) {b : Int} (hb : boundW w ≤ b) {c : List Int} (hL : Least w b c) {v : Nat} (hv : v < w.a.owner.length) {M0 : Int} (h : ∀ k, -M0 ≤ (gmW w).pay k v) : gi c v ≤ b := by
  have hg := gm_ok20 hw
  have hb0 := hw.bound.1
  obtain ⟨M, hM, hdi⟩ := bounds_ex (gmW w).en w.a.owner.length
  have hmono : ∀ v, v < w.a.owner.length → ∀ i k, i ≤ k → (gmW w).en i v ≤ (gmW w).en k v := fun v hv i k hik => Gm.en_le hg hv k hik
  obtain ⟨K, hK⟩ := great_ex (M + 20000 + 1) w.a.owner.length hmono
  obtain ⟨J, hJK, hJ⟩ := still_ex (M := M) w.a.owner.length K hmono
  have hvb : ∀ j, (gmW w).en j v ≤ M := by
    rcases hdi v hv with h1 | h1
    · exact h1
    · exfalso
      have hp := Gm.phase hg (by decide) hM (U := fun v => ∀ X, ∃ j, X < (gmW w).en j v) (fun u hu hn => (hdi u hu).resolve_right hn) hK
      have h2 := hp ((K * 20000 + M0 + 1).toNat * K) v hv h1 _ (Nat.le_refl _)
      have h3 := h ((K * 20000 + M0 + 1).toNat * K)
      omega
  have hfin : ∀ u, u < w.a.owner.length → (gmW w).en J u ≤ M + 20000 → ∀ j, (gmW w).en j u ≤ M := fun u hu h1 => by
    rcases hdi u hu with h2 | h2
    · exact h2
    · have := hK u hu h2
      have := hmono u hu K J hJK
      omega
  have hbb : 0 ≤ max M (boundW w) := by omega
  obtain ⟨c2, L2⟩ := least_ex hw hbb
  generalize hB : max M (boundW w) = B at hbb L2
  have hBM : M ≤ B := by omega
  have hBb : boundW w ≤ B := by omega
  let d := tabL w.a.owner.length fun u => if (gmW w).en J u ≤ M then (gmW w).en J u else B + 1
  have hd : ∀ u, u < w.a.owner.length → gi d u = if (gmW w).en J u ≤ M then (gmW w).en J u else B + 1 := fun u hu => tabL_at hu
  have hpre : PreC w B d := by
    refine ⟨tabL_len _ _, fun u hu => ?_, fun u hu => ?_⟩
    · have := (Gm.en_mono hg J u hu).1
      rw [hd u hu]
      split <;> omega
    · rw [hd u hu]
      split
      · rename_i e
        have h0 := (Gm.en_mono hg J u hu).1
        have hs : (gmW w).en (J + 1) u = (gmW w).en J u := hJ u hu (hfin u hu (by omega)) (J + 1) (by omega)
        have hdg := hg.deg u hu
        have hed : ∀ j, j < (gl w.a.next u).length → (gmW w).en J ((gmW w).to u j) - (gmW w).c u j ≤ (gmW w).en J u → Ed w B d u j ((gmW w).en J u) := fun j hj he => by
          have ht := hg.to u hu j hj
          have hc := hg.hi u hu j hj
          have hf := hfin _ ht (by omega) J
          have e5 : gi d (toE w u j) = (gmW w).en J ((gmW w).to u j) := by
            show gi d ((gmW w).to u j) = _
            rw [hd _ ht, if_pos hf]
          unfold Ed
          rw [e5]
          exact ⟨by omega, he⟩
        refine (stepT_le hw hbb hu h0 (by omega)).2 ⟨fun e1 => ?_, fun e1 j hj => ?_⟩
        · obtain ⟨j, hj, e2⟩ := (Gm.en_x (gm_mx0 e1) hdg J).1
          exact ⟨j, hj, hed j hj (by omega)⟩
        · have := (Gm.en_n (gm_mx1 e1) hdg J).2 j hj
          exact hed j hj (by omega)
      · exact (stepT_rg hw hbb hu).2
  have h4 := L2.low d hpre v hv
  rw [hd v hv, if_pos (hvb J)] at h4
  have h5 := least_dec hw hb hBb hL L2 hv
  have h6 := hvb J
  have h7 := (L2.rg v hv).1
  unfold decB at h5
  split at h5 <;> split at h5 <;> omega
end Go.Proofs.Ytdbecmmeifdafaa
