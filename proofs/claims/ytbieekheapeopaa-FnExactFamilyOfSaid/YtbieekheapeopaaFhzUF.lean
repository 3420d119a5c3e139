/- the family of a list of pairs: both sides -/
import Derived.Test.YtbieekheapeopaaFgzUF
import Derived.Test.YtbieekheapeopaaFdzUF
namespace Go.Proofs.Ytbieekheapeopaa
open Nat renaming reduceMod → zA, reduceMul → zB, reduceDiv → zC, reduceAdd → zD, reduceSub → zE, reduceEqDiff → zF, reduceBEq → zG, reduceLT → zH, reduceLeDiff → zI
open Go.RowKit
set_option linter.unusedVariables false
set_option linter.unusedSimpArgs false

def inP (ps : List Pr) (v : Int) : Bool := ps.any fun p => hasB p.ask v || hasB p.give v
def unP (ps : List Pr) (N : Nat) : List Int := ((List.range N).map fun (i : Nat) => (i : Int)).filter (inP ps)
theorem unP_nil (N : Nat) : unP [] N = [] := by unfold unP; rw [List.filter_eq_nil_iff]; intro x _; simp [inP]
theorem unP_0 (ps : List Pr) : unP ps 0 = [] := rfl
theorem unP_yes {ps : List Pr} {N : Nat} (h : inP ps N = true) : unP ps (N + 1) = unP ps N ++ [(N : Int)] := by unfold unP; rw [List.range_succ, List.map_append, List.filter_append]; simp [h]
theorem unP_no {ps : List Pr} {N : Nat} (h : inP ps N = false) : unP ps (N + 1) = unP ps N := by unfold unP; rw [List.range_succ, List.map_append, List.filter_append]; simp [h]
theorem unP_le (ps : List Pr) (N : Nat) : (unP ps N).length ≤ N := by unfold unP; exact Nat.le_trans (List.length_filter_le _ _) (by simp)
theorem inP_yes {ps : List Pr} {v : Int} {i : Nat} (hi : i < ps.length) (h : hasB (gp ps i).ask v = true ∨ hasB (gp ps i).give v = true) : inP ps v = true := by
  unfold inP
  rw [List.any_eq_true]
  exact ⟨_, gp_mem hi, by rw [Bool.or_eq_true]; exact h⟩
theorem mem_gp {ps : List Pr} {p : Pr} (h : p ∈ ps) : ∃ k, k < ps.length ∧ gp ps k = p := by
  obtain ⟨k, hk, rfl⟩ := List.mem_iff_getElem.1 h
  exact ⟨k, hk, by have := gp_lt hk; rw [List.getElem?_eq_getElem hk] at this; exact (Option.some.inj this).symm⟩
theorem inP_no {ps : List Pr} {v : Int} (h : ∀ j, j < ps.length → hasB (gp ps j).ask v = false ∧ hasB (gp ps j).give v = false) : inP ps v = false := by
  unfold inP
  rw [List.any_eq_false]
  intro p hp
  obtain ⟨k, hk, rfl⟩ := mem_gp hp
  rw [(h k hk).1, (h k hk).2]; simp
theorem mem_unP {ps : List Pr} {N : Nat} {x : Int} : x ∈ unP ps N ↔ (0 ≤ x ∧ x < N) ∧ inP ps x = true := by
  unfold unP
  rw [List.mem_filter, List.mem_map]
  constructor
  · rintro ⟨⟨i, hi, rfl⟩, h⟩
    exact ⟨⟨by omega, by have := List.mem_range.1 hi; omega⟩, h⟩
  · rintro ⟨h1, h2⟩
    exact ⟨⟨x.toNat, List.mem_range.2 (by omega), by omega⟩, h2⟩
theorem unP_pw (ps : List Pr) (N : Nat) : (unP ps N).Pairwise (· < ·) := by
  unfold unP
  refine List.Pairwise.filter _ ?_
  rw [List.pairwise_map]
  exact List.pairwise_lt_range.imp fun h => by omega
def unI (a b : List Int) : List Int := sortI (a ++ lessI b a)
theorem unI_len (a b : List Int) : (unI a b).length ≤ a.length + b.length := by unfold unI; rw [sortI_len, List.length_append]; have := lessI_le b a; omega
theorem mem_unI {a b : List Int} {x : Int} : x ∈ unI a b ↔ x ∈ a ∨ x ∈ b := by
  unfold unI
  rw [(sortI_perm _).mem_iff, List.mem_append]
  unfold lessI
  rw [List.mem_filter]
  constructor
  · rintro (h | h)
    · exact .inl h
    · exact .inr h.1
  · rintro (h | h)
    · exact .inl h
    · by_cases h2 : x ∈ a
      · exact .inl h2
      · refine .inr ⟨h, ?_⟩
        have : hasB a x = false := by rw [Bool.eq_false_iff]; exact fun h3 => h2 ((hasB_iff a x).1 h3)
        rw [this]; rfl
theorem unI_pw {a b : List Int} (ha : a.Pairwise (· < ·)) (hb : b.Pairwise (· < ·)) : (unI a b).Pairwise (· < ·) := by
  unfold unI
  refine sort_strict ?_
  rw [List.nodup_append]
  refine ⟨pw_nodup ha, (pw_nodup hb).filter _, fun x hx y hy e => ?_⟩
  subst e
  unfold lessI at hy
  have := (List.mem_filter.1 hy).2
  rw [(hasB_iff a x).2 hx] at this
  simp at this
theorem setB_rg {b : List Int} {n : Int} (hs : isSetB b n = true) {x : Int} (hx : x ∈ b) : 0 ≤ x ∧ x < n := by
  obtain ⟨k, hk, rfl⟩ := mem_gi hx
  have h2 := allB_at hs hk
  unfold riseAt at h2
  have h3 := of_decide_eq_true h2
  exact ⟨h3.1, h3.2.1⟩
theorem unP_step {ps : List Pr} {n : Int} (h : prsB ps n = true) {k : Nat} (hk : k < ps.length) : unI (unP (ps.take k) n.toNat) (unI (gp ps k).ask (gp ps k).give) = unP (ps.take (k + 1)) n.toNat := by
  obtain ⟨hn, hl, hs⟩ := prs_facts h
  have hsk := hs k hk
  have pa := set_pw hsk.1
  have pg := set_pw hsk.2
  refine sorted_ext (unI_pw (unP_pw _ _) (unI_pw pa pg)) (unP_pw _ _) fun x => ?_
  rw [mem_unI, mem_unI, mem_unP, mem_unP]
  have e : inP (ps.take (k + 1)) x = (inP (ps.take k) x || (hasB (gp ps k).ask x || hasB (gp ps k).give x)) := by
    unfold inP; rw [tk_snocP hk, List.any_append]; simp
  rw [e, Bool.or_eq_true, Bool.or_eq_true, hasB_iff, hasB_iff]
  constructor
  · rintro (h | h | h)
    · exact ⟨h.1, .inl h.2⟩
    · have := setB_rg hsk.1 h; exact ⟨by omega, .inr (.inl h)⟩
    · have := setB_rg hsk.2 h; exact ⟨by omega, .inr (.inr h)⟩
  · rintro ⟨h1, h | h | h⟩
    · exact .inl ⟨h1, h⟩
    · exact .inr (.inl h)
    · exact .inr (.inr h)
def famNm (ps : List Pr) (n : Int) : List Int := unP ps n.toNat
theorem famNm_le (ps : List Pr) (n : Int) : (famNm ps n).length ≤ n.toNat := unP_le _ _
def famQ (ps : List Pr) (s : List Int) : Bool := decide ((bkN ps s ps.length).length = 0)
def famOfB (ps : List Pr) (n : Int) : Bool := prsB ps n && decide ((famNm ps n).length ≤ 4)
def famOfF (ps : List Pr) (n : Int) : Fm := if famOfB ps n then ⟨famNm ps n, (subsL (famNm ps n)).filter (famQ ps)⟩ else ⟨[], []⟩
theorem famOf_no1 {ps : List Pr} {n : Int} (h : prsB ps n = false) : famOfB ps n = false := by unfold famOfB; rw [h]; rfl
theorem famOf_no2 {ps : List Pr} {n : Int} (h : ¬ (famNm ps n).length ≤ 4) : famOfB ps n = false := by unfold famOfB; rw [decide_eq_false h, Bool.and_false]
theorem famOf_yes {ps : List Pr} {n : Int} (h : prsB ps n = true) (h2 : (famNm ps n).length ≤ 4) : famOfB ps n = true := by unfold famOfB; rw [h, decide_eq_true h2]; rfl
theorem famOfF_no {ps : List Pr} {n : Int} (h : famOfB ps n = false) : famOfF ps n = ⟨[], []⟩ := by unfold famOfF; rw [h]; rfl
theorem famOfF_yes {ps : List Pr} {n : Int} (h : famOfB ps n = true) : famOfF ps n = ⟨famNm ps n, (subsL (famNm ps n)).filter (famQ ps)⟩ := by unfold famOfF; rw [h]; rfl
theorem famOf_len (ps : List Pr) (n : Int) : (famOfF ps n).Ln 1048576 := by
  unfold famOfF
  split
  · rename_i h
    unfold famOfB at h
    rw [Bool.and_eq_true, decide_eq_true_eq] at h
    have h4 := pow_le16 h.2
    have h5 := subsL_len (famNm ps n)
    refine ⟨by unfold LnI; show (famNm ps n).length ≤ _; omega, ⟨Nat.le_trans (List.length_filter_le _ _) (by omega), fun r hr => ?_⟩⟩
    obtain ⟨k, hk, rfl⟩ := mem_gl (List.mem_filter.1 hr).1
    have := subsL_row (xs := famNm ps n) k
    omega
  · exact ⟨by unfold LnI; simp, by simp, by simp⟩
set_option maxRecDepth 20000 in
set_option maxHeartbeats 8000000 in
theorem FamilyOfI_fn (ps : List Pr) (ha : PLn 1048576 ps) (n : Int) : Fn Try.prog tyT 37 [.c (.lst 95 (dII (ilv ps))), .c (.int .i64 n)] [.agg (dFm (famOfF ps n)), .c (.bool (famOfB ps n))] := by
  have hl := ha.1
  have hg := fun k => gp_le ha k
  have hga : ∀ k, (gp ps k).ask.length ≤ 1048576 := fun k => (hg k).ask
  have hgg : ∀ k, (gp ps k).give.length ≤ 1048576 := fun k => (hg k).give
  have hli := len_ilv ps
  have hA := PairsOkI_fn ps ha n
  have hS := fun h => subsetsOf_fn (famNm ps n) h
  unfold dFm
  refine Fn_ofR (fn := Try.f37) (rs := [.cell 4 28, .tmp 5]) tyOk tyPos Try.func37 (by kernel_rfl) rfl rfl (by rw [Try.ntmps37]; exact Nat.le_of_ble_eq_true rfl) rfl (by simp only [szA, List.mem_cons, List.not_mem_nil, or_false, forall_eq_or_imp, forall_eq, VT.cells, szL]; try decide) ?_
  rw [Try.ntmps37]
  simp only [push_cast, ↓brB_true, ↓brB_false, ↓reduceIte, zA, zB, zC, zD, zE, zF, zG, zH, zI, reduceCtorEq]
  refine awp_seq' fun K hK => ?_
  refine awp_region tyOk tyPos [] rfl ?_
  all_goals simp only [push_cast, ↓brB_true, ↓brB_false, ↓reduceIte, zA, zB, zC, zD, zE, zF, zG, zH, zI, reduceCtorEq]
  all_goals repeat' (first | (apply brB_mk <;> (intro hg; (try simp only [push_cast] at hg))) | apply And.intro | (intro hg; (try simp only [push_cast] at hg)))
  all_goals first | exact True.intro | exact rfl | contradiction | omega | with_reducible assumption | (exact getE_holT (by omega)) | (exact getE_dII (by simp only [push_cast]; omega)) | (exact getE_dII (by omega)) | skip
  all_goals first | (refine hK _ ?_; clear hK K) | (simp only [push_cast]; done)
  refine awp_seq' fun K1 hK1 => ?_
  refine awp_seq' fun K hK => ?_
  refine awp_region tyOk tyPos [] rfl ?_
  all_goals refine aops_cut 3 fun K9 hK9 => ?_
  all_goals simp only [push_cast, ↓brB_true, ↓brB_false, ↓reduceIte, zA, zB, zC, zD, zE, zF, zG, zH, zI, reduceCtorEq]
  all_goals repeat' (first | (apply brB_mk <;> (intro hg; (try simp only [push_cast] at hg))) | (refine ⟨_, hA, ?_⟩; simp only [push_cast, ↓brB_true, ↓brB_false, ↓reduceIte, zA, zB, zC, zD, zE, zF, zG, zH, zI, reduceCtorEq]) | apply And.intro | (intro hg; (try simp only [push_cast] at hg)))
  all_goals first | exact True.intro | exact rfl | contradiction | omega | with_reducible assumption | (exact getE_holT (by omega)) | (exact getE_dII (by simp only [push_cast]; omega)) | (exact getE_dII (by omega)) | skip
  all_goals first | (refine hK9 _ ?_; clear hK9 K9) | (simp only [push_cast]; done)
  all_goals simp only [push_cast, ↓brB_true, ↓brB_false, ↓reduceIte, zA, zB, zC, zD, zE, zF, zG, zH, zI, reduceCtorEq]
  all_goals repeat' (first | (apply brB_mk <;> (intro hg; (try simp only [push_cast] at hg))) | (refine ⟨_, hA, ?_⟩; simp only [push_cast, ↓brB_true, ↓brB_false, ↓reduceIte, zA, zB, zC, zD, zE, zF, zG, zH, zI, reduceCtorEq]) | apply And.intro | (intro hg; (try simp only [push_cast] at hg)))
  all_goals first | exact True.intro | exact rfl | contradiction | omega | with_reducible assumption | (exact getE_holT (by omega)) | (exact getE_dII (by simp only [push_cast]; omega)) | (exact getE_dII (by omega)) | skip
  all_goals first | (refine hK _ ?_; clear hK K) | (simp only [push_cast]; done)
  refine awp_cond rfl (fun hc => ?_) (fun hc => ?_) <;> (try simp only [push_cast] at hc)
  ·
    refine awp_seq' fun K hK => ?_
    refine awp_region tyOk tyPos [] rfl ?_
    all_goals simp only [push_cast, ↓brB_true, ↓brB_false, ↓reduceIte, zA, zB, zC, zD, zE, zF, zG, zH, zI, reduceCtorEq]
    all_goals repeat' (first | (apply brB_mk <;> (intro hg; (try simp only [push_cast] at hg))) | apply And.intro | (intro hg; (try simp only [push_cast] at hg)))
    all_goals first | exact True.intro | exact rfl | contradiction | omega | with_reducible assumption | (exact getE_holT (by omega)) | (exact getE_dII (by simp only [push_cast]; omega)) | (exact getE_dII (by omega)) | skip
    all_goals first | (refine hK _ ?_; clear hK K) | (simp only [push_cast]; done)
    refine awp_ret ?_
    (try simp only [AThen, ABlk])
    refine ⟨Or.inl rfl, ?_⟩
    simp only [RetOk, resVars, resVar, push_cast, ↓brB_true, ↓brB_false, ↓reduceIte, zA, zB, zC, zD, zE, zF, zG, zH, zI, reduceCtorEq]
    have h9 : famOfB ps n = false := famOf_no1 (by with_reducible assumption)
    rw [famOfF_no h9, h9]
    all_goals first | exact ⟨rfl, rfl⟩ | rfl | (simp [dI, dII]; done)
  ·
    refine awp_skip ?_
    (try simp only [AThen, ABlk, reduceIte, zF]); refine hK1 _ ?_
    have hok : prsB ps n = true := by with_reducible assumption
    obtain ⟨hn, hl4, hst⟩ := prs_facts hok
    have hnl := famNm_le ps n
    have hsz : ∀ k, k < ps.length → (gp ps k).ask.length ≤ 256 ∧ (gp ps k).give.length ≤ 256 := fun k hk => by have h1 := set_lenN (hst k hk).1 hn.1; have h2 := set_lenN (hst k hk).2 hn.1; omega
    have hB1 : ∀ k, k < ps.length → Fn Try.prog tyT 104 [.c (DI (gp ps k).ask), .c (DI (gp ps k).give)] [.c (DI (unI (gp ps k).ask (gp ps k).give))] := fun k hk => bothOf_fn _ _ (by have := hsz k hk; omega) (by have := hsz k hk; omega) n (hst k hk).1
    have hB2 : ∀ k, k < ps.length → Fn Try.prog tyT 104 [.c (DI (unP (ps.take k) n.toNat)), .c (DI (unI (gp ps k).ask (gp ps k).give))] [.c (DI (unP (ps.take (k + 1)) n.toNat))] := fun k hk => by
      rw [← unP_step hok hk]
      exact bothOf_fn _ _ (by have := unP_le (ps.take k) n.toNat; omega) (by have := unI_len (gp ps k).ask (gp ps k).give; have := hsz k hk; omega) n (set_of_pw (unP_pw _ _) fun x hx => by have := mem_unP.1 hx; omega)
    refine awp_seq' fun K hK => ?_
    refine awp_region tyOk tyPos [] rfl ?_
    all_goals simp only [push_cast, ↓brB_true, ↓brB_false, ↓reduceIte, zA, zB, zC, zD, zE, zF, zG, zH, zI, reduceCtorEq]
    all_goals repeat' (first | (apply brB_mk <;> (intro hg; (try simp only [push_cast] at hg))) | apply And.intro | (intro hg; (try simp only [push_cast] at hg)))
    all_goals first | exact True.intro | exact rfl | contradiction | omega | with_reducible assumption | (exact getE_holT (by omega)) | (exact getE_dII (by simp only [push_cast]; omega)) | (exact getE_dII (by omega)) | skip
    all_goals first | (refine hK _ ?_; clear hK K) | (simp only [push_cast]; done)
    refine awp_seq' fun K2 hK2 => ?_
    refine awp_seq' fun K hK => ?_
    refine awp_region tyOk tyPos [] rfl ?_
    all_goals simp only [push_cast, ↓brB_true, ↓brB_false, ↓reduceIte, zA, zB, zC, zD, zE, zF, zG, zH, zI, reduceCtorEq]
    all_goals repeat' (first | (apply brB_mk <;> (intro hg; (try simp only [push_cast] at hg))) | apply And.intro | (intro hg; (try simp only [push_cast] at hg)))
    all_goals first | exact True.intro | exact rfl | contradiction | omega | with_reducible assumption | (exact getE_holT (by omega)) | (exact getE_dII (by simp only [push_cast]; omega)) | (exact getE_dII (by omega)) | skip
    all_goals first | (refine hK _ ?_; clear hK K) | (simp only [push_cast]; done)
    refine awp_block ?_
    refine awp_loopU [6,8,19,20,21,22,23,24,25,26,27,28,29,30,31,32] [] (fun (k : Nat) => [(19, .int .i64 k), (6, .bp 6 0)]) (fun k => [(6, [.sl 96 [] 0 (unP (ps.take k) n.toNat).length 2, .sl 97 [] 0 0 22])]) (fun k => [(96, ⟨.ex, 2, dI (unP (ps.take k) n.toNat), none⟩), (97, ⟨.ex, 22, [], none⟩)]) (fun k => k ≤ ps.length) (fun k => ps.length - k) 0 ?_ (by omega) ?_
    ·
      rw [List.take_zero, unP_nil, show dI ([] : List Int) = [] from rfl]
      refine cov_of rfl ?_ ?_ ?_ <;> simp only [covS, covL, push_cast, ↓brB_true, ↓brB_false, ↓reduceIte, zA, zB, zC, zD, zE, zF, zG, zH, zI, reduceCtorEq]
    · rintro k hk KL0 hL0
      have hul := unP_le (ps.take k) n.toNat
      simp only [push_cast, ↓brB_true, ↓brB_false, ↓reduceIte, zA, zB, zC, zD, zE, zF, zG, zH, zI, reduceCtorEq]
      refine awp_seq' fun K hK => ?_
      refine awp_region tyOk tyPos [] rfl ?_
      all_goals simp only [push_cast, ↓brB_true, ↓brB_false, ↓reduceIte, zA, zB, zC, zD, zE, zF, zG, zH, zI, reduceCtorEq]
      all_goals repeat' (first | (apply brB_mk <;> (intro hg; (try simp only [push_cast] at hg))) | apply And.intro | (intro hg; (try simp only [push_cast] at hg)))
      all_goals first | exact True.intro | exact rfl | contradiction | omega | with_reducible assumption | (exact getE_holT (by omega)) | (exact getE_dII (by simp only [push_cast]; omega)) | (exact getE_dII (by omega)) | skip
      all_goals first | (refine hK _ ?_; clear hK K) | (simp only [push_cast]; done)
      refine awp_seq' fun K3 hK3 => ?_
      refine awp_cond rfl (fun hc => ?_) (fun hc => ?_) <;> (try simp only [push_cast] at hc)
      ·
        refine awp_skip ?_
        (try simp only [AThen, ABlk, reduceIte, zF]); refine hK3 _ ?_
        refine awp_seq' fun K4 hK4 => ?_
        refine awp_block ?_
        refine awp_seq' fun K hK => ?_
        refine awp_region tyOk tyPos [] rfl ?_
        all_goals simp only [push_cast, ↓brB_true, ↓brB_false, ↓reduceIte, zA, zB, zC, zD, zE, zF, zG, zH, zI, reduceCtorEq]
        all_goals repeat' (first | (apply brB_mk <;> (intro hg; (try simp only [push_cast] at hg))) | apply And.intro | (intro hg; (try simp only [push_cast] at hg)))
        all_goals first | exact True.intro | exact rfl | contradiction | omega | with_reducible assumption | (exact getE_holT (by omega)) | (exact getE_dII (by simp only [push_cast]; omega)) | (exact getE_dII (by omega)) | skip
        all_goals first | (refine hK _ ?_; clear hK K) | (simp only [push_cast]; done)
        refine awp_regionD1 false tyOk tyPos tyMix ?_ rfl ?_
        · kernel_rfl
        intro E hE
        all_goals refine lexF_cut 7 (by decide) fun K9 hK9 => ?_
        all_goals simp only [push_cast, ↓brB_true, ↓brB_false, ↓reduceIte, zA, zB, zC, zD, zE, zF, zG, zH, zI, reduceCtorEq]
        all_goals repeat' (first | (apply brB_mk <;> (intro hg; (try simp only [push_cast] at hg))) | (refine ⟨_, hB1 k (by omega), ?_⟩; simp only [push_cast, ↓brB_true, ↓brB_false, ↓reduceIte, zA, zB, zC, zD, zE, zF, zG, zH, zI, reduceCtorEq]) | (refine ⟨_, hB2 k (by omega), ?_⟩; simp only [push_cast, ↓brB_true, ↓brB_false, ↓reduceIte, zA, zB, zC, zD, zE, zF, zG, zH, zI, reduceCtorEq]) | apply And.intro | (intro hg; (try simp only [push_cast] at hg)))
        all_goals first | exact True.intro | exact rfl | contradiction | omega | with_reducible assumption | (exact getE_holT (by omega)) | (exact getE_dII (by simp only [push_cast]; omega)) | (exact getE_dII (by omega)) | skip
        all_goals first | (refine hK9 _ _ ?_; clear hK9 K9) | (simp only [push_cast]; done)
        all_goals refine lexF_cut 1 (by decide) fun K9 hK9 => ?_
        all_goals simp only [push_cast, ↓brB_true, ↓brB_false, ↓reduceIte, zA, zB, zC, zD, zE, zF, zG, zH, zI, reduceCtorEq]
        all_goals repeat' (first | (apply brB_mk <;> (intro hg; (try simp only [push_cast] at hg))) | (refine ⟨_, hB1 k (by omega), ?_⟩; simp only [push_cast, ↓brB_true, ↓brB_false, ↓reduceIte, zA, zB, zC, zD, zE, zF, zG, zH, zI, reduceCtorEq]) | (refine ⟨_, hB2 k (by omega), ?_⟩; simp only [push_cast, ↓brB_true, ↓brB_false, ↓reduceIte, zA, zB, zC, zD, zE, zF, zG, zH, zI, reduceCtorEq]) | apply And.intro | (intro hg; (try simp only [push_cast] at hg)))
        all_goals first | exact True.intro | exact rfl | contradiction | omega | with_reducible assumption | (exact getE_holT (by omega)) | (exact getE_dII (by simp only [push_cast]; omega)) | (exact getE_dII (by omega)) | skip
        all_goals first | (refine hK9 _ _ ?_; clear hK9 K9) | (simp only [push_cast]; done)
        all_goals simp only [push_cast, ↓brB_true, ↓brB_false, ↓reduceIte, zA, zB, zC, zD, zE, zF, zG, zH, zI, reduceCtorEq]
        all_goals repeat' (first | (apply brB_mk <;> (intro hg; (try simp only [push_cast] at hg))) | (refine ⟨_, hB1 k (by omega), ?_⟩; simp only [push_cast, ↓brB_true, ↓brB_false, ↓reduceIte, zA, zB, zC, zD, zE, zF, zG, zH, zI, reduceCtorEq]) | (refine ⟨_, hB2 k (by omega), ?_⟩; simp only [push_cast, ↓brB_true, ↓brB_false, ↓reduceIte, zA, zB, zC, zD, zE, zF, zG, zH, zI, reduceCtorEq]) | apply And.intro | (intro hg; (try simp only [push_cast] at hg)))
        all_goals first | exact True.intro | exact rfl | contradiction | omega | with_reducible assumption | (refine hE _ _ ?_ ?_; kernel_rfl) | (exact getE_holT (by omega)) | (exact getE_dII (by simp only [push_cast]; omega)) | (exact getE_dII (by omega)) | skip
        all_goals clear hE E
        (try simp only [AThen, ABlk, reduceIte, zF]); refine hK4 _ ?_
        refine awp_settleB [.sl 2, .sl 22] 6 ?_
        simp only [push_cast, ↓brB_true, ↓brB_false, ↓reduceIte, zA, zB, zC, zD, zE, zF, zG, zH, zI, reduceCtorEq]
        refine awp_region tyOk tyPos [] rfl ?_
        all_goals simp only [push_cast, ↓brB_true, ↓brB_false, ↓reduceIte, zA, zB, zC, zD, zE, zF, zG, zH, zI, reduceCtorEq]
        all_goals repeat' (first | (apply brB_mk <;> (intro hg; (try simp only [push_cast] at hg))) | apply And.intro | (intro hg; (try simp only [push_cast] at hg)))
        all_goals first | exact True.intro | exact rfl | contradiction | omega | with_reducible assumption | (exact getE_holT (by omega)) | (exact getE_dII (by simp only [push_cast]; omega)) | (exact getE_dII (by omega)) | skip
        refine hL0 _ ⟨k + 1, by omega, by omega, ?_⟩
        refine cov_of rfl ?_ ?_ ?_ <;> simp only [covS, covL, push_cast, ↓brB_true, ↓brB_false, ↓reduceIte, zA, zB, zC, zD, zE, zF, zG, zH, zI, reduceCtorEq]
      ·
        refine awp_exit ?_
        have hkk : k = ps.length := by omega
        subst hkk
        rw [List.take_length, show unP ps n.toNat = famNm ps n from rfl]
        (try simp only [AThen, ABlk, reduceIte, zF]); refine hK2 _ ?_
        refine awp_seq' fun K5 hK5 => ?_
        refine awp_seq' fun K hK => ?_
        refine awp_region tyOk tyPos [] rfl ?_
        all_goals simp only [push_cast, ↓brB_true, ↓brB_false, ↓reduceIte, zA, zB, zC, zD, zE, zF, zG, zH, zI, reduceCtorEq]
        all_goals repeat' (first | (apply brB_mk <;> (intro hg; (try simp only [push_cast] at hg))) | apply And.intro | (intro hg; (try simp only [push_cast] at hg)))
        all_goals first | exact True.intro | exact rfl | contradiction | omega | with_reducible assumption | (exact getE_holT (by omega)) | (exact getE_dII (by simp only [push_cast]; omega)) | (exact getE_dII (by omega)) | skip
        all_goals first | (refine hK _ ?_; clear hK K) | (simp only [push_cast]; done)
        refine awp_cond rfl (fun hc => ?_) (fun hc => ?_) <;> (try simp only [push_cast] at hc)
        ·
          refine awp_seq' fun K hK => ?_
          refine awp_region tyOk tyPos [] rfl ?_
          all_goals simp only [push_cast, ↓brB_true, ↓brB_false, ↓reduceIte, zA, zB, zC, zD, zE, zF, zG, zH, zI, reduceCtorEq]
          all_goals repeat' (first | (apply brB_mk <;> (intro hg; (try simp only [push_cast] at hg))) | apply And.intro | (intro hg; (try simp only [push_cast] at hg)))
          all_goals first | exact True.intro | exact rfl | contradiction | omega | with_reducible assumption | (exact getE_holT (by omega)) | (exact getE_dII (by simp only [push_cast]; omega)) | (exact getE_dII (by omega)) | skip
          all_goals first | (refine hK _ ?_; clear hK K) | (simp only [push_cast]; done)
          refine awp_ret ?_
          (try simp only [AThen, ABlk])
          refine ⟨Or.inl rfl, ?_⟩
          simp only [RetOk, resVars, resVar, push_cast, ↓brB_true, ↓brB_false, ↓reduceIte, zA, zB, zC, zD, zE, zF, zG, zH, zI, reduceCtorEq]
          have h9 : famOfB ps n = false := famOf_no2 (by omega)
          rw [famOfF_no h9, h9]
          all_goals first | exact ⟨rfl, rfl⟩ | rfl | (simp [dI, dII]; done)
        ·
          refine awp_skip ?_
          (try simp only [AThen, ABlk, reduceIte, zF]); refine hK5 _ ?_
          refine awp_seq' fun K6 hK6 => ?_
          have hn4 : (famNm ps n).length ≤ 4 := by omega
          have hyes := famOf_yes hok hn4
          have hsl := subsL_len (famNm ps n)
          have h16 := pow_le16 hn4
          refine awp_seq' fun K hK => ?_
          refine awp_region tyOk tyPos [] rfl ?_
          all_goals refine aops_cut 3 fun K9 hK9 => ?_
          all_goals simp only [push_cast, ↓brB_true, ↓brB_false, ↓reduceIte, zA, zB, zC, zD, zE, zF, zG, zH, zI, reduceCtorEq]
          all_goals repeat' (first | (apply brB_mk <;> (intro hg; (try simp only [push_cast] at hg))) | (refine ⟨_, hS hn4, ?_⟩; simp only [push_cast, ↓brB_true, ↓brB_false, ↓reduceIte, zA, zB, zC, zD, zE, zF, zG, zH, zI, reduceCtorEq]) | apply And.intro | (intro hg; (try simp only [push_cast] at hg)))
          all_goals first | exact True.intro | exact rfl | contradiction | omega | with_reducible assumption | (exact getE_holT (by omega)) | (exact getE_dII (by simp only [push_cast]; omega)) | (exact getE_dII (by omega)) | skip
          all_goals first | (refine hK9 _ ?_; clear hK9 K9) | (simp only [push_cast]; done)
          all_goals simp only [push_cast, ↓brB_true, ↓brB_false, ↓reduceIte, zA, zB, zC, zD, zE, zF, zG, zH, zI, reduceCtorEq]
          all_goals repeat' (first | (apply brB_mk <;> (intro hg; (try simp only [push_cast] at hg))) | (refine ⟨_, hS hn4, ?_⟩; simp only [push_cast, ↓brB_true, ↓brB_false, ↓reduceIte, zA, zB, zC, zD, zE, zF, zG, zH, zI, reduceCtorEq]) | apply And.intro | (intro hg; (try simp only [push_cast] at hg)))
          all_goals first | exact True.intro | exact rfl | contradiction | omega | with_reducible assumption | (exact getE_holT (by omega)) | (exact getE_dII (by simp only [push_cast]; omega)) | (exact getE_dII (by omega)) | skip
          all_goals first | (refine hK _ ?_; clear hK K) | (simp only [push_cast]; done)
          refine awp_block ?_
          refine awp_loopU [6,10,42,43,44,45,46,47,48,49,50,51,52,53,54,55,56,57] [640] (fun (u : Nat × List (List Int)) => [(42, .int .i64 u.1), (6, .bp 6 0), (0, .sl 0 [] 0 ps.length 95)]) (fun u => [(6, [.sl 96 [] 0 (famNm ps n).length 2, .sl 97 [] 0 u.2.length 22])]) (fun u => [(96, ⟨.ex, 2, dI (famNm ps n), none⟩), (97, ⟨.ex, 22, dII u.2, none⟩), (640, ⟨.ex, 22, holT (famQ ps) (subsL (famNm ps n)) u.1, none⟩)]) (fun u => u.1 ≤ (subsL (famNm ps n)).length ∧ u.2 = ((subsL (famNm ps n)).take u.1).filter (famQ ps)) (fun u => (subsL (famNm ps n)).length - u.1) (0, []) ?_ ⟨by omega, rfl⟩ ?_
          ·
            simp only [holT_0, show dII ([] : List (List Int)) = [] from rfl]
            refine cov_of rfl ?_ ?_ ?_ <;> simp only [covS, covL, push_cast, ↓brB_true, ↓brB_false, ↓reduceIte, zA, zB, zC, zD, zE, zF, zG, zH, zI, reduceCtorEq]
          · rintro ⟨k, o⟩ ⟨hk, ho⟩ KL1 hL1
            simp only at hk ho
            have hol : o.length ≤ (subsL (famNm ps n)).length := by rw [ho]; exact tfiltL_le _ _ _
            have hrk := subsL_row (xs := (famNm ps n)) k
            simp only [push_cast, ↓brB_true, ↓brB_false, ↓reduceIte, zA, zB, zC, zD, zE, zF, zG, zH, zI, reduceCtorEq]
            refine awp_seq' fun K hK => ?_
            refine awp_region tyOk tyPos [] rfl ?_
            all_goals simp only [push_cast, ↓brB_true, ↓brB_false, ↓reduceIte, zA, zB, zC, zD, zE, zF, zG, zH, zI, reduceCtorEq]
            all_goals repeat' (first | (apply brB_mk <;> (intro hg; (try simp only [push_cast] at hg))) | apply And.intro | (intro hg; (try simp only [push_cast] at hg)))
            all_goals first | exact True.intro | exact rfl | contradiction | omega | with_reducible assumption | (exact getE_holT (by omega)) | (exact getE_dII (by simp only [push_cast]; omega)) | (exact getE_dII (by omega)) | skip
            all_goals first | (refine hK _ ?_; clear hK K) | (simp only [push_cast]; done)
            refine awp_seq' fun K7 hK7 => ?_
            refine awp_cond rfl (fun hc => ?_) (fun hc => ?_) <;> (try simp only [push_cast] at hc)
            ·
              refine awp_skip ?_
              (try simp only [AThen, ABlk, reduceIte, zF]); refine hK7 _ ?_
              refine awp_seq' fun K8 hK8 => ?_
              refine awp_block ?_
              refine awp_seq' fun K hK => ?_
              refine awp_region tyOk tyPos [] rfl ?_
              all_goals simp only [push_cast, ↓brB_true, ↓brB_false, ↓reduceIte, zA, zB, zC, zD, zE, zF, zG, zH, zI, reduceCtorEq]
              all_goals repeat' (first | (apply brB_mk <;> (intro hg; (try simp only [push_cast] at hg))) | apply And.intro | (intro hg; (try simp only [push_cast] at hg)))
              all_goals first | exact True.intro | exact rfl | contradiction | omega | with_reducible assumption | (exact getE_holT (by omega)) | (exact getE_dII (by simp only [push_cast]; omega)) | (exact getE_dII (by omega)) | skip
              all_goals first | (refine hK _ ?_; clear hK K) | (simp only [push_cast]; done)
              refine awp_seq' fun K hK => ?_
              refine awp_region tyOk tyPos [] rfl ?_
              all_goals refine aops_cut 3 fun K9 hK9 => ?_
              all_goals simp only [push_cast, ↓brB_true, ↓brB_false, ↓reduceIte, zA, zB, zC, zD, zE, zF, zG, zH, zI, reduceCtorEq]
              all_goals repeat' (first | (apply brB_mk <;> (intro hg; (try simp only [push_cast] at hg))) | (refine ⟨_, brokenBy_fn ps ha n hst (gl (subsL (famNm ps n)) k) (by omega), ?_⟩; simp only [push_cast, ↓brB_true, ↓brB_false, ↓reduceIte, zA, zB, zC, zD, zE, zF, zG, zH, zI, reduceCtorEq]) | apply And.intro | (intro hg; (try simp only [push_cast] at hg)))
              all_goals first | exact True.intro | exact rfl | contradiction | omega | with_reducible assumption | (exact getE_holT (by omega)) | (exact getE_dII (by simp only [push_cast]; omega)) | (exact getE_dII (by omega)) | skip
              all_goals first | (refine hK9 _ ?_; clear hK9 K9) | (simp only [push_cast]; done)
              all_goals simp only [push_cast, ↓brB_true, ↓brB_false, ↓reduceIte, zA, zB, zC, zD, zE, zF, zG, zH, zI, reduceCtorEq]
              all_goals repeat' (first | (apply brB_mk <;> (intro hg; (try simp only [push_cast] at hg))) | (refine ⟨_, brokenBy_fn ps ha n hst (gl (subsL (famNm ps n)) k) (by omega), ?_⟩; simp only [push_cast, ↓brB_true, ↓brB_false, ↓reduceIte, zA, zB, zC, zD, zE, zF, zG, zH, zI, reduceCtorEq]) | apply And.intro | (intro hg; (try simp only [push_cast] at hg)))
              all_goals first | exact True.intro | exact rfl | contradiction | omega | with_reducible assumption | (exact getE_holT (by omega)) | (exact getE_dII (by simp only [push_cast]; omega)) | (exact getE_dII (by omega)) | skip
              all_goals first | (refine hK _ ?_; clear hK K) | (simp only [push_cast]; done)
              refine awp_cond rfl (fun hc => ?_) (fun hc => ?_) <;> (try simp only [push_cast] at hc)
              ·
                refine awp_regionN false tyOk tyPos ?_ rfl ?_
                · kernel_rfl
                simp only [push_cast, ↓brB_true, ↓brB_false, ↓reduceIte, zA, zB, zC, zD, zE, zF, zG, zH, zI, reduceCtorEq]
                all_goals repeat' (first | (apply brB_mk <;> (intro hg; (try simp only [push_cast] at hg))) | apply And.intro | (intro hg; (try simp only [push_cast] at hg)))
                all_goals first | exact True.intro | exact rfl | contradiction | omega | with_reducible assumption | (exact getE_holT (by omega)) | (exact getE_dII (by simp only [push_cast]; omega)) | (exact getE_dII (by omega)) | skip
                (try simp only [AThen, ABlk, reduceIte, zF]); refine hK8 _ ?_
                refine awp_settleB [.sl 2, .sl 22] 6 ?_
                simp only [push_cast, ↓brB_true, ↓brB_false, ↓reduceIte, zA, zB, zC, zD, zE, zF, zG, zH, zI, reduceCtorEq]
                refine awp_region tyOk tyPos [] rfl ?_
                all_goals simp only [push_cast, ↓brB_true, ↓brB_false, ↓reduceIte, zA, zB, zC, zD, zE, zF, zG, zH, zI, reduceCtorEq]
                all_goals repeat' (first | (apply brB_mk <;> (intro hg; (try simp only [push_cast] at hg))) | apply And.intro | (intro hg; (try simp only [push_cast] at hg)))
                all_goals first | exact True.intro | exact rfl | contradiction | omega | with_reducible assumption | (exact getE_holT (by omega)) | (exact getE_dII (by simp only [push_cast]; omega)) | (exact getE_dII (by omega)) | skip
                refine hL1 _ ⟨(k + 1, o ++ [gl (subsL (famNm ps n)) k]), ⟨by simp only; omega, by simp only; rw [filtL_yes (by omega) (decide_eq_true (by omega)), ← ho]⟩, by simp only; omega, ?_⟩
                (try rw [List.take_of_length_le (l := gl (subsL (famNm ps n)) k) (by omega)])
                (try rw [List.take_of_length_le (l := o) (by omega)])
                (try rw [holT_set (p := famQ ps) (by omega) (decide_eq_true (by omega))])
                simp only
                refine cov_of rfl ?_ ?_ ?_ <;> simp only [covS, covL, push_cast, ↓brB_true, ↓brB_false, ↓reduceIte, zA, zB, zC, zD, zE, zF, zG, zH, zI, reduceCtorEq]
                all_goals (try (rw [List.length_append]; rfl))
              ·
                refine awp_skip ?_
                (try simp only [AThen, ABlk, reduceIte, zF]); refine hK8 _ ?_
                refine awp_settleB [.sl 2, .sl 22] 6 ?_
                simp only [push_cast, ↓brB_true, ↓brB_false, ↓reduceIte, zA, zB, zC, zD, zE, zF, zG, zH, zI, reduceCtorEq]
                refine awp_region tyOk tyPos [] rfl ?_
                all_goals simp only [push_cast, ↓brB_true, ↓brB_false, ↓reduceIte, zA, zB, zC, zD, zE, zF, zG, zH, zI, reduceCtorEq]
                all_goals repeat' (first | (apply brB_mk <;> (intro hg; (try simp only [push_cast] at hg))) | apply And.intro | (intro hg; (try simp only [push_cast] at hg)))
                all_goals first | exact True.intro | exact rfl | contradiction | omega | with_reducible assumption | (exact getE_holT (by omega)) | (exact getE_dII (by simp only [push_cast]; omega)) | (exact getE_dII (by omega)) | skip
                refine hL1 _ ⟨(k + 1, o), ⟨by simp only; omega, by simp only; rw [filtL_no (by omega) (decide_eq_false (by omega)), ← ho]⟩, by simp only; omega, ?_⟩
                rw [holT_keep (p := famQ ps) (by omega) (decide_eq_false (by omega))]
                simp only
                refine cov_of rfl ?_ ?_ ?_ <;> simp only [covS, covL, push_cast, ↓brB_true, ↓brB_false, ↓reduceIte, zA, zB, zC, zD, zE, zF, zG, zH, zI, reduceCtorEq]
                all_goals (try (rw [List.length_append]; rfl))
            ·
              refine awp_exit ?_
              have hkk : k = (subsL (famNm ps n)).length := by omega
              subst hkk
              rw [List.take_length] at ho
              (try simp only [AThen, ABlk, reduceIte, zF]); refine hK6 _ ?_
              refine awp_seq' fun K hK => ?_
              refine awp_region tyOk tyPos [] rfl ?_
              all_goals simp only [push_cast, ↓brB_true, ↓brB_false, ↓reduceIte, zA, zB, zC, zD, zE, zF, zG, zH, zI, reduceCtorEq]
              all_goals repeat' (first | (apply brB_mk <;> (intro hg; (try simp only [push_cast] at hg))) | apply And.intro | (intro hg; (try simp only [push_cast] at hg)))
              all_goals first | exact True.intro | exact rfl | contradiction | omega | with_reducible assumption | (exact getE_holT (by omega)) | (exact getE_dII (by simp only [push_cast]; omega)) | (exact getE_dII (by omega)) | skip
              all_goals first | (refine hK _ ?_; clear hK K) | (simp only [push_cast]; done)
              refine awp_ret ?_
              (try simp only [AThen, ABlk])
              refine ⟨Or.inl rfl, ?_⟩
              simp only [RetOk, resVars, resVar, push_cast, ↓brB_true, ↓brB_false, ↓reduceIte, zA, zB, zC, zD, zE, zF, zG, zH, zI, reduceCtorEq]
              rw [famOfF_yes hyes, hyes]
              subst ho
              all_goals first | rfl | exact ⟨rfl, rfl⟩ | (simp; done)
set_option maxRecDepth 20000 in
set_option maxHeartbeats 8000000 in
theorem FamilyOfS_fn (ps : List Pr) (ha : PLn 1048576 ps) (n : Int) : Fn Try.prog tyT 35 [.c (.lst 95 (dII (ilv ps))), .c (.int .i64 n)] [.agg (dFm (famOfF ps n)), .c (.bool (famOfB ps n))] := by
  have hl := ha.1
  have hg := fun k => gp_le ha k
  have hga : ∀ k, (gp ps k).ask.length ≤ 1048576 := fun k => (hg k).ask
  have hgg : ∀ k, (gp ps k).give.length ≤ 1048576 := fun k => (hg k).give
  have hli := len_ilv ps
  have hA := PairsOkS_fn ps ha n
  have hS := fun h => l18Parts_fn (famNm ps n) h
  unfold dFm
  refine Fn_ofR (fn := Try.f35) (rs := [.cell 4 28, .tmp 5]) tyOk tyPos Try.func35 (by kernel_rfl) rfl rfl (by rw [Try.ntmps35]; exact Nat.le_of_ble_eq_true rfl) rfl (by simp only [szA, List.mem_cons, List.not_mem_nil, or_false, forall_eq_or_imp, forall_eq, VT.cells, szL]; try decide) ?_
  rw [Try.ntmps35]
  simp only [push_cast, ↓brB_true, ↓brB_false, ↓reduceIte, zA, zB, zC, zD, zE, zF, zG, zH, zI, reduceCtorEq]
  refine awp_seq' fun K hK => ?_
  refine awp_region tyOk tyPos [] rfl ?_
  all_goals simp only [push_cast, ↓brB_true, ↓brB_false, ↓reduceIte, zA, zB, zC, zD, zE, zF, zG, zH, zI, reduceCtorEq]
  all_goals repeat' (first | (apply brB_mk <;> (intro hg; (try simp only [push_cast] at hg))) | apply And.intro | (intro hg; (try simp only [push_cast] at hg)))
  all_goals first | exact True.intro | exact rfl | contradiction | omega | with_reducible assumption | (exact getE_holT (by omega)) | (exact getE_dII (by simp only [push_cast]; omega)) | (exact getE_dII (by omega)) | skip
  all_goals first | (refine hK _ ?_; clear hK K) | (simp only [push_cast]; done)
  refine awp_seq' fun K hK => ?_
  refine awp_region tyOk tyPos [] rfl ?_
  all_goals simp only [push_cast, ↓brB_true, ↓brB_false, ↓reduceIte, zA, zB, zC, zD, zE, zF, zG, zH, zI, reduceCtorEq]
  all_goals repeat' (first | (apply brB_mk <;> (intro hg; (try simp only [push_cast] at hg))) | apply And.intro | (intro hg; (try simp only [push_cast] at hg)))
  all_goals first | exact True.intro | exact rfl | contradiction | omega | with_reducible assumption | (exact getE_holT (by omega)) | (exact getE_dII (by simp only [push_cast]; omega)) | (exact getE_dII (by omega)) | skip
  all_goals first | (refine hK _ ?_; clear hK K) | (simp only [push_cast]; done)
  refine awp_seq' fun K1 hK1 => ?_
  refine awp_seq' fun K hK => ?_
  refine awp_region tyOk tyPos [] rfl ?_
  all_goals refine aops_cut 3 fun K9 hK9 => ?_
  all_goals simp only [push_cast, ↓brB_true, ↓brB_false, ↓reduceIte, zA, zB, zC, zD, zE, zF, zG, zH, zI, reduceCtorEq]
  all_goals repeat' (first | (apply brB_mk <;> (intro hg; (try simp only [push_cast] at hg))) | (refine ⟨_, hA, ?_⟩; simp only [push_cast, ↓brB_true, ↓brB_false, ↓reduceIte, zA, zB, zC, zD, zE, zF, zG, zH, zI, reduceCtorEq]) | apply And.intro | (intro hg; (try simp only [push_cast] at hg)))
  all_goals first | exact True.intro | exact rfl | contradiction | omega | with_reducible assumption | (exact getE_holT (by omega)) | (exact getE_dII (by simp only [push_cast]; omega)) | (exact getE_dII (by omega)) | skip
  all_goals first | (refine hK9 _ ?_; clear hK9 K9) | (simp only [push_cast]; done)
  all_goals simp only [push_cast, ↓brB_true, ↓brB_false, ↓reduceIte, zA, zB, zC, zD, zE, zF, zG, zH, zI, reduceCtorEq]
  all_goals repeat' (first | (apply brB_mk <;> (intro hg; (try simp only [push_cast] at hg))) | (refine ⟨_, hA, ?_⟩; simp only [push_cast, ↓brB_true, ↓brB_false, ↓reduceIte, zA, zB, zC, zD, zE, zF, zG, zH, zI, reduceCtorEq]) | apply And.intro | (intro hg; (try simp only [push_cast] at hg)))
  all_goals first | exact True.intro | exact rfl | contradiction | omega | with_reducible assumption | (exact getE_holT (by omega)) | (exact getE_dII (by simp only [push_cast]; omega)) | (exact getE_dII (by omega)) | skip
  all_goals first | (refine hK _ ?_; clear hK K) | (simp only [push_cast]; done)
  refine awp_cond rfl (fun hc => ?_) (fun hc => ?_) <;> (try simp only [push_cast] at hc)
  ·
    refine awp_seq' fun K hK => ?_
    refine awp_region tyOk tyPos [] rfl ?_
    all_goals simp only [push_cast, ↓brB_true, ↓brB_false, ↓reduceIte, zA, zB, zC, zD, zE, zF, zG, zH, zI, reduceCtorEq]
    all_goals repeat' (first | (apply brB_mk <;> (intro hg; (try simp only [push_cast] at hg))) | apply And.intro | (intro hg; (try simp only [push_cast] at hg)))
    all_goals first | exact True.intro | exact rfl | contradiction | omega | with_reducible assumption | (exact getE_holT (by omega)) | (exact getE_dII (by simp only [push_cast]; omega)) | (exact getE_dII (by omega)) | skip
    all_goals first | (refine hK _ ?_; clear hK K) | (simp only [push_cast]; done)
    refine awp_ret ?_
    (try simp only [AThen, ABlk])
    refine ⟨Or.inl rfl, ?_⟩
    simp only [RetOk, resVars, resVar, push_cast, ↓brB_true, ↓brB_false, ↓reduceIte, zA, zB, zC, zD, zE, zF, zG, zH, zI, reduceCtorEq]
    have h9 : famOfB ps n = false := famOf_no1 (by with_reducible assumption)
    rw [famOfF_no h9, h9]
    all_goals first | exact ⟨rfl, rfl⟩ | rfl | (simp [dI, dII]; done)
  ·
    refine awp_skip ?_
    (try simp only [AThen, ABlk, reduceIte, zF]); refine hK1 _ ?_
    refine awp_seq' fun K2 hK2 => ?_
    have hok : prsB ps n = true := by with_reducible assumption
    obtain ⟨hn, hl4, hst⟩ := prs_facts hok
    have hnl := famNm_le ps n
    refine awp_seq' fun K hK => ?_
    refine awp_region tyOk tyPos [] rfl ?_
    all_goals simp only [push_cast, ↓brB_true, ↓brB_false, ↓reduceIte, zA, zB, zC, zD, zE, zF, zG, zH, zI, reduceCtorEq]
    all_goals repeat' (first | (apply brB_mk <;> (intro hg; (try simp only [push_cast] at hg))) | apply And.intro | (intro hg; (try simp only [push_cast] at hg)))
    all_goals first | exact True.intro | exact rfl | contradiction | omega | with_reducible assumption | (exact getE_holT (by omega)) | (exact getE_dII (by simp only [push_cast]; omega)) | (exact getE_dII (by omega)) | skip
    all_goals first | (refine hK _ ?_; clear hK K) | (simp only [push_cast]; done)
    refine awp_block ?_
    refine awp_loopU [6,7,8,17,18,19,20,21,22,23,24,25,26,27,28,29,30,31,32,33,34,35,36,37,38,39,40,41,42,43,44,45,46,47,48,49] [] (fun (v : Nat) => [(7, .int .i64 v), (6, .bp 6 0)]) (fun v => [(6, [.sl 96 [] 0 (unP ps v).length 2, .sl 97 [] 0 0 22])]) (fun v => [(96, ⟨.ex, 2, dI (unP ps v), none⟩), (97, ⟨.ex, 22, [], none⟩)]) (fun v => v ≤ n.toNat) (fun v => n.toNat - v) 0 ?_ (by omega) ?_
    ·
      rw [unP_0, show dI ([] : List Int) = [] from rfl]
      refine cov_of rfl ?_ ?_ ?_ <;> simp only [covS, covL, push_cast, ↓brB_true, ↓brB_false, ↓reduceIte, zA, zB, zC, zD, zE, zF, zG, zH, zI, reduceCtorEq]
    · rintro v hv KL0 hL0
      have hul := unP_le ps v
      simp only [push_cast, ↓brB_true, ↓brB_false, ↓reduceIte, zA, zB, zC, zD, zE, zF, zG, zH, zI, reduceCtorEq]
      refine awp_seq' fun K3 hK3 => ?_
      refine awp_seq' fun K hK => ?_
      refine awp_region tyOk tyPos [] rfl ?_
      all_goals simp only [push_cast, ↓brB_true, ↓brB_false, ↓reduceIte, zA, zB, zC, zD, zE, zF, zG, zH, zI, reduceCtorEq]
      all_goals repeat' (first | (apply brB_mk <;> (intro hg; (try simp only [push_cast] at hg))) | apply And.intro | (intro hg; (try simp only [push_cast] at hg)))
      all_goals first | exact True.intro | exact rfl | contradiction | omega | with_reducible assumption | (exact getE_holT (by omega)) | (exact getE_dII (by simp only [push_cast]; omega)) | (exact getE_dII (by omega)) | skip
      all_goals first | (refine hK _ ?_; clear hK K) | (simp only [push_cast]; done)
      refine awp_cond rfl (fun hc => ?_) (fun hc => ?_) <;> (try simp only [push_cast] at hc)
      ·
        refine awp_skip ?_
        (try simp only [AThen, ABlk, reduceIte, zF]); refine hK3 _ ?_
        refine awp_seq' fun K4 hK4 => ?_
        refine awp_block ?_
        refine awp_seq' fun K hK => ?_
        refine awp_region tyOk tyPos [] rfl ?_
        all_goals simp only [push_cast, ↓brB_true, ↓brB_false, ↓reduceIte, zA, zB, zC, zD, zE, zF, zG, zH, zI, reduceCtorEq]
        all_goals repeat' (first | (apply brB_mk <;> (intro hg; (try simp only [push_cast] at hg))) | apply And.intro | (intro hg; (try simp only [push_cast] at hg)))
        all_goals first | exact True.intro | exact rfl | contradiction | omega | with_reducible assumption | (exact getE_holT (by omega)) | (exact getE_dII (by simp only [push_cast]; omega)) | (exact getE_dII (by omega)) | skip
        all_goals first | (refine hK _ ?_; clear hK K) | (simp only [push_cast]; done)
        refine awp_block ?_
        refine awp_loopU [8,22,23,24,25,26,27,28,29,30,31,32,33,34,35,36,37,38,39,40,41,42,43,44,45,46,47,48,49] [] (fun (i : Nat) => [(8, .int .i64 i)]) (fun i => []) (fun i => []) (fun i => i ≤ ps.length ∧ ∀ j, j < i → hasB (gp ps j).ask v = false ∧ hasB (gp ps j).give v = false) (fun i => ps.length - i) 0 ?_ ⟨by omega, fun j hj => by omega⟩ ?_
        ·
          refine cov_of rfl ?_ ?_ ?_ <;> simp only [covS, covL, push_cast, ↓brB_true, ↓brB_false, ↓reduceIte, zA, zB, zC, zD, zE, zF, zG, zH, zI, reduceCtorEq]
        · rintro i ⟨hi, hall⟩ KL1 hL1
          simp only [push_cast, ↓brB_true, ↓brB_false, ↓reduceIte, zA, zB, zC, zD, zE, zF, zG, zH, zI, reduceCtorEq]
          refine awp_seq' fun K5 hK5 => ?_
          refine awp_seq' fun K hK => ?_
          refine awp_region tyOk tyPos [] rfl ?_
          all_goals simp only [push_cast, ↓brB_true, ↓brB_false, ↓reduceIte, zA, zB, zC, zD, zE, zF, zG, zH, zI, reduceCtorEq]
          all_goals repeat' (first | (apply brB_mk <;> (intro hg; (try simp only [push_cast] at hg))) | apply And.intro | (intro hg; (try simp only [push_cast] at hg)))
          all_goals first | exact True.intro | exact rfl | contradiction | omega | with_reducible assumption | (exact getE_holT (by omega)) | (exact getE_dII (by simp only [push_cast]; omega)) | (exact getE_dII (by omega)) | skip
          all_goals first | (refine hK _ ?_; clear hK K) | (simp only [push_cast]; done)
          refine awp_cond rfl (fun hc => ?_) (fun hc => ?_) <;> (try simp only [push_cast] at hc)
          ·
            refine awp_skip ?_
            (try simp only [AThen, ABlk, reduceIte, zF]); refine hK5 _ ?_
            refine awp_seq' fun K6 hK6 => ?_
            refine awp_block ?_
            refine awp_seq' fun K hK => ?_
            refine awp_regionN false tyOk tyPos ?_ rfl ?_
            · kernel_rfl
            all_goals refine seqE_cut 7 fun K9 hK9 => ?_
            all_goals simp only [push_cast, ↓brB_true, ↓brB_false, ↓reduceIte, zA, zB, zC, zD, zE, zF, zG, zH, zI, reduceCtorEq]
            all_goals repeat' (first | (apply brB_mk <;> (intro hg; (try simp only [push_cast] at hg))) | (refine ⟨_, l16Has_fn (gp ps i).ask v (hga i), ?_⟩; simp only [push_cast, ↓brB_true, ↓brB_false, ↓reduceIte, zA, zB, zC, zD, zE, zF, zG, zH, zI, reduceCtorEq]) | (refine ⟨_, l16Has_fn (gp ps i).give v (hgg i), ?_⟩; simp only [push_cast, ↓brB_true, ↓brB_false, ↓reduceIte, zA, zB, zC, zD, zE, zF, zG, zH, zI, reduceCtorEq]) | apply And.intro | (intro hg; (try simp only [push_cast] at hg)))
            all_goals first | exact True.intro | exact rfl | contradiction | omega | with_reducible assumption | (exact getE_holT (by omega)) | (exact getE_dII (by simp only [push_cast]; omega)) | (exact getE_dII (by omega)) | skip
            all_goals first | (refine hK9 _ ?_; clear hK9 K9) | (simp only [push_cast]; done)
            all_goals refine seqE_cut 8 fun K9 hK9 => ?_
            all_goals simp only [push_cast, ↓brB_true, ↓brB_false, ↓reduceIte, zA, zB, zC, zD, zE, zF, zG, zH, zI, reduceCtorEq]
            all_goals repeat' (first | (apply brB_mk <;> (intro hg; (try simp only [push_cast] at hg))) | (refine ⟨_, l16Has_fn (gp ps i).ask v (hga i), ?_⟩; simp only [push_cast, ↓brB_true, ↓brB_false, ↓reduceIte, zA, zB, zC, zD, zE, zF, zG, zH, zI, reduceCtorEq]) | (refine ⟨_, l16Has_fn (gp ps i).give v (hgg i), ?_⟩; simp only [push_cast, ↓brB_true, ↓brB_false, ↓reduceIte, zA, zB, zC, zD, zE, zF, zG, zH, zI, reduceCtorEq]) | apply And.intro | (intro hg; (try simp only [push_cast] at hg)))
            all_goals first | exact True.intro | exact rfl | contradiction | omega | with_reducible assumption | (exact getE_holT (by omega)) | (exact getE_dII (by simp only [push_cast]; omega)) | (exact getE_dII (by omega)) | skip
            all_goals first | (refine hK9 _ ?_; clear hK9 K9) | (simp only [push_cast]; done)
            all_goals simp only [push_cast, ↓brB_true, ↓brB_false, ↓reduceIte, zA, zB, zC, zD, zE, zF, zG, zH, zI, reduceCtorEq]
            all_goals repeat' (first | (apply brB_mk <;> (intro hg; (try simp only [push_cast] at hg))) | (refine ⟨_, l16Has_fn (gp ps i).ask v (hga i), ?_⟩; simp only [push_cast, ↓brB_true, ↓brB_false, ↓reduceIte, zA, zB, zC, zD, zE, zF, zG, zH, zI, reduceCtorEq]) | (refine ⟨_, l16Has_fn (gp ps i).give v (hgg i), ?_⟩; simp only [push_cast, ↓brB_true, ↓brB_false, ↓reduceIte, zA, zB, zC, zD, zE, zF, zG, zH, zI, reduceCtorEq]) | apply And.intro | (intro hg; (try simp only [push_cast] at hg)))
            all_goals first | exact True.intro | exact rfl | contradiction | omega | with_reducible assumption | (exact getE_holT (by omega)) | (exact getE_dII (by simp only [push_cast]; omega)) | (exact getE_dII (by omega)) | skip
            all_goals first | (refine hK _ ?_; clear hK K) | (simp only [push_cast]; done)
            all_goals refine awp_cond rfl (fun hc => ?_) (fun hc => ?_)
            all_goals (first | (cases hc; done) | skip)
            all_goals (try simp only [push_cast] at hc)
            all_goals try (
                refine awp_seq' fun K hK => ?_
                refine awp_region tyOk tyPos [] rfl ?_
                all_goals simp only [push_cast, ↓brB_true, ↓brB_false, ↓reduceIte, zA, zB, zC, zD, zE, zF, zG, zH, zI, reduceCtorEq]
                all_goals repeat' (first | (apply brB_mk <;> (intro hg; (try simp only [push_cast] at hg))) | apply And.intro | (intro hg; (try simp only [push_cast] at hg)))
                all_goals first | exact True.intro | exact rfl | contradiction | omega | with_reducible assumption | (exact getE_holT (by omega)) | (exact getE_dII (by simp only [push_cast]; omega)) | (exact getE_dII (by omega)) | skip
                all_goals first | (refine hK _ ?_; clear hK K) | (simp only [push_cast]; done)
                refine awp_exit ?_
                (try simp only [AThen, ABlk, reduceIte, zF]); refine hK4 _ ?_
                refine awp_region tyOk tyPos [] rfl ?_
                all_goals simp only [push_cast, ↓brB_true, ↓brB_false, ↓reduceIte, zA, zB, zC, zD, zE, zF, zG, zH, zI, reduceCtorEq]
                all_goals repeat' (first | (apply brB_mk <;> (intro hg; (try simp only [push_cast] at hg))) | apply And.intro | (intro hg; (try simp only [push_cast] at hg)))
                all_goals first | exact True.intro | exact rfl | contradiction | omega | with_reducible assumption | (exact getE_holT (by omega)) | (exact getE_dII (by simp only [push_cast]; omega)) | (exact getE_dII (by omega)) | skip
                refine hL0 _ ⟨v + 1, by omega, by omega, ?_⟩
                (try rw [List.take_of_length_le (l := unP ps v) (by omega)])
                rw [unP_yes (inP_yes (i := i) (by omega) (by first | exact .inl (by with_reducible assumption) | exact .inr (by with_reducible assumption)))]
                refine cov_of rfl ?_ ?_ ?_ <;> simp only [covS, covL, push_cast, ↓brB_true, ↓brB_false, ↓reduceIte, zA, zB, zC, zD, zE, zF, zG, zH, zI, reduceCtorEq]
                all_goals (try (rw [List.length_append]; rfl))
                done)
            refine awp_skip ?_
            (try simp only [AThen, ABlk, reduceIte, zF]); refine hK6 _ ?_
            refine awp_region tyOk tyPos [] rfl ?_
            all_goals simp only [push_cast, ↓brB_true, ↓brB_false, ↓reduceIte, zA, zB, zC, zD, zE, zF, zG, zH, zI, reduceCtorEq]
            all_goals repeat' (first | (apply brB_mk <;> (intro hg; (try simp only [push_cast] at hg))) | apply And.intro | (intro hg; (try simp only [push_cast] at hg)))
            all_goals first | exact True.intro | exact rfl | contradiction | omega | with_reducible assumption | (exact getE_holT (by omega)) | (exact getE_dII (by simp only [push_cast]; omega)) | (exact getE_dII (by omega)) | skip
            refine hL1 _ ⟨i + 1, ⟨by omega, fun j hj => (by
                by_cases hjk : j = i
                · subst hjk; exact ⟨by with_reducible assumption, by with_reducible assumption⟩
                · exact hall j (by omega))⟩, by omega, ?_⟩
            refine cov_of rfl ?_ ?_ ?_ <;> simp only [covS, covL, push_cast, ↓brB_true, ↓brB_false, ↓reduceIte, zA, zB, zC, zD, zE, zF, zG, zH, zI, reduceCtorEq]
          ·
            refine awp_exit ?_
            (try simp only [AThen, ABlk, reduceIte, zF]); refine hK4 _ ?_
            refine awp_region tyOk tyPos [] rfl ?_
            all_goals simp only [push_cast, ↓brB_true, ↓brB_false, ↓reduceIte, zA, zB, zC, zD, zE, zF, zG, zH, zI, reduceCtorEq]
            all_goals repeat' (first | (apply brB_mk <;> (intro hg; (try simp only [push_cast] at hg))) | apply And.intro | (intro hg; (try simp only [push_cast] at hg)))
            all_goals first | exact True.intro | exact rfl | contradiction | omega | with_reducible assumption | (exact getE_holT (by omega)) | (exact getE_dII (by simp only [push_cast]; omega)) | (exact getE_dII (by omega)) | skip
            refine hL0 _ ⟨v + 1, by omega, by omega, ?_⟩
            rw [unP_no (inP_no fun j hj => hall j (by omega))]
            refine cov_of rfl ?_ ?_ ?_ <;> simp only [covS, covL, push_cast, ↓brB_true, ↓brB_false, ↓reduceIte, zA, zB, zC, zD, zE, zF, zG, zH, zI, reduceCtorEq]
            all_goals (try (rw [List.length_append]; rfl))
      ·
        refine awp_exit ?_
        have hkv : v = n.toNat := by omega
        subst hkv
        rw [show unP ps n.toNat = famNm ps n from rfl]
        (try simp only [AThen, ABlk, reduceIte, zF]); refine hK2 _ ?_
        refine awp_seq' fun K7 hK7 => ?_
        refine awp_seq' fun K hK => ?_
        refine awp_region tyOk tyPos [] rfl ?_
        all_goals simp only [push_cast, ↓brB_true, ↓brB_false, ↓reduceIte, zA, zB, zC, zD, zE, zF, zG, zH, zI, reduceCtorEq]
        all_goals repeat' (first | (apply brB_mk <;> (intro hg; (try simp only [push_cast] at hg))) | apply And.intro | (intro hg; (try simp only [push_cast] at hg)))
        all_goals first | exact True.intro | exact rfl | contradiction | omega | with_reducible assumption | (exact getE_holT (by omega)) | (exact getE_dII (by simp only [push_cast]; omega)) | (exact getE_dII (by omega)) | skip
        all_goals first | (refine hK _ ?_; clear hK K) | (simp only [push_cast]; done)
        refine awp_cond rfl (fun hc => ?_) (fun hc => ?_) <;> (try simp only [push_cast] at hc)
        ·
          refine awp_seq' fun K hK => ?_
          refine awp_region tyOk tyPos [] rfl ?_
          all_goals simp only [push_cast, ↓brB_true, ↓brB_false, ↓reduceIte, zA, zB, zC, zD, zE, zF, zG, zH, zI, reduceCtorEq]
          all_goals repeat' (first | (apply brB_mk <;> (intro hg; (try simp only [push_cast] at hg))) | apply And.intro | (intro hg; (try simp only [push_cast] at hg)))
          all_goals first | exact True.intro | exact rfl | contradiction | omega | with_reducible assumption | (exact getE_holT (by omega)) | (exact getE_dII (by simp only [push_cast]; omega)) | (exact getE_dII (by omega)) | skip
          all_goals first | (refine hK _ ?_; clear hK K) | (simp only [push_cast]; done)
          refine awp_ret ?_
          (try simp only [AThen, ABlk])
          refine ⟨Or.inl rfl, ?_⟩
          simp only [RetOk, resVars, resVar, push_cast, ↓brB_true, ↓brB_false, ↓reduceIte, zA, zB, zC, zD, zE, zF, zG, zH, zI, reduceCtorEq]
          have h9 : famOfB ps n = false := famOf_no2 (by omega)
          rw [famOfF_no h9, h9]
          all_goals first | exact ⟨rfl, rfl⟩ | rfl | (simp [dI, dII]; done)
        ·
          refine awp_skip ?_
          (try simp only [AThen, ABlk, reduceIte, zF]); refine hK7 _ ?_
          have hn4 : (famNm ps n).length ≤ 4 := by omega
          have hyes := famOf_yes hok hn4
          have hsl := subsL_len (famNm ps n)
          have h16 := pow_le16 hn4
          refine awp_seq' fun K hK => ?_
          refine awp_region tyOk tyPos [] rfl ?_
          all_goals refine aops_cut 3 fun K9 hK9 => ?_
          all_goals simp only [push_cast, ↓brB_true, ↓brB_false, ↓reduceIte, zA, zB, zC, zD, zE, zF, zG, zH, zI, reduceCtorEq]
          all_goals repeat' (first | (apply brB_mk <;> (intro hg; (try simp only [push_cast] at hg))) | (refine ⟨_, hS hn4, ?_⟩; simp only [push_cast, ↓brB_true, ↓brB_false, ↓reduceIte, zA, zB, zC, zD, zE, zF, zG, zH, zI, reduceCtorEq]) | apply And.intro | (intro hg; (try simp only [push_cast] at hg)))
          all_goals first | exact True.intro | exact rfl | contradiction | omega | with_reducible assumption | (exact getE_holT (by omega)) | (exact getE_dII (by simp only [push_cast]; omega)) | (exact getE_dII (by omega)) | skip
          all_goals first | (refine hK9 _ ?_; clear hK9 K9) | (simp only [push_cast]; done)
          all_goals simp only [push_cast, ↓brB_true, ↓brB_false, ↓reduceIte, zA, zB, zC, zD, zE, zF, zG, zH, zI, reduceCtorEq]
          all_goals repeat' (first | (apply brB_mk <;> (intro hg; (try simp only [push_cast] at hg))) | (refine ⟨_, hS hn4, ?_⟩; simp only [push_cast, ↓brB_true, ↓brB_false, ↓reduceIte, zA, zB, zC, zD, zE, zF, zG, zH, zI, reduceCtorEq]) | apply And.intro | (intro hg; (try simp only [push_cast] at hg)))
          all_goals first | exact True.intro | exact rfl | contradiction | omega | with_reducible assumption | (exact getE_holT (by omega)) | (exact getE_dII (by simp only [push_cast]; omega)) | (exact getE_dII (by omega)) | skip
          all_goals first | (refine hK _ ?_; clear hK K) | (simp only [push_cast]; done)
          refine awp_seq' fun K8 hK8 => ?_
          refine awp_seq' fun K hK => ?_
          refine awp_region tyOk tyPos [] rfl ?_
          all_goals simp only [push_cast, ↓brB_true, ↓brB_false, ↓reduceIte, zA, zB, zC, zD, zE, zF, zG, zH, zI, reduceCtorEq]
          all_goals repeat' (first | (apply brB_mk <;> (intro hg; (try simp only [push_cast] at hg))) | apply And.intro | (intro hg; (try simp only [push_cast] at hg)))
          all_goals first | exact True.intro | exact rfl | contradiction | omega | with_reducible assumption | (exact getE_holT (by omega)) | (exact getE_dII (by simp only [push_cast]; omega)) | (exact getE_dII (by omega)) | skip
          all_goals first | (refine hK _ ?_; clear hK K) | (simp only [push_cast]; done)
          refine awp_block ?_
          refine awp_loopU [6,10,35,58,59,60,61,62,63,64,65,66,67,68,69,70,71,72,73,74,75,76,77,78,79,80] [144] (fun (u : Nat × List (List Int)) => [(10, .int .i64 u.1), (6, .bp 6 0), (0, .sl 0 [] 0 ps.length 95)]) (fun u => [(6, [.sl 96 [] 0 (famNm ps n).length 2, .sl 97 [] 0 u.2.length 22])]) (fun u => [(96, ⟨.ex, 2, dI (famNm ps n), none⟩), (97, ⟨.ex, 22, dII u.2, none⟩), (144, ⟨.ex, 22, holT (famQ ps) (subsL (famNm ps n)) u.1, none⟩)]) (fun u => u.1 ≤ (subsL (famNm ps n)).length ∧ u.2 = ((subsL (famNm ps n)).take u.1).filter (famQ ps)) (fun u => (subsL (famNm ps n)).length - u.1) (0, []) ?_ ⟨by omega, rfl⟩ ?_
          ·
            simp only [holT_0, show dII ([] : List (List Int)) = [] from rfl]
            refine cov_of rfl ?_ ?_ ?_ <;> simp only [covS, covL, push_cast, ↓brB_true, ↓brB_false, ↓reduceIte, zA, zB, zC, zD, zE, zF, zG, zH, zI, reduceCtorEq]
          · rintro ⟨k, o⟩ ⟨hk, ho⟩ KL2 hL2
            simp only at hk ho
            have hol : o.length ≤ (subsL (famNm ps n)).length := by rw [ho]; exact tfiltL_le _ _ _
            have hrk := subsL_row (xs := (famNm ps n)) k
            simp only [push_cast, ↓brB_true, ↓brB_false, ↓reduceIte, zA, zB, zC, zD, zE, zF, zG, zH, zI, reduceCtorEq]
            refine awp_seq' fun K9 hK9 => ?_
            refine awp_seq' fun K hK => ?_
            refine awp_region tyOk tyPos [] rfl ?_
            all_goals simp only [push_cast, ↓brB_true, ↓brB_false, ↓reduceIte, zA, zB, zC, zD, zE, zF, zG, zH, zI, reduceCtorEq]
            all_goals repeat' (first | (apply brB_mk <;> (intro hg; (try simp only [push_cast] at hg))) | apply And.intro | (intro hg; (try simp only [push_cast] at hg)))
            all_goals first | exact True.intro | exact rfl | contradiction | omega | with_reducible assumption | (exact getE_holT (by omega)) | (exact getE_dII (by simp only [push_cast]; omega)) | (exact getE_dII (by omega)) | skip
            all_goals first | (refine hK _ ?_; clear hK K) | (simp only [push_cast]; done)
            refine awp_cond rfl (fun hc => ?_) (fun hc => ?_) <;> (try simp only [push_cast] at hc)
            ·
              refine awp_skip ?_
              (try simp only [AThen, ABlk, reduceIte, zF]); refine hK9 _ ?_
              refine awp_seq' fun K10 hK10 => ?_
              refine awp_block ?_
              refine awp_seq' fun K hK => ?_
              refine awp_region tyOk tyPos [] rfl ?_
              all_goals refine aops_cut 6 fun K9 hK9 => ?_
              all_goals simp only [push_cast, ↓brB_true, ↓brB_false, ↓reduceIte, zA, zB, zC, zD, zE, zF, zG, zH, zI, reduceCtorEq]
              all_goals repeat' (first | (apply brB_mk <;> (intro hg; (try simp only [push_cast] at hg))) | (refine ⟨_, l16Broken_fn ps ha (gl (subsL (famNm ps n)) k) (by omega), ?_⟩; simp only [push_cast, ↓brB_true, ↓brB_false, ↓reduceIte, zA, zB, zC, zD, zE, zF, zG, zH, zI, reduceCtorEq]) | apply And.intro | (intro hg; (try simp only [push_cast] at hg)))
              all_goals first | exact True.intro | exact rfl | contradiction | omega | with_reducible assumption | (exact getE_holT (by omega)) | (exact getE_dII (by simp only [push_cast]; omega)) | (exact getE_dII (by omega)) | skip
              all_goals first | (refine hK9 _ ?_; clear hK9 K9) | (simp only [push_cast]; done)
              all_goals simp only [push_cast, ↓brB_true, ↓brB_false, ↓reduceIte, zA, zB, zC, zD, zE, zF, zG, zH, zI, reduceCtorEq]
              all_goals repeat' (first | (apply brB_mk <;> (intro hg; (try simp only [push_cast] at hg))) | (refine ⟨_, l16Broken_fn ps ha (gl (subsL (famNm ps n)) k) (by omega), ?_⟩; simp only [push_cast, ↓brB_true, ↓brB_false, ↓reduceIte, zA, zB, zC, zD, zE, zF, zG, zH, zI, reduceCtorEq]) | apply And.intro | (intro hg; (try simp only [push_cast] at hg)))
              all_goals first | exact True.intro | exact rfl | contradiction | omega | with_reducible assumption | (exact getE_holT (by omega)) | (exact getE_dII (by simp only [push_cast]; omega)) | (exact getE_dII (by omega)) | skip
              all_goals first | (refine hK _ ?_; clear hK K) | (simp only [push_cast]; done)
              refine awp_cond rfl (fun hc => ?_) (fun hc => ?_) <;> (try simp only [push_cast] at hc)
              ·
                refine awp_regionD1 false tyOk tyPos tyMix ?_ rfl ?_
                · kernel_rfl
                intro E hE
                all_goals simp only [push_cast, ↓brB_true, ↓brB_false, ↓reduceIte, zA, zB, zC, zD, zE, zF, zG, zH, zI, reduceCtorEq]
                all_goals repeat' (first | (apply brB_mk <;> (intro hg; (try simp only [push_cast] at hg))) | apply And.intro | (intro hg; (try simp only [push_cast] at hg)))
                all_goals first | exact True.intro | exact rfl | contradiction | omega | with_reducible assumption | (refine hE _ _ ?_ ?_; kernel_rfl) | (exact getE_holT (by omega)) | (exact getE_dII (by simp only [push_cast]; omega)) | (exact getE_dII (by omega)) | skip
                all_goals clear hE E
                (try simp only [AThen, ABlk, reduceIte, zF]); refine hK10 _ ?_
                refine awp_settleB [.sl 2, .sl 22] 6 ?_
                simp only [push_cast, ↓brB_true, ↓brB_false, ↓reduceIte, zA, zB, zC, zD, zE, zF, zG, zH, zI, reduceCtorEq]
                refine awp_region tyOk tyPos [] rfl ?_
                all_goals simp only [push_cast, ↓brB_true, ↓brB_false, ↓reduceIte, zA, zB, zC, zD, zE, zF, zG, zH, zI, reduceCtorEq]
                all_goals repeat' (first | (apply brB_mk <;> (intro hg; (try simp only [push_cast] at hg))) | apply And.intro | (intro hg; (try simp only [push_cast] at hg)))
                all_goals first | exact True.intro | exact rfl | contradiction | omega | with_reducible assumption | (exact getE_holT (by omega)) | (exact getE_dII (by simp only [push_cast]; omega)) | (exact getE_dII (by omega)) | skip
                refine hL2 _ ⟨(k + 1, o ++ [gl (subsL (famNm ps n)) k]), ⟨by simp only; omega, by simp only; rw [filtL_yes (by omega) (decide_eq_true (by omega)), ← ho]⟩, by simp only; omega, ?_⟩
                (try rw [List.take_of_length_le (l := gl (subsL (famNm ps n)) k) (by omega)])
                (try rw [List.take_of_length_le (l := o) (by omega)])
                (try rw [holT_set (p := famQ ps) (by omega) (decide_eq_true (by omega))])
                simp only
                refine cov_of rfl ?_ ?_ ?_ <;> simp only [covS, covL, push_cast, ↓brB_true, ↓brB_false, ↓reduceIte, zA, zB, zC, zD, zE, zF, zG, zH, zI, reduceCtorEq]
                all_goals (try (rw [List.length_append]; rfl))
              ·
                refine awp_skip ?_
                (try simp only [AThen, ABlk, reduceIte, zF]); refine hK10 _ ?_
                refine awp_settleB [.sl 2, .sl 22] 6 ?_
                simp only [push_cast, ↓brB_true, ↓brB_false, ↓reduceIte, zA, zB, zC, zD, zE, zF, zG, zH, zI, reduceCtorEq]
                refine awp_region tyOk tyPos [] rfl ?_
                all_goals simp only [push_cast, ↓brB_true, ↓brB_false, ↓reduceIte, zA, zB, zC, zD, zE, zF, zG, zH, zI, reduceCtorEq]
                all_goals repeat' (first | (apply brB_mk <;> (intro hg; (try simp only [push_cast] at hg))) | apply And.intro | (intro hg; (try simp only [push_cast] at hg)))
                all_goals first | exact True.intro | exact rfl | contradiction | omega | with_reducible assumption | (exact getE_holT (by omega)) | (exact getE_dII (by simp only [push_cast]; omega)) | (exact getE_dII (by omega)) | skip
                refine hL2 _ ⟨(k + 1, o), ⟨by simp only; omega, by simp only; rw [filtL_no (by omega) (decide_eq_false (by omega)), ← ho]⟩, by simp only; omega, ?_⟩
                rw [holT_keep (p := famQ ps) (by omega) (decide_eq_false (by omega))]
                simp only
                refine cov_of rfl ?_ ?_ ?_ <;> simp only [covS, covL, push_cast, ↓brB_true, ↓brB_false, ↓reduceIte, zA, zB, zC, zD, zE, zF, zG, zH, zI, reduceCtorEq]
                all_goals (try (rw [List.length_append]; rfl))
            ·
              refine awp_exit ?_
              have hkk : k = (subsL (famNm ps n)).length := by omega
              subst hkk
              rw [List.take_length] at ho
              (try simp only [AThen, ABlk, reduceIte, zF]); refine hK8 _ ?_
              refine awp_seq' fun K hK => ?_
              refine awp_region tyOk tyPos [] rfl ?_
              all_goals simp only [push_cast, ↓brB_true, ↓brB_false, ↓reduceIte, zA, zB, zC, zD, zE, zF, zG, zH, zI, reduceCtorEq]
              all_goals repeat' (first | (apply brB_mk <;> (intro hg; (try simp only [push_cast] at hg))) | apply And.intro | (intro hg; (try simp only [push_cast] at hg)))
              all_goals first | exact True.intro | exact rfl | contradiction | omega | with_reducible assumption | (exact getE_holT (by omega)) | (exact getE_dII (by simp only [push_cast]; omega)) | (exact getE_dII (by omega)) | skip
              all_goals first | (refine hK _ ?_; clear hK K) | (simp only [push_cast]; done)
              refine awp_ret ?_
              (try simp only [AThen, ABlk])
              refine ⟨Or.inl rfl, ?_⟩
              simp only [RetOk, resVars, resVar, push_cast, ↓brB_true, ↓brB_false, ↓reduceIte, zA, zB, zC, zD, zE, zF, zG, zH, zI, reduceCtorEq]
              rw [famOfF_yes hyes, hyes]
              subst ho
              all_goals first | rfl | exact ⟨rfl, rfl⟩ | (simp; done)
end Go.Proofs.Ytbieekheapeopaa
